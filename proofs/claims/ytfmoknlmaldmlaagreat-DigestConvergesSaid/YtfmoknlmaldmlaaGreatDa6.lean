/- Part 6 of the laws' proofs (short forms by wip/shrink2.py). -/
import Derived.Test.YtfmoknlmaldmlaaGreatDa5
set_option linter.defProp false
set_option linter.unnecessarySimpa false
set_option linter.unusedSectionVars false
set_option linter.unusedVariables false
set_option linter.unusedSimpArgs false
namespace Go.Proofs.YtfmoknlmaldmlaaGreat
open Go.RowKit Go.Proofs.Tryz
section
structure FI where
 id:Int
 before:List Az
 after:List Az
 err:Int
def Ew (t:A8 FI) (x:Int):Option FI:=t.find? fun y=>y.id==x
def J8 (t:A8 FI) (x:Int):A8 Az:=((Ew t x).map (·.after)).getD []
def errOf (t:A8 FI) (x:Int):Int:=((Ew t x).map (·.err)).getD 0
def kR (l:A8 AO) (e:AO):Int:=bif WO l e != 0 then WO l e else MF e (U7 l e)
def RF (l:A8 AO) (t:A8 FI) (e:AO) (s:A8 Az):Int:=
 bif kR l e != 0 then kR l e else bif e.bZ.any (fun x=>errOf t x != 0)then 16 else MF e (ND l s)
def stB (l:A8 AO) (t:A8 FI) (e:AO):A8 Az:=ZK l (e.bV.map (J8 t))
def aDX (e:AO) (s:A8 Az) (r:Int):FI:=⟨e.Id,s,bif r==0&&JQ e.Kind then Ig s e.Kind e.Key e.Id else s,r⟩
def JX (l:A8 AO) (t:A8 FI) (e:AO):FI:=aDX e (stB l t e) (RF l t e (stB l t e))
def JK (l:A8 AO) (ids:A8 Int):A8 FI:=ids.foldl (fun t id=>t++[JX l t (ev l id)]) []
def Cx (l:A8 AO):A8 FI:=JK l (Ij l)
def aaO (l:A8 AO) {ids:A8 Int} {i:Nat} (h:i<ids.length):JK l (ids.take (i+1))=JK l (ids.take i)++[JX l (JK l (ids.take i)) (ev l ids[i])]:=anl h
def jY {t:A8 FI} {x:Int}:Ew t x=none↔x∉t.map (·.id):=by
 unfold Ew;rw[aD0,Ea];exact⟨fun h ⟨y,j,e⟩=>h y j Sz,fun h y j e=>h ⟨y,j,Sz⟩⟩
def aBE {t:A8 FI} {y:FI} (h:Ew t y.id=none) (x:Int):Ew (t++[y]) x=bif x==y.id then some y else Ew t x:=by
 unfold Ew at h ⊢;rw[nY];cases j:x==y.id with
 |true=>
  have e:=eq_of_beq j;subst e;rw[h];simp
 |false=>
  have :(y.id==x)=false:=by rw[←j,Nh,OQ,OQ];exact eq_comm
  simp[this]
def aAz (l:A8 AO):∀(ids:A8 Int) (t:A8 FI),(∀x∈ids,bK l x=true)->(ids.foldl (fun t id=>t++[JX l t (ev l id)]) t).map (·.id)=t.map (·.id)++ids
 | [],t,_=>BR
 |x::ids,t,h=>by
  have j:(JX l t (ev l x)).id=x:=(Ik (h x (Fz ..))).2;rw[Gj,aAz l ids _ fun y q=>h y (Gp _ q),LY,Gv,List.map_nil,j,IX];rfl
def Ov (l:A8 AO) (t:A8 FI):Prop:=∀y∈t,JH l y.before/\JH l y.after
def Ov.after {l:A8 AO} {t:A8 FI} (h:Ov l t) (x:Int):JH l (J8 t x):=by
 unfold J8;cases hl:Ew t x with
 |none=>exact .nil l
 |some y=>exact(h y (Wy hl)).2
def Ov.states {l:A8 AO} {t:A8 FI} (h:Ov l t) (ids:A8 Int):∀s∈ids.map (J8 t),JH l s:=fun s hs=>by
 obtain⟨x,_,rfl⟩:=Ea.1 hs;exact h.after x
def Ov.okay {l:A8 AO} {t:A8 FI} (h:Ov l t) (hl:l.length<=100) (hs:FV l) (ids:A8 Int) (hi:ids.length<=100):PL l (ids.map (J8 t)):=JH.okay hl hs aCS (h.states ids)
def Ov.stB {l:A8 AO} {t:A8 FI} (h:Ov l t) (hl:l.length<=100) (hs:FV l) {e:AO} (j:e.bV.length<=40):JH l (stB l t e):=JH.resolve (h.okay hl hs _ AB) (h.states _)
def Ov.line {l:A8 AO} {t:A8 FI} (h:Ov l t) (hl:l.length<=100) (hs:FV l) {e:AO} (u:e.bV.length<=40) (z:JQ e.Kind=true->bK l e.Id=true/\ev l e.Id=e):Ov l (t++[JX l t e]):=fun y j=>by
 rcases Gx.1 j with j|j
 ·exact h y j
 rw[Ih.1 j];have hp:=h.stB hl hs u;refine⟨hp,?_⟩;show JH l (bif RF l t e (Go.Proofs.YtfmoknlmaldmlaaGreat.stB l t e)==0&&JQ e.Kind then Ig _ e.Kind e.Key e.Id else _);cases q:(RF l t e (Go.Proofs.YtfmoknlmaldmlaaGreat.stB l t e)==0&&JQ e.Kind)with
 |false=>exact hp
 |true=>
  have hst:JQ e.Kind=true:=by rw[D5]at q;exact q.2
  obtain⟨I,k2⟩:=z hst;exact hp.set I k2 hst
def aj3 {l:A8 AO} {id:Int} (h:JQ (ev l id).Kind=true):bK l (ev l id).Id=true/\ev l (ev l id).Id=ev l id:=by
 cases j:ET l id with
 |none=>unfold ev at h;rw[SQ j]at h;exact absurd h Bf
 |some e=>
  have q:bK l id=true:=by unfold bK;rw[j];rfl
  have :=(Ik q).2;rw[this];exact⟨q,rfl⟩
def ag9 :EU FT:=⟨Ec _,Ec _,Ec _,Ec _,Ec _,Ec _,Ec _,Ec _,Ec _,Ec _,Ec _,Ec _,fun _ h=>absurd h Ez,fun _ h=>absurd h Ez,fun _ h=>absurd h Ez⟩
def aMb {l:A8 AO} (hs:FV l) (id:Int):EU (ev l id):=by
 unfold ev Jm;cases h:ET l id with
 |none=>exact ag9
 |some e=>exact hs e (Jh h)
def aFE {l:A8 AO} (hl:l.length<=100) (hs:FV l):∀(ids:A8 Int) (t:A8 FI),Ov l t->Ov l (ids.foldl (fun t id=>t++[JX l t (ev l id)]) t)
 | [],t,h=>h
 |x::ids,t,h=>by rw[Gj];exact aFE hl hs ids _ (h.line hl hs (aMb hs x).prev aj3)
structure PG (t:List FI) (m1 m2:List (Int×List Az)) (m3:List (Int×Int)):Prop where
 b:∀x,Ce m1 x=(Ew t x).map (·.before)
 a:∀x,Ce m2 x=(Ew t x).map (·.after)
 r:∀x,Ce m3 x=(Ew t x).map (·.err)
def PG.after {t:A8 FI} {q j:A8 (Int×A8 Az)} {u:A8 (Int×Int)} (h:PG t q j u) (x:Int):(Ce j x).getD []=J8 t x:=by rw[h.a];rfl
def PG.err {t:A8 FI} {q u:A8 (Int×A8 Az)} {j:A8 (Int×Int)} (h:PG t q u j) (x:Int):(Ce j x).getD 0=errOf t x:=by rw[h.r];rfl
def abR {t:A8 FI} {q u:A8 (Int×A8 Az)} {z:A8 (Int×Int)} (h:PG t q u z) (l:A8 AO) (e:AO) (s:A8 Az) (hl:l.length<=100) (hs:FV l) (j:EU e) (I:s.length<=100):
 aC9 q u z l e s=some (RF l t e s):=by
 have L:=j.auth;have M:=aIP l s;unfold aC9 RF kR;rw[aj6 l e hl j,Ad];cases J:WO l e != 0 with
 |true=>simp only[Bq];rw[J];rfl
 |false=>
  simp only[BH];rw[aOt l e AB AB,Ad,aEK e _ (EY (aNg l e) AB) (hs.from e) j,Ad];cases ha:MF e (U7 l e) != 0 with
  |true=>rfl
  |false=>
   simp only[BH];unfold aMq;rw[Jo e.bZ (fuel_lt AB) (fun x=>errOf t x != 0) 16 (some (MF e (ND l s)))]
   ·cases e.bZ.any (fun x=>errOf t x != 0)<;>rfl
   ·intro k i hi;unfold aGm;rw[DV hi,h.err]
   intro k;unfold aGm;rw[En,aP1 l s hl AB,Ad,aEK e (ND l s) AB (aOl hs _) j];rfl
def PG.snoc {t:A8 FI} {I J j q:A8 (Int×A8 Az)} {L u:A8 (Int×Int)} (h:PG t I J L) {y:FI} (z:Ew t y.id=none)
 (M:∀x,Ce j x=bif x==y.id then some y.before else Ce I x) (O:∀x,Ce q x=bif x==y.id then some y.after else Ce J x) (U:∀x,Ce u x=bif x==y.id then some y.err else Ce L x):PG (t++[y]) j q u:=by
 refine⟨fun x=>?_,fun x=>?_,fun x=>?_⟩
 ·rw[M,aBE z,h.b];cases x==y.id<;>rfl
 ·rw[O,aBE z,h.a];cases x==y.id<;>rfl
 rw[U,aBE z,h.r];cases x==y.id<;>rfl
def add_eq {t:A8 FI} {z I:A8 (Int×A8 Az)} {J:A8 (Int×Int)} (h:PG t z I J) (l:A8 AO) (e:AO) (hl:l.length<=100) (hs:FV l) (L:EU e) (M:Ov l t) (O:Ew t e.Id=none):
 dU (aCI z I J l e) (fun r=>PG (t++[JX l t e]) r.1 r.2.1 r.2.2):=by
 have U:=L.prev;unfold aCI aa5;refine MJ e.bV.length (fuel_lt AB) (fun i a=>a=(e.bV.take i).map (J8 t)) rfl (fun i a k hi ha Y=>?_) fun a k ha=>?_
 ·have Z:a.length<=i:=aJI
  unfold aGA;rw[DV hi,Ep Ic,Ad,wrap_succ i AB,h.after];exact Y _ (by rw[map_take hi,ha])
 rw[J7]at ha;subst ha;unfold aGA;have hp:JH l (stB l t e):=M.stB hl hs U;have hpl:=hp.length;have u:dh l (e.bV.map (J8 t))=some (stB l t e):=aOr (M.okay hl hs _ AB);rw[En,u,Ad,abR h l e _ hl hs L AB,Ad];have j:JX l t e=aDX e (stB l t e) (RF l t e (stB l t e)):=rfl;rw[j];generalize RF l t e (stB l t e)=r;have q:∀(c d f:AQ) {R:Type} (g:AQ->AL R),((bif c then some d else some false).bind fun x9=>(bif x9 then some f else some false).bind g)=g (c&&(d&&f)):=fun c d f R g=>by cases c<;>cases d<;>rfl
 rw[q];show dU (bif (r==0&&JQ e.Kind)then _ else _) _;unfold aDX;cases hc:(r==0&&JQ e.Kind)with
 |true=>
  simp only[Bq];rw[YD _ _ _ _ AB,Ad];refine .ret (h.snoc O (fun x=>RD ..) (fun x=>?_) fun x=>RD ..);rw[RD,RD];cases x==e.Id<;>rfl
 |false=>exact .ret (h.snoc O (fun x=>RD ..) (fun x=>RD ..) fun x=>RD ..)
def run_go (l:A8 AO) (ids:A8 Int) (hl:l.length<=100) (hs:FV l) (u:∀x∈ids,bK l x=true) (z:ids.Nodup) (J:ids.length<=1000):dU (aKB ids l 0 [] [] []) (fun o=>∃T,o=some T/\PG (JK l ids) T.1 T.2.1 T.2.2):=by
 unfold aKB;refine aQC (body:=aKe ids l) (Q:=fun o=>∃T,o=some T/\PG (JK l ids) T.1 T.2.1 T.2.2) (fun n a b c d=>∃i:Nat,a=i/\i+n=ids.length/\PG (JK l (ids.take i)) b c d) ?_ Aw ids.length 0 [] [] [] (fuel_lt AB) ⟨0,rfl,AB,⟨fun x=>rfl,fun x=>rfl,fun x=>rfl⟩⟩;rintro n a b c d k ⟨i,rfl,Z,hm⟩ L;unfold aKe;by_cases hi:i<ids.length
 ·have I:=u _ (E5 hi)
  have q:Ew (JK l (ids.take i)) (ev l ids[i]).Id=none:=by
   rw[jY,(Ik I).2];unfold JK;rw[aAz l _ _ fun x M=>u x (kQ M),List.map_nil,Jr];intro hm;obtain⟨j,O,e⟩:=Gf hm;rw[IB]at O;rw[aDU]at e;have :=KI.1 (qZ.1 z) j i AB hi AB;exact this e
  rw[DV hi,Ns l _ AB,Ad];refine(add_eq hm l _ hl hs (aMb hs ids[i]) (aFE hl hs _ _ fun y U=>absurd U Ez) q).bind fun r Y=>?_;exact L (n-1) _ _ _ _ AB ⟨i+1,wrap_succ i AB,AB,by rw[aaO l hi];exact Y⟩
 have :i=ids.length:=AB
 subst this;rw[En];exact .ret ⟨_,rfl,by rw[J7]at hm;exact hm⟩
structure Jp (l:List AO):Prop where
 len:l.length<=100
 small:FV l
 nodup:(l.map (·.Id)).Nodup
 dep:yE l
def Fe {l:A8 AO} {x:Int}:bK l x=true↔x∈l.map (·.Id):=by
 unfold bK ET;rw[List.find?_isSome,Ea];exact⟨fun⟨e,j,h⟩=>⟨e,j,LC⟩,fun⟨e,j,h⟩=>⟨e,j,LC⟩⟩
def aP4 (l:A8 AO):(Ij l).Perm (l.map (·.Id)):=(aHs l).map _
def Zv {l:A8 AO} {x:Int}:x∈Ij l↔bK l x=true:=by rw[(aP4 l).mem_iff,Fe]
def aoU (l:A8 AO):(Ij l).length=l.length:=by unfold Ij;rw[Cm,aRK]
def Jp.order {l:A8 AO} (h:Jp l):(Ij l).Nodup:=(aP4 l).nodup_iff.2 h.nodup
def Tv (l:A8 AO) (c:Int):A8 FI:=bif c==0&&Gw l==0 then Cx l else[]
def run_eq (l:A8 AO) {c:Int} (z:NM l=some c) (h:c=0->Jp l):
 dU (Z9 l) (fun o=>(Tv l c=[]/\o=none)\/(Tv l c=Cx l/\Jp l/\∃T,o=some T/\PG (Cx l) T.1 T.2.1 T.2.2)):=by
 unfold Z9 Tv;rw[z,Ad];by_cases u:c=0
 ·subst u;have j:=h rfl;rw[aSt l j.len j.small j.dep];cases hd:Gw l==0 with
  |false=>
   have q:(Gw l != 0)=true:=by unfold bne;rw[hd];rfl
   simp only[YZ,BH,Ad,q,Bq];exact .ret (.inl ⟨rfl,rfl⟩)
  |true=>
   have q:(Gw l != 0)=false:=by unfold bne;rw[hd];rfl
   simp only[YZ,BH,Ad,q];rw[ahy l (by have :=j.len;omega),Ad];exact(run_go l (Ij l) j.len j.small (fun x I=>Zv.1 I) j.order (by rw[aoU];have :=j.len;omega)).mono fun o J=>.inr ⟨rfl,j,J⟩
 have L:(c != 0)=true:=WC
 have M:(c==0)=false:=WC
 rw[L,M];exact .ret (.inl ⟨rfl,rfl⟩)
def aRX {l:A8 AO} (h:Jp l):Ov l (Cx l):=aFE h.len h.small _ _ fun y j=>absurd j Ez
def aFK (l:A8 AO):(Cx l).map (·.id)=Ij l:=by
 have :=aAz l (Ij l) [] fun x j=>Zv.1 j;simpa[Cx,JK]using this
def aCB {l:A8 AO} {x:Int} (h:bK l x=true):∃y,Ew (Cx l) x=some y:=by
 cases hl:Ew (Cx l) x with
 |some y=>exact⟨y,rfl⟩
 |none=>rw[jY,aFK]at hl;exact absurd (Zv.2 h) hl
def HY (t:A8 FI) (x:Int):AQ:=match Ew t x with
 |some y=>y.err==0
 |none=>false
def GZ (l:A8 AO) (t:A8 FI):A8 Int:=(l.filter fun e=>HY t e.Id).map (·.Id)
def QC (l:A8 AO) (t:A8 FI):A8 Az:=ZK l ((KL l (GZ l t)).map (J8 t))
def aAr (l:A8 AO) (t:A8 FI):(GZ l t).length<=l.length:=by unfold GZ;rw[Cm];exact LZ _ _
def aSG (l:A8 AO):GZ l []=[]:=by
 unfold GZ;rw[aCf.2 fun e _=>by unfold HY Ew;simp];rfl
def aIC (l:A8 AO):QC l []=[]:=by unfold QC;rw[aSG];rfl
def aRR {l:A8 AO} {t:A8 FI} {i:Nat} (h:i<l.length):GZ (l.take (i+1)) t=GZ (l.take i) t++bif HY t l[i].Id then[l[i].Id]else[]:=by
 unfold GZ;rw[aK5 h,LY];cases HY t l[i].Id<;>rfl
def aeZ {l:A8 AO} {x:Int} (h:bK l x=true):HY (Cx l) x=(errOf (Cx l) x==0):=by
 obtain⟨y,j⟩:=aCB h;unfold HY errOf;rw[j];rfl
def aQk {l:A8 AO} {j q:A8 (Int×A8 Az)} {u:A8 (Int×Int)} (h:PG (Cx l) j q u) (hl:l.length<=100):aj j q u l=some (GZ l (Cx l)):=by
 unfold aj
 have hp:aDx l j q u=some (GZ l (Cx l)):=by
  unfold aDx aTs;refine dU.eq (MJ l.length (fuel_lt AB) (fun i a=>a=GZ (l.take i) (Cx l)) rfl (fun i a k hi ha z=>?_) fun a k ha=>?_)
  ·have J:a.length<=i:=by rw[ha];exact EY (aAr _ _) xu
   unfold aIs aJQ Src;rw[DV hi,Ad,h.err,←aeZ (Fe.2 (Ea.2 ⟨_,E5 hi,rfl⟩)),wrap_succ i AB];cases I:HY (Cx l) l[i].Id with
   |true=>
    rw[Bq,Dn hi,Ad,Ep Ic,Ad];exact z _ (by rw[aRR hi,I,ha];rfl)
   |false=>exact z _ (by rw[aRR hi,I,ha];simp)
  unfold aIs;rw[En];exact .ret (by rw[ha,J7])
 rw[hp];rfl
def alx {l:A8 AO} {c:Int} (z:NM l=some c) (h:c=0->Jp l):pU l=some (QC l (Tv l c)):=by
 unfold pU;refine dU.eq ((run_eq l z h).bind fun o j=>?_);rcases j with⟨q,rfl⟩|⟨q,j,T,rfl,u⟩
 ·rw[q,aIC];exact .ret rfl
 rw[q];have hl:=j.len;have ha:=aAr l (Cx l);have I:=aNP l (GZ l (Cx l));show dU ((aj T.1 T.2.1 T.2.2 l).bind _) _;rw[aQk u hl,Ad,aR6 l _ hl j.small AB,Ad];unfold QC;generalize KL l (GZ l (Cx l))=H at I;unfold aSU;refine MJ H.length (fuel_lt AB) (fun i a=>a=(H.take i).map (J8 (Cx l))) rfl (fun i a k hi ha J=>?_) fun a k ha=>?_
 ·have L:a.length<=i:=aJI
  unfold aG8;rw[DV hi,Ep Ic,Ad,u.after,wrap_succ i AB];exact J _ (by rw[map_take hi,ha])
 rw[J7]at ha;unfold aG8;rw[En,ha,aOr ((aRX j).okay hl j.small _ AB),Ad];exact .ret rfl
def aR8 {l:A8 AO} {c:Int} (h:c=0->Jp l):JH l (QC l (Tv l c)):=by
 unfold Tv;cases q:(c==0&&Gw l==0)with
 |false=>rw[BH,aIC];exact .nil l
 |true=>
  rw[D5]at q;have j:=h (eq_of_beq q.1);have u:=aRX j;have ha:=aAr l (Cx l);have z:=aNP l (GZ l (Cx l));have hl:=j.len;rw[Bq];exact JH.resolve (u.okay hl j.small _ AB) (u.states _)
def ahG {α:Type} {lt:α->α->AQ} (L:∀a b c,lt b a=false->lt c b=false->lt c a=false) (ha:∀a b,lt a b=true->lt b a=false) (x:α):
 ∀n (A:A8 α),A.length=n->A.Pairwise (fun a b=>lt b a=false)->(Jw lt A x).Pairwise fun a b=>lt b a=false:=by
 intro n
 induction n with
 |zero=>
  intro A q _;obtain rfl:=Gy q;exact aFb ..
 |succ n M=>
  intro A q hA;rcases List.eq_nil_or_concat A with rfl|⟨B,a,rfl⟩
  ·cases q
  rw[List.concat_eq_append]at q hA ⊢;have q:B.length=n:=Oh
  obtain⟨O,_,J⟩:=Zl.1 hA;cases u:lt x a with
  |true=>
   rw[aaG u];refine Zl.2 ⟨M B q O,aFb ..,fun y j z I=>?_⟩;rw[Ih.1 I];rcases EZ.1 ((aS0 B x).mem_iff.1 j)with rfl|j
   ·exact ha _ _ u
   exact J y j a (Ih.2 rfl)
  |false=>
   rw[aOT u,show B++a::[x]=(B++[a])++[x] by simp];refine Zl.2 ⟨hA,aFb ..,fun y j z I=>?_⟩;rw[Ih.1 I];rcases Gx.1 j with j|j
   ·exact L y a x (J y j a (Ih.2 rfl)) u
   rw[Ih.1 j];exact u
def aKQ {a b:AO}:Qd b a=false↔a.Depth<b.Depth\/(a.Depth=b.Depth/\a.Id<=b.Id):=by
 unfold Qd;rw[dL,aGH,WA,WA,Zg];omega
def ado (l:A8 AO):(V3 l).Pairwise fun a b=>Qd b a=false:=by
 have key:∀(l A:A8 AO),A.Pairwise (fun a b=>Qd b a=false)->(l.foldl (Jw Qd) A).Pairwise fun a b=>Qd b a=false:=by
  intro l
  induction l with
  |nil=>exact fun A h=>h
  |cons x l j=>
   intro A h;rw[Gj];refine j _ (ahG (fun a b c q u=>?_) (fun a b h=>?_) x _ A rfl h)
   ·rw[aKQ]at *;omega
   rw[aKQ];unfold Qd at h;rw[Zq,D5,Ht,Ht,OQ]at h;omega
 exact key l [] .nil
def aH {l:A8 AO} (M:(l.map (·.Id)).Nodup) {e:AO} (h:e∈l):ev l e.Id=e:=by
 have O:bK l e.Id=true:=Fe.2 (Ea.2 ⟨e,h,rfl⟩);obtain⟨U,I⟩:=Ik O;have Y:=Jh U;obtain⟨i,hi,q⟩:=Gf Y;obtain⟨j,J,u⟩:=Gf h;have hp:=KI.1 (qZ.1 M)
 have hm:∀a b (ha:a<l.length) (L:b<l.length),a<b->l[a].Id≠l[b].Id:=fun a b ha L z=>by
  have :=hp a b (by simpa using ha) UE z;simpa using this
 rcases lH i j with h|h|h
 ·exact absurd (by rw[q,u,I]) (hm i j hi J h)
 ·subst h;rw[←q,u]
 exact absurd (by rw[q,u,I]) (hm j i J hi h)
def ajF {l:A8 AO} (I:(l.map (·.Id)).Nodup) {i:Nat} (hi:i<(Ij l).length) {a:Int} (J:bK l a=true) (hd:(ev l a).Depth<(ev l (Ij l)[i]).Depth):a∈(Ij l).take i:=by
 obtain⟨L,M⟩:=Ik J;have hm:ev l a∈V3 l:=(aHs l).mem_iff.2 (Jh L);obtain⟨j,O,u⟩:=Gf hm;have q:i<(V3 l).length:=by simpa[Ij]using hi
 have U:(Ij l)[i]=(V3 l)[i].Id:=Nl (fun x:AO=>x.Id);have z:ev l (Ij l)[i]=(V3 l)[i]:=by rw[U];exact aH I ((aHs l).mem_iff.1 (E5 q))
 have Y:j<i:=by
  rcases lH j i with h|h|h
  ·exact h
  ·subst h;rw[z,←u]at hd;omega
  have :=KI.1 (ado l) i j q O h;rw[aKQ]at this;rw[z,←u]at hd;omega
 refine aLG.2 ⟨j,AB,?_⟩;unfold Ij;rw[Nl,u,M]
def an4 {t:A8 FI} {x:Int} {y:FI} (h:Ew t x=some y) (z:FI):Ew (t++[z]) x=some y:=by
 unfold Ew at *;rw[nY,h];rfl
def ZM {l:A8 AO} (hd:Gw l=0) {e:AO} (z:e∈l):(∀a∈e.bZ,bK l a=true/\(ev l a).Depth<e.Depth)/\∀a∈e.bV,bK l a=true/\(ev l a).Depth<e.Depth:=by
 unfold Gw at hd;cases u:QU l with
 |false=>rw[u]at hd;cases hd
 |true=>
  rw[u,Bq]at hd;cases I:l.all (Jz l)with
  |false=>rw[I]at hd;cases hd
  |true=>
   have j:=Dw.1 u e z;have q:=Dw.1 I e z;unfold G5 at j;unfold Jz at q;rw[D5,Dw,Dw]at j;rw[D5,Dw]at q;refine⟨fun a ha=>⟨j.2 a ha,QV (q.1 a ha)⟩,fun a ha=>⟨j.1 a ha,?_⟩⟩
   have hp:((e.bV.length:Int)==0)=false:=by
    have :0<e.bV.length:=aDJ ha;rw[Zg];omega
   have J:=q.2;rw[hp,BH,D5,Dw]at J;exact QV (J.1 a ha)
structure FD (x y:AO):Prop where
 id:y.Id=x.Id
 room:y.Room=x.Room
 sender:y.bH=x.bH
 kind:y.Kind=x.Kind
 key:y.Key=x.Key
 time:y.Time=x.Time
 depth:y.Depth=x.Depth
 prev:y.bV=x.bV
 auth:y.bZ=x.bZ
 n:x.Kind=2\/x.Kind=4->y.Content.N=x.Content.N
 levels:x.Kind=3->y.Content.Levels=x.Content.Levels
def FD.refl (x:AO):FD x x:=⟨rfl,rfl,rfl,rfl,rfl,rfl,rfl,rfl,rfl,fun _=>rfl,fun _=>rfl⟩
inductive I9 :List AO->List AO->Prop
 |nil:I9 [] []
 |cons {x y:AO} {xs ys:List AO} (h:FD x y) (t:I9 xs ys):I9 (x::xs) (y::ys)
def I9.append {a b c d:A8 AO} (h:I9 a b) (k:I9 c d):I9 (a++c) (b++d):=by
 induction h with
 |nil=>exact k
 |cons h _ j=>exact .cons h j
def I9.flat {α:Type} {f g:α->A8 AO}:∀(l:A8 α),(∀x∈l,I9 (f x) (g x))->I9 (l.flatMap f) (l.flatMap g)
 | [],_=>.nil
 |x::l,h=>by
  rw[Nj,Nj];exact(h x (Fz ..)).append (I9.flat l fun y j=>h y (Gp _ j))
def I9.any {p:AO->AQ} (hp:∀x y,FD x y->p y=p x) {a b:A8 AO} (h:I9 a b):b.any p=a.any p:=by
 induction h with
 |nil=>rfl
 |cons h _ j=>rw[ZB,ZB,hp _ _ h,j]
def I9.all {p:AO->AQ} (hp:∀x y,FD x y->p y=p x) {a b:A8 AO} (h:I9 a b):b.all p=a.all p:=by
 induction h with
 |nil=>rfl
 |cons h _ j=>rw[uj,uj,hp _ _ h,j]
def I9.find {p:AO->AQ} (hp:∀x y,FD x y->p y=p x) {a b:A8 AO} (h:I9 a b):(a.find? p=none/\b.find? p=none)\/∃x y,a.find? p=some x/\b.find? p=some y/\FD x y/\p x=true:=by
 induction h with
 |nil=>exact .inl ⟨rfl,rfl⟩
 | @cons x y xs ys h _ j=>
   rw[Vr,Vr,hp _ _ h];cases q:p x with
   |true=>exact .inr ⟨x,y,rfl,rfl,h,q⟩
   |false=>exact j
def I9.one {x y:AO} (h:FD x y):I9 [x] [y]:=.cons h .nil
def aJk {k:Az} {x y:AO} (h:FD x y):FK k y=FK k x:=by unfold FK;rw[h.kind,h.key]
def aeu {x y:AO} (h:FD x y):cO y=cO x:=by
 unfold cO;rw[h.kind,h.key,h.sender];cases j:x.Kind==2 with
 |false=>rfl
 |true=>rw[h.n (.inl (eq_of_beq j))]
def aGx {x y:AO} (h:FD x y):keysOf y=keysOf x:=by
 unfold keysOf P7;rw[h.kind,h.key,h.sender];cases j:x.Kind==2 with
 |false=>rfl
 |true=>rw[h.n (.inl (eq_of_beq j))]
section
variable {a b:A8 AO}
def alE (h:I9 a b):(L8 b).2=(L8 a).2/\FD (L8 a).1 (L8 b).1:=by
 unfold L8;rcases h.find (p:=fun x=>x.Kind==1) (fun x y h=>by rw[h.kind])with⟨j,q⟩|⟨x,y,j,q,u,_⟩
 ·rw[j,q];exact⟨rfl,.refl _⟩
 rw[j,q];exact⟨rfl,u⟩
def aPk {u:BI} {x y:AO} (h:FD x y):QM u y=QM u x:=by unfold QM;rw[h.kind,h.key]
def aHD (h:I9 a b) (u:BI):LP b u=LP a u:=by
 unfold LP;rcases h.find (p:=QM u) (fun x y h=>aPk h)with⟨j,q⟩|⟨x,y,j,q,I,z⟩
 ·rw[j,q]
 rw[j,q];unfold QM at z;rw[D5]at z;exact I.n (.inl (eq_of_beq z.1))
def aoG (h:I9 a b):Ul b=Ul a:=by
 unfold Ul;rcases h.find (p:=fun x=>x.Kind==1) (fun x y h=>by rw[h.kind])with⟨j,q⟩|⟨x,y,j,q,u,_⟩
 ·rw[j,q]
 rw[j,q];exact u.sender
def aGS (h:I9 a b):GH b=GH a:=by
 unfold GH;rcases h.find (p:=fun x=>x.Kind==3) (fun x y h=>by rw[h.kind])with⟨j,q⟩|⟨x,y,j,q,u,z⟩
 ·rw[j,q,aoG h]
 rw[j,q];exact u.levels (eq_of_beq z)
def ai2 (h:I9 a b):(bY b).1=(bY a).1:=by
 unfold bY;rcases h.find (p:=fun x=>x.Kind==4) (fun x y h=>by rw[h.kind])with⟨j,q⟩|⟨x,y,j,q,u,z⟩
 ·rw[j,q]
 rw[j,q];exact u.n (.inr (eq_of_beq z))
def aGt {e f:AO} (j:FD e f) (h:I9 a b):MF f b=MF e a:=by
 unfold MF;obtain⟨J,L⟩:=alE h;rw[j.kind,j.sender,j.room,J];cases e.Kind==1 with
 |true=>rfl
 |false=>
 cases(L8 a).2 with
 |false=>rfl
 |true=>
 cases M:e.Kind==2 with
 |true=>
  have I:=j.n (.inl (eq_of_beq M));simp only[BH,F6,Bq]
  have q:bT f b=bT e a:=by
   unfold bT;rw[J,j.prev,j.sender,j.key,I,L.id,L.sender,h.any fun x y h=>aPk h]
  have u:∀m now,iT m now b=iT m now a:=fun m now=>by unfold iT;rw[ai2 h]
  have z:∀now,jK f b now=jK e a now:=fun now=>by
   unfold jK;rw[aHD h,j.sender,j.key,I,aGS h]
  unfold zI;rw[q,j.key,j.sender,I,aHD h,u,z]
 |false=>
  simp only[BH,F6];rw[aHD h]
  have hl:jq f b=jq e a:=by
   unfold jq;rw[aGS h,j.sender,j.kind];cases O:e.Kind==3 with
   |false=>rfl
   |true=>rw[j.levels (eq_of_beq O)]
  rw[hl]
end
structure GL (l l':List AO) (S:List Int):Prop where
 nodup:S.Nodup
 mem:∀x∈S,bK l x=true/\bK l' x=true/\FD (ev l x) (ev l' x)
 prev:∀x∈S,∀a∈(ev l x).bV,a∈S
 auth:∀x∈S,∀a∈(ev l x).bZ,a∈S
section
variable {l l':A8 AO} {S:A8 Int} (h:GL l l' S)
include h
theorem GL.ids {ids:A8 Int} (hi:∀x∈ids,x∈S):I9 (ofIds l ids) (ofIds l' ids):=by
 induction ids with
 |nil=>exact .nil
 |cons x ids j=>
  obtain⟨q,k2,k3⟩:=h.mem x (hi x (Fz ..));unfold ofIds at j ⊢;rw[Ob,Ob,(Ik q).1,(Ik k2).1];exact .cons k3 (j fun y u=>hi y (Gp _ u))
theorem GL.ku {x:Int} (j:x∈S):ku l' x=ku l x:=(h.mem x j).2.2.auth
theorem GL.ch {ids:A8 Int} (hi:∀x∈ids,x∈S) {x:Int} (z:RG l ids x):x∈S/\RG l' ids x:=by
 induction z with
 |one q j _=>
  have hs:=h.auth _ (hi _ q) _ j;exact⟨hs,.one q (by rw[h.ku (hi _ q)];exact j) (h.mem _ hs).2.1⟩
 |more _ j _ u=>
  have hs:=h.auth _ u.1 _ j;exact⟨hs,.more u.2 (by rw[h.ku u.1];exact j) (h.mem _ hs).2.1⟩
theorem GL.ch' {ids:A8 Int} (hi:∀x∈ids,x∈S) {x:Int} (z:RG l' ids x):x∈S/\RG l ids x:=by
 induction z with
 |one q j _=>
  rw[h.ku (hi _ q)]at j;have hs:=h.auth _ (hi _ q) _ j;exact⟨hs,.one q j (h.mem _ hs).1⟩
 |more _ j _ u=>
  rw[h.ku u.1]at j;have hs:=h.auth _ u.1 _ j;exact⟨hs,.more u.2 j (h.mem _ hs).1⟩
theorem GL.chain {ids:A8 Int} (hi:∀x∈ids,x∈S):chainOf l' ids=chainOf l ids:=GY (aEE _ _) (aEE _ _) fun x=>by
 rw[uH,uH];exact⟨fun j=>(h.ch' hi j).2,fun j=>(h.ch hi j).2⟩
theorem GL.at1 {ids:A8 Int} (hi:∀x∈ids,x∈S):∀x∈chainOf l ids,x∈S:=fun _ j=>(h.ch hi (uH.1 j)).1
theorem GL.from {e f:AO} (u:FD e f) (hi:∀x∈e.bZ,x∈S):I9 (U7 l e) (U7 l' f):=by
 unfold U7;rw[aGx u,u.auth];refine I9.flat _ fun k _=>?_;rcases(h.ids hi).find (p:=FK k) (fun x y h=>aJk h)with⟨j,q⟩|⟨x,y,j,q,z,_⟩
 ·rw[j,q];exact .nil
 rw[j,q];exact .one z
theorem GL.fits {e f:AO} (L:FD e f) (hi:∀x∈e.bZ,x∈S):WO l' f=WO l e:=by
 have hs:=h.ids hi
 have O:e.bZ.all (bK l')=e.bZ.all (bK l):=by
  rw[Nh,Dw,Dw];exact⟨fun _ x z=>(h.mem x (hi x z)).1,fun _ x z=>(h.mem x (hi x z)).2.1⟩
 have U:∀(I:A8 Az) {xs ys:A8 AO},I9 xs ys->∀{q j:A8 AO},I9 q j->QA I j ys=QA I q xs:=by
  intro I xs ys M
  induction M with
  |nil=>intro q j _;rfl
  | @cons x y xs ys z _ Y=>
    intro q j hp;have hm:(I.any fun k=>FK k y)=I.any fun k=>FK k x:=Bo (fun p=>I.any p) (funext fun k=>aJk z)
    have hl:j.any (TM y)=q.any (TM x):=by
     rw[show TM y=TM x from funext fun u=>by unfold TM;rw[z.kind,z.key]];exact hp.any fun u v J=>by unfold TM;rw[J.kind,J.key]
    unfold QA;rw[Y (hp.append (.one z)),hm,hl]
 unfold WO;rw[L.auth,L.kind,L.room,aGx L,O,hs.all (fun x y h=>by rw[h.room]),U _ hs .nil,hs.any (fun x y h=>by unfold aQ;rw[h.kind,h.key])]
omit h in
theorem find_congr {p q:Int->AQ}:∀(l:A8 Int),(∀x∈l,p x=q x)->l.find? p=l.find? q
 | [],_=>rfl
 |x::l,h=>by rw[Vr,Vr,h x (Fz ..),find_congr l fun y j=>h y (Gp _ j)]
omit h in
theorem kS :∀{a b:A8 Int},a.Nodup->(∀x∈a,x∈b)->a.length<=b.length
 | [],_,_,_=>Ec _
 |x::a,b,u,hs=>by
  have j:=hs x (Fz ..);obtain⟨z,I⟩:=Iq.1 u;have :=kS (b:=b.erase x) I fun y q=>(List.mem_erase_of_ne fun e=>z (by rw[←e];exact q)).2 (hs y (Gp _ q));rw[List.length_erase_of_mem j]at this;have J:0<b.length:=aDJ j;rw[GI];omega
theorem GL.power {x:Int} (j:x∈S):QH l' (ev l' x)=QH l (ev l x):=by
 unfold QH;rw[(h.mem x j).2.2.auth];refine find_congr _ fun a ha=>?_;obtain⟨q,k2,k3⟩:=h.mem a (h.auth x j a ha);rw[q,k2,k3.kind]
theorem GL.CW:∀(n m:Nat) (seen:A8 Int) (id:Int),id∈S->seen.Nodup->(∀x∈seen,x∈S)->S.length<=seen.length+n->S.length<=seen.length+m->CW l' m seen id=CW l n seen id:=by
 have q:∀(seen:A8 Int) (id:Int),id∈S->seen.Nodup->(∀x∈seen,x∈S)->S.length<=seen.length->id∈seen:=fun seen id j I hs hl=>by
  refine X8 fun z=>?_
  have :=kS (a:=id::seen) (b:=S) (Iq.2 ⟨z,I⟩) fun x J=>by
   rcases EZ.1 J with rfl|J
   ·exact j
   exact hs x J
  rw[GI]at this;omega
 have u:∀(l:A8 AO) (n:Nat) (seen:A8 Int) (id:Int),id∈seen->Go.Proofs.YtfmoknlmaldmlaaGreat.CW l n seen id=seen:=fun l n seen id j=>by
  cases n with
  |zero=>rfl
  |succ n=>unfold Go.Proofs.YtfmoknlmaldmlaaGreat.CW;rw[NH.2 j];rfl
 intro n
 induction n with
 |zero=>
  intro m seen id j I hs M _;have :=q seen id j I hs AB;rw[u l' m seen id this,u l 0 seen id this]
 |succ n O=>
  intro m seen id j I hs M h2;by_cases z:id∈seen
  ·rw[u l' m seen id z,u l (n+1) seen id z]
  obtain⟨m,rfl⟩:∃U,m=U+1:=by
   cases m with
   |zero=>exact absurd (q seen id j I hs AB) z
   |succ m=>exact⟨m,rfl⟩
  obtain⟨Y,k2,k3⟩:=h.mem id j;unfold Go.Proofs.YtfmoknlmaldmlaaGreat.CW;rw[RJ.2 z,Y,k2,h.power j];cases hp:QH l (ev l id)with
  |none=>rfl
  |some x=>
   have J:x∈S:=h.auth id j x (Wy hp);refine O m (seen++[id]) x J (kD.2 ⟨I,BR,fun a ha b Z=>?_⟩) (fun y L=>?_) aFe aFe
   ·rw[Ih.1 Z];exact fun e=>z (e▸ha)
   rcases Gx.1 L with L|L
   ·exact hs y L
   rw[Ih.1 L];exact j
theorem GL.way {x:Int} (j:x∈S):jP l' x=jP l x:=by
 have q:S.length<=l.length:=by
  have :=kS (b:=l.map (·.Id)) h.nodup fun x j=>Fe.1 (h.mem x j).1
  rwa [Cm]at this
 have u:S.length<=l'.length:=by
  have :=kS (b:=l'.map (·.Id)) h.nodup fun x j=>Fe.1 (h.mem x j).2.1
  rwa [Cm]at this
 exact h.CW _ _ [] x j .nil (fun _ h=>absurd h Ez) Oh WC
theorem GL.item {j:A8 Int} {x:Int} (q:x∈S):Nr l' j x=Nr l j x:=by
 unfold Nr aI7;rw[h.way q,(h.mem x q).2.2.time]
theorem GL.EH {j ids:A8 Int} (hi:∀x∈ids,x∈S):EH l' j ids=EH l j ids:=by
 unfold Go.Proofs.YtfmoknlmaldmlaaGreat.EH;rw[Ud (q:=bK l) fun x u=>by rw[(h.mem x (hi x u)).1,(h.mem x (hi x u)).2.1],jU fun x u=>h.item (hi x (Fa.1 u).1)]
theorem GL.EG {full:A8 Int} (hi:∀x∈full,x∈S):EG l' full=EG l full:=by
 unfold Go.Proofs.YtfmoknlmaldmlaaGreat.EG;refine Ud fun x j=>?_;obtain⟨q,k2,k3⟩:=h.mem x (hi x j);unfold YL;rw[q,k2,aeu k3]
theorem GL.XU {full:A8 Int} (hi:∀x∈full,x∈S):XU l' full=XU l full:=by
 unfold Go.Proofs.YtfmoknlmaldmlaaGreat.XU;rw[h.EG hi,h.chain (ids:=Go.Proofs.YtfmoknlmaldmlaaGreat.EG l full) fun x j=>hi x (Fa.1 j).1]
theorem GL.rZ {ids:A8 Int} (hi:∀x∈ids,x∈S):rZ l' ids=rZ l ids:=by
 unfold Go.Proofs.YtfmoknlmaldmlaaGreat.rZ;exact Ud fun x j=>by rw[(h.mem x (hi x (LH.1 j))).1,(h.mem x (hi x (LH.1 j))).2.1]
theorem GL.one {x:Int} (j:x∈S):chainOf l' [x]=chainOf l [x]:=h.chain fun y q=>by rw[Ih.1 q];exact j
theorem GL.node {x:Int} (j:x∈S):Fp l' x=Fp l x:=by
 obtain⟨_,_,k3⟩:=h.mem x j;unfold Fp aKv;rw[aGS (h.from k3 (h.auth x j)),k3.sender,k3.time,h.one j]
omit h in
theorem ac8 (l:A8 AO) (left:A8 Int) (b:AL Int) (x:Int):Jq l left b x=some x\/Jq l left b x=b:=by
 unfold Jq;cases b with
 |none=>cases iw l left x<;>simp
 |some y=>
  simp only[];cases iw l left x<;>cases wR (Fp l x) (Fp l y)<;>simp
theorem GL.best {left:A8 Int}:∀(xs:A8 Int) (b:AL Int),(∀x∈xs,x∈S)->(∀y,b=some y->y∈S)->xs.foldl (Jq l' left) b=xs.foldl (Jq l left) b
 | [],_,_,_=>rfl
 |x::xs,b,z,I=>by
  have q:=z x (Fz ..)
  have e:Jq l' left b x=Jq l left b x:=by
   unfold Jq iw;rw[h.one q];cases b with
   |none=>rfl
   |some y=>simp only[h.node q,h.node (I y rfl)]
  rw[Gj,Gj,e];refine GL.best xs _ (fun y j=>z y (Gp _ j)) fun y j=>?_;rcases ac8 l left b x with u|u
  ·rw[u]at j;rw[←Ch j];exact q
  rw[u]at j;exact I y j
theorem GL.xK:∀(n:Nat) (left:A8 Int),(∀x∈left,x∈S)->xK l' n left=xK l n left
 |0,_,_=>rfl
 |n+1,left,hi=>by
  unfold Go.Proofs.YtfmoknlmaldmlaaGreat.xK Xj;rw[h.best left none hi fun _ h=>Gz];cases left.foldl (Jq l left) none with
  |none=>rfl
  |some b=>exact Bo _ (GL.xK n _ fun x j=>hi x (Fa.1 j).1)
def KG (S:A8 Int) (s:A8 Az):Prop:=∀x∈s,x.Id∈S
theorem GL.pick {s:A8 Az} (hs:KG S s) {e f:AO} (u:FD e f) (hi:∀x∈e.bZ,x∈S):I9 (Uo l s e) (Uo l' s f):=by
 unfold Uo;rw[aGx u];refine I9.flat _ fun k _=>?_;unfold VO fH;cases z:(IJ s k.Kind k.Key).2 with
 |true=>
  have hm:=aHP (s:=s) (k:=k.Kind) (key:=k.Key) (n:=(IJ s k.Kind k.Key).1) (Prod.ext rfl z);obtain⟨I,k2,k3⟩:=h.mem _ (hs _ hm)
  have J:Jm l (IJ s k.Kind k.Key).1=(ev l (IJ s k.Kind k.Key).1,true):=by
   have :=(Ik I).1;unfold ev Jm at this ⊢;rw[this]
  have L:Jm l' (IJ s k.Kind k.Key).1=(ev l' (IJ s k.Kind k.Key).1,true):=by
   have :=(Ik k2).1;unfold ev Jm at this ⊢;rw[this]
  simp only[Bq];rw[J,L];exact .one k3
 |false=>
  simp only[BH];unfold qj;rw[u.auth];rcases(h.ids hi).find (p:=FK k) (fun x y h=>aJk h)with⟨j,q⟩|⟨x,y,j,q,M,_⟩
  ·rw[j,q];exact .nil
  rw[j,q];exact .one M
theorem GL.apply {s:A8 Az} (hs:KG S s) {x:Int} (j:x∈S):Py l' s x=Py l s x/\KG S (Py l s x):=by
 obtain⟨u,k2,k3⟩:=h.mem x j
 have e:TP l' s x=TP l s x:=by
  unfold TP;rw[u,k2,k3.kind,aGt k3 (h.pick hs k3 (h.auth x j))]
 unfold Py;rw[e,k3.kind,k3.key,k3.id];refine⟨rfl,?_⟩;cases TP l s x with
 |false=>exact hs
 |true=>
  intro y q;rcases Tc q with rfl|q
  ·show(ev l x).Id∈S;rw[(Ik u).2];exact j
  exact hs y q
theorem GL.applies:∀(ids:A8 Int) (s:A8 Az),KG S s->(∀x∈ids,x∈S)->Qy l' s ids=Qy l s ids/\KG S (Qy l s ids)
 | [],_,hs,_=>⟨rfl,hs⟩
 |x::ids,s,hs,hi=>by
  obtain⟨j,q⟩:=h.apply hs (hi x (Fz ..));unfold Qy;rw[Gj,Gj,j];exact GL.applies ids _ q fun y u=>hi y (Gp _ u)
theorem GL.closure {s:A8 Az} (hs:KG S s):G6 l' s=G6 l s/\∀x∈G6 l s,x∈S:=by
 have hi:∀x∈UY s,x∈S:=fun x j=>by
  obtain⟨y,q,rfl⟩:=Ea.1 j;exact hs y q
 unfold G6;refine⟨by rw[h.chain hi],fun x j=>?_⟩;rcases YH.1 j with j|j
 ·exact hi x j
 exact h.at1 hi x j
theorem GL.full {aX:A8 (A8 Az)} (hs:∀s∈aX,KG S s):Ky l' aX=Ky l aX/\∀x∈Ky l aX,x∈S:=by
 have u:∀(q:A8 (A8 Az)) (a:A8 Int),(∀s∈q,KG S s)->q.foldl (fun a s=>Il a (G6 l' s)) a=q.foldl (fun a s=>Il a (G6 l s)) a:=by
  intro q
  induction q with
  |nil=>exact fun _ _=>rfl
  |cons s q M=>
   intro a L;rw[Gj,Gj,(h.closure (L s (Fz ..))).1];exact M _ fun s hm=>L s (Gp _ hm)
 have I:∀x,LV l' aX x=LV l aX x:=fun x=>by
  unfold LV;exact List.countP_congr fun s hm=>by rw[(h.closure (hs s hm)).1]
 have hd:QL l' aX=QL l aX:=by
  unfold QL allOf;rw[u aX [] hs];exact Ud fun x _=>by rw[I]
 unfold Ky;rw[hd];refine⟨rfl,fun x j=>?_⟩;rcases YH.1 j with j|j
 ·rw[LH]at j;unfold Uc at j;obtain⟨z,J,rfl⟩:=Ea.1 j;obtain⟨s,hm,J⟩:=Ur.1 J;exact hs s hm z (Fa.1 J).1
 obtain⟨⟨s,hm,j⟩,_⟩:=agq.1 j;exact(h.closure (hs s hm)).2 x j
omit h in
theorem agx {aX:A8 (A8 Az)} (hs:∀s∈aX,KG S s):KG S (Kq aX):=by
 cases aX with
 |nil=>exact fun _ h=>absurd h Ez
 |cons s aX=>exact fun x j=>hs s (Fz ..) x (Fa.1 j).1
theorem GL.last {aX:A8 (A8 Az)} (hs:∀s∈aX,KG S s):lastOf l' aX=lastOf l aX/\KG S (lastOf l aX):=by
 obtain⟨f1,Z⟩:=h.full hs;have u:=agx hs;have J:MK l' aX=MK l aX:=by unfold MK;rw[f1,h.XU Z]
 have I:∀x∈MK l aX,x∈S:=fun x j=>Z x (aKK.1 j).1
 have hpo:PI l' aX=PI l aX:=by
  unfold PI;rw[J,h.rZ I];exact h.xK _ _ fun x j=>I x (Xo.1 j).1
 have M:∀x∈PI l aX,x∈S:=fun x j=>I x (Xo.1 (aJD l _ _ j)).1;obtain⟨a1,a2⟩:=h.applies (PI l aX) (Kq aX) u M;have q:Jt l' aX=Jt l aX:=by unfold Jt;rw[hpo,a1]
 have O:XC l' aX=XC l aX:=by
  unfold XC;rw[q];cases hg:(IJ (Jt l aX) 3 Cb).2 with
  |false=>rfl
  |true=>exact h.way (a2 _ (aHP (n:=(IJ (Jt l aX) 3 Cb).1) (Prod.ext rfl hg)))
 have L:∀x∈PO (Ky l aX) (MK l aX),x∈S:=fun x j=>Z x (aI6.1 j).1
 have U:OZ l' aX=OZ l aX:=by
  unfold OZ;rw[O,f1,J,h.EH L]
 have Y:∀x∈OZ l aX,x∈S:=fun x j=>by
  unfold OZ Go.Proofs.YtfmoknlmaldmlaaGreat.EH at j;obtain⟨y,hy,rfl⟩:=Ea.1 j;obtain⟨z,hz,rfl⟩:=Ea.1 ((Z7 ..).mem_iff.1 hy);exact L z (Fa.1 hz).1
 obtain⟨b1,b2⟩:=h.applies (OZ l aX) (Jt l aX) a2 Y;unfold lastOf;rw[q,U,b1];refine⟨rfl,fun x j=>?_⟩;rcases aHi _ _ j with j|j
 ·exact u x j
 exact b2 x j
theorem GL.resolve {aX:A8 (A8 Az)} (hs:∀s∈aX,KG S s):ZK l' aX=ZK l aX/\KG S (ZK l aX):=by
 match aX,hs with
 | [],_=>exact⟨rfl,fun _ h=>absurd h Ez⟩
 | [s],hs=>exact⟨rfl,hs s (Fz ..)⟩
 |s::r::aX,hs=>exact h.last hs
theorem GL.verdict {t t':A8 FI} {x:Int} (q:x∈S) {s:A8 Az} (hs:KG S s) (I:∀a∈(ev l x).bZ,errOf t' a=errOf t a):RF l' t' (ev l' x) s=RF l t (ev l x) s:=by
 obtain⟨O,k2,k3⟩:=h.mem x q
 have J:kR l' (ev l' x)=kR l (ev l x):=by
  unfold kR;rw[h.fits k3 (h.auth x q),aGt k3 (h.from k3 (h.auth x q))]
 have j:(ev l' x).bZ.any (fun x=>errOf t' x != 0)=(ev l x).bZ.any (fun x=>errOf t x != 0):=by
  rw[k3.auth,Nh,IU,IU];exact⟨fun⟨a,ha,e⟩=>⟨a,ha,by rw[←I a ha];exact e⟩,fun⟨a,ha,e⟩=>⟨a,ha,by rw[I a ha];exact e⟩⟩
 have u:MF (ev l' x) (ND l' s)=MF (ev l x) (ND l s):=aGt k3 (h.ids fun y L=>by
  obtain⟨z,M,rfl⟩:=Ea.1 L
  exact hs z M)
 unfold RF;rw[J,j,u]
theorem GL.line {t t':A8 FI} {x:Int} (q:x∈S) (hp:∀a∈(ev l x).bV,J8 t' a=J8 t a/\KG S (J8 t a)) (z:∀a∈(ev l x).bZ,errOf t' a=errOf t a):
 JX l' t' (ev l' x)=JX l t (ev l x)/\KG S (JX l t (ev l x)).before/\KG S (JX l t (ev l x)).after:=by
 obtain⟨I,k2,k3⟩:=h.mem x q
 have j:stB l' t' (ev l' x)=stB l t (ev l x)/\KG S (stB l t (ev l x)):=by
  have hm:(ev l x).bV.map (J8 t')=(ev l x).bV.map (J8 t):=jU fun a ha=>(hp a ha).1;unfold stB;rw[k3.prev,hm]
  exact h.resolve fun s hs=>by
   obtain⟨a,ha,rfl⟩:=Ea.1 hs;exact(hp a ha).2
 unfold JX aDX;rw[j.1,h.verdict q j.2 z,k3.id,k3.kind,k3.key];refine⟨rfl,j.2,?_⟩;show KG S (bif RF l t (ev l x) (stB l t (ev l x))==0&&JQ (ev l x).Kind then _ else _);cases(RF l t (ev l x) (stB l t (ev l x))==0&&JQ (ev l x).Kind)with
 |false=>exact j.2
 |true=>
  intro y u;rcases Tc u with rfl|u
  ·show(ev l x).Id∈S;rw[(Ik I).2];exact q
  exact j.2 y u
end
def ah3 (l:A8 AO) {t t':A8 FI} {e:AO} (hp:∀a∈e.bV,J8 t' a=J8 t a) (q:∀a∈e.bZ,errOf t' a=errOf t a):JX l t' e=JX l t e:=by
 have u:stB l t' e=stB l t e:=by
  unfold stB;rw[show e.bV.map (J8 t')=e.bV.map (J8 t)from jU hp]
 have j:e.bZ.any (fun x=>errOf t' x != 0)=e.bZ.any (fun x=>errOf t x != 0):=by
  rw[Nh,IU,IU];exact⟨fun⟨a,ha,e⟩=>⟨a,ha,by rw[←q a ha];exact e⟩,fun⟨a,ha,e⟩=>⟨a,ha,by rw[q a ha];exact e⟩⟩
 unfold JX RF;rw[u,j]
def aaI (l:A8 AO):∀(ids:A8 Int) {t:A8 FI} {x:Int} {y:FI},Ew t x=some y->Ew (ids.foldl (fun t id=>t++[JX l t (ev l id)]) t) x=some y
 | [],_,_,_,h=>h
 |id::ids,_,_,_,h=>by rw[Gj];exact aaI l ids (an4 h _)
def aLH {l:A8 AO} {ids:A8 Int} {i:Nat} {x:Int} {y:FI} (h:Ew (JK l (ids.take i)) x=some y):Ew (JK l ids) x=some y:=by
 have :JK l ids=(ids.drop i).foldl (fun t id=>t++[JX l t (ev l id)]) (JK l (ids.take i)):=by
  unfold JK;rw[←bQ,Y5]
 rw[this];exact aaI l _ h
def aJ5 {l:A8 AO} (Y:Jp l) (hd:Gw l=0) {x:Int} (M:bK l x=true):Ew (Cx l) x=some (JX l (Cx l) (ev l x)):=by
 obtain⟨i,hi,J⟩:=Gf (Zv.2 M)
 have u:∀j,(JK l ((Ij l).take j)).map (·.id)=(Ij l).take j:=fun j=>by
  unfold JK;rw[aAz l _ _ fun x hx=>Zv.1 (kQ hx)];rfl
 have z:(ev l x).Id=x:=(Ik M).2;have hm:ev l x∈l:=Jh (Ik M).1
 have I:∀a,bK l a=true->(ev l a).Depth<(ev l x).Depth->∃y,Ew (JK l ((Ij l).take i)) a=some y/\Ew (Cx l) a=some y:=fun a k1 k2=>by
  have :=ajF Y.nodup hi k1 (by rw[J];exact k2);cases hl:Ew (JK l ((Ij l).take i)) a with
  |some y=>exact⟨y,rfl,aLH hl⟩
  |none=>rw[jY,u]at hl;exact absurd this hl
 have q:Ew (JK l ((Ij l).take i)) (JX l (JK l ((Ij l).take i)) (ev l x)).id=none:=by
  show Ew _ (ev l x).Id=none;rw[z,jY,u];intro L;obtain⟨j,hj,e⟩:=Gf L;rw[IB]at hj;rw[aDU,←J]at e;exact KI.1 (qZ.1 Y.order) j i AB hi AB e
 have h1:Ew (JK l ((Ij l).take (i+1))) x=some (JX l (JK l ((Ij l).take i)) (ev l x)):=by
  rw[aaO l hi,J,aBE q];have :(x==(JX l (JK l ((Ij l).take i)) (ev l x)).id)=true:=by show(x==(ev l x).Id)=true;rw[z];exact Uy _
  rw[this];rfl
 have h2:=aLH h1
 have h3:JX l (Cx l) (ev l x)=JX l (JK l ((Ij l).take i)) (ev l x):=by
  obtain⟨Z,dp⟩:=ZM hd hm;refine ah3 l (fun a ha=>?_) fun a ha=>?_
  ·obtain⟨y,O,U⟩:=I a (dp a ha).1 (dp a ha).2;unfold J8;rw[O,U]
  obtain⟨y,O,U⟩:=I a (Z a ha).1 (Z a ha).2;unfold errOf;rw[O,U]
 rw[h3];exact h2
def aAu {l l':A8 AO} {S:A8 Int} (h:GL l l' S) (q:Jp l) (hd:Gw l=0) (u:Jp l') (z:Gw l'=0):∀x∈S,Ew (Cx l') x=Ew (Cx l) x/\KG S (J8 (Cx l) x):=by
 have key:∀(n:Nat) (x:Int),x∈S->(ev l x).Depth<(n:Int)->Ew (Cx l') x=Ew (Cx l) x/\KG S (J8 (Cx l) x):=by
  intro n
  induction n with
  |zero=>
   intro x j M;have :=(q.dep _ (Jh (Ik (h.mem x j).1).1)).1;omega
  |succ n L=>
   intro x j M;obtain⟨I,k2,k3⟩:=h.mem x j;obtain⟨O,U⟩:=ZM hd (Jh (Ik I).1)
   obtain⟨Y,q2,Z⟩:=h.line j (t:=Cx l) (t':=Cx l') (fun a ha=>by
    obtain⟨J,e2⟩:=L a (h.prev x j a ha) (by have :=(U a ha).2;omega)
    exact⟨by unfold J8;rw[J],e2⟩) fun a ha=>by
    obtain⟨J,_⟩:=L a (h.auth x j a ha) (by have :=(O a ha).2;omega);unfold errOf;rw[J]
   rw[aJ5 q hd I,aJ5 u z k2,Y];exact⟨rfl,by unfold J8;rw[aJ5 q hd I];exact Z⟩
 intro x j;have :=(q.dep _ (Jh (Ik (h.mem x j).1).1)).2;exact key 100001 x j AB
def aLk {l l':A8 AO} {S:A8 Int} (h:GL l l' S) (L:Jp l) (hd:Gw l=0) (z:Jp l') (I:Gw l'=0) (ha:∀x∈GZ l (Cx l),x∈S) (M:GZ l' (Cx l')=GZ l (Cx l)):QC l' (Cx l')=QC l (Cx l):=by
 have J:=aAu h L hd z I
 have O:KL l' (GZ l (Cx l))=KL l (GZ l (Cx l)):=by
  unfold KL;refine Ud fun x _=>?_;congr 1;rw[Nh,IU,IU]
  have e:∀y∈GZ l (Cx l),Ph l' x y=Ph l x y:=fun y j=>by
   obtain⟨U,k2,k3⟩:=h.mem y (ha y j);unfold Ph;rw[U,k2,k3.prev]
  exact⟨fun⟨y,j,k⟩=>⟨y,j,by rw[←e y j];exact k⟩,fun⟨y,j,k⟩=>⟨y,j,by rw[e y j];exact k⟩⟩
 have q:∀x∈KL l (GZ l (Cx l)),x∈S:=fun x u=>ha x (LH.1 (Fa.1 u).1)
 have hm:(KL l (GZ l (Cx l))).map (J8 (Cx l'))=(KL l (GZ l (Cx l))).map (J8 (Cx l)):=jU fun x u=>by
  unfold J8;rw[(J x (q x u)).1]
 unfold QC;rw[M,O,hm]
 exact(h.resolve fun s hs=>by
  obtain⟨x,u,rfl⟩:=Ea.1 hs
  exact(J x (q x u)).2).1
def dQ (l:A8 AO) (t:A8 FI):GZ l t=(l.map (·.Id)).filter (HY t):=by
 unfold GZ;rw[List.filter_map];rfl
end
section
def Sl (n:Int):Int:=if n<0 then bits .xor .u64 IntKind.u64.max (IntKind.u64.wrap (IntKind.u64.wrap n*2))else IntKind.u64.wrap (IntKind.u64.wrap n*2)
def vF (n:Int):0<=Sl n/\Sl n<18446744073709551616:=by
 unfold Sl;have j:∀x:Int,0<=IntKind.u64.wrap x/\IntKind.u64.wrap x<18446744073709551616:=fun x=>by rw[gK];omega
 split
 ·obtain⟨q,z⟩:=j (IntKind.u64.wrap n*2);generalize IntKind.u64.wrap (IntKind.u64.wrap n*2)=y at *;obtain⟨k,rfl⟩:=Int.eq_ofNat_of_zero_le q;have :(IntKind.u64.max:Int)=((18446744073709551615:Nat):Int):=Bf
  rw[this,bits_xor_u64_nat _ _ AB AB];have :18446744073709551615^^^k<2^64:=Nat.xor_lt_two_pow AB AB;constructor
  ·exact aHZ _
  have u:(2:Nat)^64=18446744073709551616:=Bf
  omega
 exact j _
def Nw (u:Nat):A8 Int:=if u<128 then[(u:Int)]else((u % 128+128:Nat):Int)::Nw (u/128)
termination_by u
decreasing_by omega
def fB {u:Nat} (h:u<128):Nw u=[(u:Int)]:=by rw[Nw,D8 h]
def aK8 {u:Nat} (h:¬u<128):Nw u=((u % 128+128:Nat):Int)::Nw (u/128):=by rw[Nw,DU h]
def aaA :∀(j u:Nat),u<128^(j+1)->(Nw u).length<=j+1
 |0,u,h=>by rw[fB LC];simp
 |j+1,u,h=>by
  by_cases q:u<128
  ·rw[fB q];simp
  rw[aK8 q]
  have :u/128<128^(j+1):=by
   rw[Nat.div_lt_iff_lt_mul AB];rw[Nat.pow_succ]at h;exact h
  have :=aaA j (u/128) this;simp;omega
def enc (n:Int):A8 Int:=Nw (Sl n).toNat
def OT (n:Int):(enc n).length<=10:=by
 have h:=(vF n).2;refine aaA 9 _ ?_;have :(128:Nat)^10=1180591620717411303424:=Bf
 rw[this];have :=(vF n).1;omega
def ajE (k:Nat):bits .or .u8 ((k:Int) % 256) 128=((k % 128+128:Nat):Int):=by
 have h:=u8_or_nat (k % 256) 128 AB AB;rw[show((k:Int) % 256)=((k % 256:Nat):Int)from by omega];have j:(128:Int)=((128:Nat):Int):=rfl;rw[j,h];congr 1;have key:∀x,x<256->x|||128=x % 128+128:=MS
 rw[key _ AB];omega
def oO (u c:Int):Int:=(IntKind.u64.wrap (bits .xor .u64 u (IntKind.u64.wrap c)*1099511628211)).tmod 4611686018427387904
def aTu (x:Int):bits .and .u64 (IntKind.u64.wrap x) 4611686018427387903=(IntKind.u64.wrap x).tmod 4611686018427387904:=by
 rw[gK];have h:=bits_mask .u64 64 Bf (fun n q u=>by rw[gK];omega) 62 Bf (x % 18446744073709551616) AB AB;have e:((2:Int)^62-1)=4611686018427387903:=Bf
 have j:((2:Int)^62)=4611686018427387904:=Bf
 rw[aEl AB];simpa[e,j]using h
def akw (u c:Int):bits .and .u64 (IntKind.u64.wrap (bits .xor .u64 u (IntKind.u64.wrap c)*1099511628211)) 4611686018427387903=oO u c:=aTu _
def aAn (op:BinOp) (k:IntKind) (x y:Int) (h:op=.and\/op=.or\/op=.xor):Ef op k x y=bits op k x y:=by
 rcases h with rfl|rfl|rfl<;>rfl
def NT {α:Type} {b:Nat} {l m:A8 α} (j:b<=100) (h:(l++m).length<=1099511627776):Dc b l m=some (l++m):=by
 refine Ep ?_;rw[EP]at h;have :(l.length+m.length)*b<=1099511627776*100:=aF8 h j;omega
def agu (u:Nat):Ef .or .u8 (IntKind.u8.wrap (u:Int)) 128=((u % 128+128:Nat):Int):=by
 rw[aAn _ _ _ _ (.inr (.inl rfl)),show IntKind.u8.wrap (u:Int)=(u:Int) % 256 from by rw[jl],ajE]
def adk (u:Nat):Oq .shr .u64 (u:Int) 7=some ((u/128:Nat):Int):=by
 unfold Oq;rw[DU AB];show some ((u:Int).fdiv (2^7))=_;rw[aQM _ Bf];congr 1
def aNO {u n:Nat} (h:u<128^(n+1+1)):u/128<128^(n+1):=by
 rw[Nat.div_lt_iff_lt_mul AB];rw[Nat.pow_succ]at h;exact h
def af8 :∀(n u:Nat),u<128^(n+1)->∀m b,n<m->(b++Nw u).length<=1099511627776->aU WV m b (u:Int)=some (b++Nw u):=by
 intro n
 induction n with
 |zero=>
  intro u q m b hm j;obtain⟨m,rfl⟩:∃z,m=z+1:=⟨m-1,AB⟩
  have h:u<128:=Oh
  rw[fB h]at j ⊢;show WV (aU WV m) b (u:Int)=_;simp only[WV,show decide ((u:Int)>=128)=false from by simp;omega,BH];rw[show IntKind.u8.wrap (u:Int)=(u:Int)from by rw[jl];omega,NT AB j];rfl
 |succ n J=>
  intro u q m b hm j;obtain⟨m,rfl⟩:∃z,m=z+1:=⟨m-1,AB⟩
  show WV (aU WV m) b (u:Int)=_;by_cases h:u<128
  ·rw[fB h]at j ⊢;simp only[WV,show decide ((u:Int)>=128)=false from by simp;omega,BH];rw[show IntKind.u8.wrap (u:Int)=(u:Int)from by rw[jl];omega,NT AB j];rfl
  rw[aK8 h]at j ⊢;have e:(b++((u % 128+128:Nat):Int)::Nw (u/128))=(b++[((u % 128+128:Nat):Int)])++Nw (u/128):=BR
  have I:(b++[((u % 128+128:Nat):Int)]).length<=1099511627776:=by simp only[EP,GI,Qo]at j ⊢;omega
  simp only[WV,show decide ((u:Int)>=128)=true from by simp;omega,Bq,agu,NT (show 1<=100 by omega) I,adk,Ad];rw[e];exact J (u/128) (aNO q) m _ AB (by rw[←e];exact j)
def aic :∀(n u:Nat),u<128^(n+1)->u<18446744073709551616->∀m b,n<m->(b++Nw u).length<=1099511627776->aU X0 m (u:Int) b=some (b++Nw u):=by
 intro n
 induction n with
 |zero=>
  intro u q _ m b hm j;obtain⟨m,rfl⟩:∃z,m=z+1:=⟨m-1,AB⟩
  have h:u<128:=Oh
  rw[fB h]at j ⊢;show X0 (aU X0 m) (u:Int) b=_;simp only[X0,show decide ((u:Int)>=128)=false from by simp;omega,BH];rw[show IntKind.u8.wrap (u:Int)=(u:Int)from by rw[jl];omega,NT AB j];rfl
 |succ n J=>
  intro u q L m b hm j;obtain⟨m,rfl⟩:∃z,m=z+1:=⟨m-1,AB⟩
  show X0 (aU X0 m) (u:Int) b=_;by_cases h:u<128
  ·rw[fB h]at j ⊢;simp only[X0,show decide ((u:Int)>=128)=false from by simp;omega,BH];rw[show IntKind.u8.wrap (u:Int)=(u:Int)from by rw[jl];omega,NT AB j];rfl
  rw[aK8 h]at j ⊢;have e:(b++((u % 128+128:Nat):Int)::Nw (u/128))=(b++[((u % 128+128:Nat):Int)])++Nw (u/128):=BR
  have I:(b++[((u % 128+128:Nat):Int)]).length<=1099511627776:=by simp only[EP,GI,Qo]at j ⊢;omega
  have M:Oj (u:Int) 128=some ((u % 128:Nat):Int):=by unfold Oj;rw[DU AB,aEl AB];congr 1
  have O:uN .u64 (u:Int) 128=some ((u/128:Nat):Int):=by
   unfold uN;rw[DU AB,Int.tdiv_eq_ediv_of_nonneg AB];congr 1;rw[gK];omega
  have U:IntKind.u8.wrap (IntKind.u64.wrap (((u % 128:Nat):Int)+128))=((u % 128+128:Nat):Int):=by rw[gK,jl];omega
  simp only[X0,show decide ((u:Int)>=128)=true from by simp;omega,Bq,M,U,O,NT (show 1<=100 by omega) I,Ad];rw[e];exact J (u/128) (aNO q) AB m _ AB (by rw[←e];exact j)
def aLV (x:Int):Oq .shl .u64 x 1=some (IntKind.u64.wrap (x*2)):=rfl
def aLy (x:Int):aO .u64 x=bits .xor .u64 IntKind.u64.max x:=rfl
def aNU (n:Int):(Sl n).toNat<128^(9+1):=by
 have j:=vF n;have :(128:Nat)^(9+1)=1180591620717411303424:=Bf
 rw[this];omega
def aLc :9<Aw:=aCA
def number_eq {b:A8 Int} {n:Int} (h:(b++enc n).length<=1099511627776):Xd b n=some (b++enc n):=by
 have u:=vF n
 have j:aRM b (Sl n)=some (b++enc n):=by
  have :=af8 9 (Sl n).toNat (aNU n) Aw b aLc h
  rwa [aGq u.1]at this
 unfold Xd;rw[aLV,Ad];unfold aAC;unfold Sl at j;by_cases q:n<0
 ·rw[D8 q]at j;rw[show decide (n<0)=true by simpa using q,Bq,aLy];exact j
 rw[DU q]at j;rw[show decide (n<0)=false by simpa using q,BH];exact j
def aj1 (n:Int):([]++enc n).length<=1099511627776:=by have :=OT n;simp only[Jr];omega
def aLT (n:Int):rE n=some (enc n):=by
 have u:=vF n
 have j:aMS (Sl n) []=some (enc n):=by
  have :=aic 9 (Sl n).toNat (aNU n) AB Aw [] aLc (aj1 n)
  rwa [aGq u.1]at this
 unfold rE;rw[aLV,Ad];unfold xg;unfold Sl at j;by_cases q:n<0
 ·rw[D8 q]at j;rw[show decide (n<0)=true by simpa using q,Bq,aLy];exact j
 rw[DU q]at j;rw[show decide (n<0)=false by simpa using q,BH];exact j
def qP {b:A8 Int} {m:Nat} (h:b.length+m<=1099511627776):XV b (m:Int)=some b:=by
 unfold XV;rw[Ld AB AB];unfold Ir;rw[D8 ⟨AB,AB,AB⟩];simp[gCopy]
def aDL {a b:A8 Int} (h:(a++b).length<=1099511627776):a.length<=1099511627776:=by rw[EP]at h;omega
def JZ (s:BI):A8 Int:=enc s.size++CG s
def text_eq {b:A8 Int} {s:BI} (h:(b++JZ s).length<=1099511627776):uP b s=some (b++JZ s):=by
 unfold JZ at h ⊢;rw[←IX]at h ⊢;unfold uP;rw[number_eq (aDL h),Ad,NT AB h];rfl
def kZ {b:A8 Int} {n:Int} (h:b.length+10<=1099511627776):Jc b n=some (b++enc n):=by
 have :=OT n;unfold Jc;rw[show(10:Int)=((10:Nat):Int)from rfl,qP AB,Ad,number_eq LQ];rfl
def Y7 {b:A8 Int} {n:Int} (h:b.length+10<=1099511627776):Iz b n=some (b++enc n):=by
 have :=OT n;unfold Iz;rw[NT AB xw,Ad,aLT,Ad,Jr,NT AB LQ];rfl
def dA (s:BI):(JZ s).length<=s.size+10:=by
 have :=OT s.size;unfold JZ;rw[EP,IV];omega
def aQe {b:A8 Int} {s:BI} (h:b.length+s.size+10<=1099511627776):P6 b s=some (b++JZ s):=by
 have :=dA s;unfold P6;rw[Ld AB AB,show(s.size:Int)+10=((s.size+10:Nat):Int) by omega,qP AB,Ad,text_eq LQ];rfl
def aLS {b:A8 Int} {s:BI} (h:b.length+s.size+10<=1099511627776):Og b s=some (b++JZ s):=by
 have :=dA s;unfold Og;rw[Y7 AB,Ad,NT AB (by unfold JZ at this;rw[EP]at this;rw[EP,EP];omega)];simp[JZ]
def ad3 {b:A8 Int} {j:AQ} (h:b.length+10<=1099511627776):YV b j=some (b++[bif j then 1 else 0]):=by
 unfold YV;rw[show(1:Int)=((1:Nat):Int)from rfl,qP AB,Ad];cases j<;>simp only[Bq,BH]<;>rw[NT AB aG4]<;>rfl
def alu {b:A8 Int} {j:AQ} (h:b.length+10<=1099511627776):fG b j=some (b++[bif j then 1 else 0]):=by
 unfold fG;rw[NT AB xw,Ad,Jr];cases j<;>simp only[Bq,BH]<;>rw[NT AB aG4]<;>rfl
def aJt {α:Type} {body:(A8 Int->Int->AL (A8 Int))->A8 Int->Int->AL (A8 Int)} (l:A8 α) (hl:l.length<Aw) (g:α->A8 Int)
 (z:∀k b (i:Nat) (h:i<l.length),(b++g l[i]).length<=1099511627776->body k b (i:Int)=k (b++g l[i]) (BA ((i:Int)+1))) (I:∀k b,body k b (l.length:Int)=some b) (b:A8 Int) (j:(b++l.flatMap g).length<=1099511627776):
 aU body Aw b 0=some (b++l.flatMap g):=by
 have L:Aw=9223372036854775808:=rfl
 have key:∀n (i:Nat) b,i+n=l.length->(b++(l.drop i).flatMap g).length<=1099511627776->∀m,n<m->aU body m b (i:Int)=some (b++(l.drop i).flatMap g):=by
  intro n
  induction n with
  |zero=>
   intro i b hi j m hm;obtain⟨m,rfl⟩:∃u,m=u+1:=⟨m-1,AB⟩
   have :i=l.length:=AB
   subst this;show body (aU body m) _ _=_;rw[I,Rs];simp
  |succ n J=>
   intro i b hi j m hm;obtain⟨m,rfl⟩:∃u,m=u+1:=⟨m-1,AB⟩
   have q:i<l.length:=AB
   rw[PN q,Nj,←IX]at j ⊢;show body (aU body m) _ _=_;rw[z _ _ i q (aDL j),wrap_succ i AB];exact J (i+1) _ AB j m AB
 exact key l.length 0 b AB j Aw hl
def Q8 (l:A8 Int):A8 Int:=enc l.length++l.flatMap enc
def QB (l:A8 BI):A8 Int:=enc l.length++l.flatMap JZ
def abM {b:A8 Int} {l:A8 Int} (h:(b++Q8 l).length<=1099511627776) (hl:l.length<=1000):aCR b l=some (b++Q8 l):=by
 have q:Aw=9223372036854775808:=rfl;unfold Q8 at h ⊢;rw[←IX]at h ⊢;unfold aCR;rw[number_eq (aDL h),Ad];unfold aS4;refine aJt l AB enc (fun k b i hi j=>?_) (fun k b=>?_) _ h
 ·simp only[aI9,dec_lt hi,Bq,Dn hi,number_eq j,Ad]
 simp only[aI9,ER,BH]
def ahJ {b:A8 Int} {l:A8 BI} (h:(b++QB l).length<=1099511627776) (hl:l.length<=1000000000):aEF b l=some (b++QB l):=by
 have q:Aw=9223372036854775808:=rfl;unfold QB at h ⊢;rw[←IX]at h ⊢;unfold aEF;rw[number_eq (aDL h),Ad];unfold aRi;refine aJt l AB JZ (fun k b i hi j=>?_) (fun k b=>?_) _ h
 ·simp only[aIc,dec_lt hi,Bq,Dn hi,text_eq j,Ad]
 simp only[aIc,ER,BH]
def zF {α:Type} {g:α->A8 Int} {m:Nat}:∀{l:A8 α},(∀x∈l,(g x).length<=m)->(l.flatMap g).length<=l.length*m
 | [],_=>BR
 |x::l,h=>by
  rw[Nj,EP,GI,Un];have :=h x Fz;have :=zF (l:=l) (fun y j=>h y (Gp _ j));omega
def aFV (l:A8 Int):(Q8 l).length<=l.length*10+10:=by
 have j:=OT l.length;have q:=zF (g:=enc) (m:=10) (l:=l) (fun x _=>OT x);unfold Q8;rw[EP];omega
def aFS {l:A8 BI} {m:Nat} (h:∀s∈l,s.size<=m):(QB l).length<=l.length*(m+10)+10:=by
 have j:=OT l.length;have q:=zF (g:=JZ) (m:=m+10) (l:=l) (fun s hs=>by have :=dA s;have :=h s hs;omega);unfold QB;rw[EP];omega
def ao7 {b:A8 Int} {l:A8 Int} (j:b.length+20000<=1099511627776) (hl:l.length<=1000):Xm b l=some (b++Q8 l):=by
 have q:=aFV l;unfold Xm;rw[Ld (x:=2*(l.length:Int)) AB AB,Ld AB AB,show 2*(l.length:Int)+10=((2*l.length+10:Nat):Int) by omega,qP AB,Ad,abM LQ hl];rfl
def adq {b:A8 Int} {l:A8 Int} (q:b.length+20000<=1099511627776) (hl:l.length<=1000):sK b l=some (b++Q8 l):=by
 have u:Aw=9223372036854775808:=rfl;have z:=aFV l;have h:(b++Q8 l).length<=1099511627776:=LQ
 unfold Q8 at h ⊢;rw[←IX]at h ⊢;unfold sK;rw[Y7 AB,Ad];unfold aS6;refine aJt l AB enc (fun k b i hi j=>?_) (fun k b=>?_) _ h
 ·simp only[aGf,dec_lt hi,Bq,Dn hi,aLT,NT (show 1<=100 by omega) j,Ad]
 simp only[aGf,ER,BH]
def adv {b:A8 Int} {l:A8 BI} (j:b.length+3000000<=1099511627776) (hl:l.length<=1000) (hs:∀s∈l,s.size<=2000):jO b l=some (b++QB l):=by
 have q:=aFS hs;unfold jO;rw[Ld (x:=8*(l.length:Int)) AB AB,Ld AB AB,show 8*(l.length:Int)+10=((8*l.length+10:Nat):Int) by omega,qP AB,Ad,ahJ LQ AB];rfl
def alK {b:A8 Int} {l:A8 BI} (I:b.length+3000000<=1099511627776) (hl:l.length<=1000) (hs:∀s∈l,s.size<=2000):jX b l=some (b++QB l):=by
 have J:Aw=9223372036854775808:=rfl;have L:=aFS hs;have h:(b++QB l).length<=1099511627776:=LQ
 have key:∀n (i:Nat) b,i+n=l.length->b.length+(n*2020)<=1099511620000->∀m,n<m->aU (Yj l) m b (i:Int)=some (b++(l.drop i).flatMap JZ):=by
  intro n
  induction n with
  |zero=>
   intro i b hi u m hm;obtain⟨m,rfl⟩:∃q,m=q+1:=⟨m-1,AB⟩
   have :i=l.length:=AB
   subst this;show Yj l (aU (Yj l) m) _ _=_;simp only[Yj,ER,BH,Rs];simp
  |succ n z=>
   intro i b hi u m hm;obtain⟨m,rfl⟩:∃q,m=q+1:=⟨m-1,AB⟩
   have j:i<l.length:=AB
   have M:=hs l[i] (E5 j);have O:=dA l[i];rw[PN j,Nj,←IX];show Yj l (aU (Yj l) m) _ _=_;simp only[Yj,dec_lt j,Bq,Dn j,Ad];rw[aLS AB,Ad,wrap_succ i AB];exact z (i+1) _ AB LQ m AB
 unfold QB;rw[←IX];unfold jX;rw[Y7 AB,Ad];unfold aQy;have :=key l.length 0 (b++enc l.length) AB (by have :=OT l.length;rw[EP];omega) Aw AB;exact this
structure PU (c:CV):Prop where
 allow:c.Allow.length<=100
 deny:c.fV.length<=100
 users:c.Levels.Users.length<=100
 kinds:c.Levels.Kinds.length<=100
 text:c.Text.size<=2000
 via:c.Via.size<=2000
 allows:∀x∈c.Allow,x.size<=2000
 denies:∀x∈c.fV,x.size<=2000
 names:∀x∈c.Levels.Users,x.User.size<=2000
def EU.content {e:AO} (h:EU e):PU e.Content:=⟨h.allow,h.deny,h.users,h.kinds,h.text,h.via,h.allows,h.denies,h.names⟩
section
variable {b:A8 Int} {k:Nat}
def Tq (h:b.length<=k) (j:k<=1000000000) (n:Int):Jc b n=some (b++enc n)/\Iz b n=some (b++enc n)/\(b++enc n).length<=k+10:=by
 have :=OT n;exact⟨kZ AB,Y7 AB,LQ⟩
def aMA (h:b.length<=k) (q:k<=1000000000) (j:AQ):YV b j=some (b++[bif j then 1 else 0])/\fG b j=some (b++[bif j then 1 else 0])/\(b++[bif j then(1:Int)else 0]).length<=k+10:=
 ⟨ad3 AB,alu AB,aG4⟩
def WS (h:b.length<=k) (j:k<=1000000000) {s:BI} (m:Nat) (hs:s.size<=m) (hm:m<=1000000000):P6 b s=some (b++JZ s)/\Og b s=some (b++JZ s)/\(b++JZ s).length<=k+m+10:=by
 have :=dA s;exact⟨aQe AB,aLS AB,LQ⟩
def aLa (h:b.length<=k) (j:k<=1000000000) {l:A8 Int} (hl:l.length<=100):Xm b l=some (b++Q8 l)/\sK b l=some (b++Q8 l)/\(b++Q8 l).length<=k+1010:=by
 have :=aFV l;exact⟨ao7 AB AB,adq AB AB,LQ⟩
def aQs (h:b.length<=k) (j:k<=1000000000) {l:A8 BI} (hl:l.length<=100) (hs:∀s∈l,s.size<=2000):jO b l=some (b++QB l)/\jX b l=some (b++QB l)/\(b++QB l).length<=k+201010:=by
 have :=aFS hs;exact⟨adv AB AB hs,alK AB AB hs,LQ⟩
end
def SL (u:Ii):A8 Int:=JZ u.User++enc u.N
def Rk (u:JR):A8 Int:=enc u.Kind++enc u.N
def Ja (l:DX):A8 Int:=[l.User,l.Message,l.State,l.gV,l.kY,l.pR,l.iM]
def ail (b:A8 Int) (l:DX):A8 Int:=b++enc l.Users.length++l.Users.flatMap SL++enc l.Kinds.length++l.Kinds.flatMap Rk++(Ja l).flatMap enc
def dH (c:CV):A8 Int:=ail ([]++JZ c.Text++enc c.N++enc c.Target++[bif c.Thread then 1 else 0]++JZ c.Via++QB c.Allow++QB c.fV) c.Levels
def ahD {u:Ii} (h:u.User.size<=2000):(SL u).length<=2020:=by
 have :=dA u.User;have :=OT u.N;unfold SL;rw[EP];omega
def aNC (u:JR):(Rk u).length<=20:=by
 have :=OT u.Kind;have :=OT u.N;unfold Rk;rw[EP];omega
def iK {R α:Type} {body:(A8 Int->Int->AL R)->A8 Int->Int->AL R} (l:A8 α) (hl:l.length<=1000) (g:α->A8 Int) (m:Nat) (hm:∀x∈l,(g x).length<=m) (j:A8 Int->AL R) (b:A8 Int)
 (q:∀k a (i:Nat) (h:i<l.length),a.length<=b.length+i*m->body k a (i:Int)=k (a++g l[i]) (BA ((i:Int)+1)))
 (u:∀k a,a.length<=b.length+l.length*m->body k a (l.length:Int)=j a):aU body Aw b 0=j (b++l.flatMap g)/\(b++l.flatMap g).length<=b.length+l.length*m:=by
 constructor
 ·rw[P9 l AB (fun a x=>a++g x) (fun i a=>a.length<=b.length+i*m) j AB (fun k a i h z=>⟨?_,q k a i h z⟩) u,foldl_append g];have :=hm l[i] (E5 h);rw[EP,Un];omega
 have :=zF hm;rw[EP];omega
def amm (c:CV) (b:A8 Int) (J:b.length<=900000):(aH0 c b 0=some (b++(Ja c.Levels).flatMap enc)/\aID (Ja c.Levels) b 0=some (b++(Ja c.Levels).flatMap enc))/\(b++(Ja c.Levels).flatMap enc).length<=b.length+70:=by
 have u:∀i:Nat,(h:i<(Ja c.Levels).length)->BF ([c.Levels.User,c.Levels.Message,c.Levels.State,c.Levels.gV,c.Levels.kY,c.Levels.pR,c.Levels.iM]:A8 Int) (i:Int)=some (Ja c.Levels)[i]:=fun i h=>Dn h
 have q:=iK (body:=aFL c) (Ja c.Levels) (by simp[Ja]) enc 10 (fun x _=>OT x) some b (fun k a i h j=>by
  have z:i<7:=h;unfold aFL
  rw[I4 (show(i:Int)<7 by omega),Bq,u i h,Ad,kZ AB,Ad]) fun k a j=>rfl
 have I:=iK (body:=zx (Ja c.Levels)) (Ja c.Levels) (by simp[Ja]) enc 10 (fun x _=>OT x) some b (fun k a i h j=>by
  have z:i<7:=h;unfold zx
  rw[DV h,Y7 AB,Ad]) fun k a j=>by unfold zx;rw[ER];rfl
 exact⟨⟨q.1,I.1⟩,q.2⟩
def ags (c:CV) (b:A8 Int) (L:b.length<=800000) (M:c.Levels.Kinds.length<=100):(aF2 c b 0=some (b++c.Levels.Kinds.flatMap Rk++(Ja c.Levels).flatMap enc)/\aFM c b 0=some (b++c.Levels.Kinds.flatMap Rk++(Ja c.Levels).flatMap enc))/\(b++c.Levels.Kinds.flatMap Rk++(Ja c.Levels).flatMap enc).length<=b.length+2070:=by
 have u:=iK (body:=aCQ c) c.Levels.Kinds AB Rk 20 (fun x _=>aNC x) (fun a=>aH0 c a 0) b (fun k a i h j=>by
  obtain⟨q,_,I⟩:=Tq (b:=a) (k:=900000) AB AB c.Levels.Kinds[i].Kind;unfold aCQ
  rw[DV h,q,Ad,kZ AB,Ad,IX];rfl) fun k a j=>by unfold aCQ;rw[ER];rfl
 have J:=iK (body:=aCE c) c.Levels.Kinds AB Rk 20 (fun x _=>aNC x) (fun a=>aID (Ja c.Levels) a 0) b (fun k a i h j=>by
  obtain⟨_,q,I⟩:=Tq (b:=a) (k:=900000) AB AB c.Levels.Kinds[i].Kind;unfold aCE
  rw[DV h,q,Ad,Dn h,Ad,Y7 AB,Ad,IX];rfl) fun k a j=>by unfold aCE aHN;rw[ER,BH,Ad];rfl
 have hl:=u.2;have z:=amm c (b++c.Levels.Kinds.flatMap Rk) AB;exact⟨⟨u.1.trans z.1.1,J.1.trans z.1.2⟩,AB⟩
def akq (c:CV) (b:A8 Int) (Z:b.length<=500000) (j:PU c):(aR5 c b 0=some (b++c.Levels.Users.flatMap SL++enc c.Levels.Kinds.length++c.Levels.Kinds.flatMap Rk++(Ja c.Levels).flatMap enc)/\aMn c b 0=some (b++c.Levels.Users.flatMap SL++enc c.Levels.Kinds.length++c.Levels.Kinds.flatMap Rk++(Ja c.Levels).flatMap enc))/\(b++c.Levels.Users.flatMap SL++enc c.Levels.Kinds.length++c.Levels.Kinds.flatMap Rk++(Ja c.Levels).flatMap enc).length<=b.length+204080:=by
 have hu:=j.users;have I:∀x∈c.Levels.Users,(SL x).length<=2020:=fun x L=>ahD (j.names x L)
 have J:=iK (body:=aCH c) c.Levels.Users AB SL 2020 I (fun a=>aF2 c (a++enc c.Levels.Kinds.length) 0) b (fun k a i h q=>by
  have hs:=j.names _ (E5 h);obtain⟨u,_,M⟩:=WS (b:=a) (k:=900000) AB AB (s:=c.Levels.Users[i].User) 2000 hs AB;unfold aCH
  rw[DV h,u,Ad,kZ AB,Ad,IX];rfl) fun k a q=>by unfold aCH;rw[ER,BH,kZ AB,Ad]
 have O:=iK (body:=aCa c) c.Levels.Users AB SL 2020 I (fun a=>aFM c (a++enc c.Levels.Kinds.length) 0) b (fun k a i h q=>by
  have hs:=j.names _ (E5 h);obtain⟨_,u,M⟩:=WS (b:=a) (k:=900000) AB AB (s:=c.Levels.Users[i].User) 2000 hs AB;unfold aCa
  rw[DV h,u,Ad,Dn h,Ad,Y7 AB,Ad,IX];rfl) fun k a q=>by unfold aCa;rw[ER,BH,Y7 AB,Ad]
 have hl:=J.2;have he:=OT (c.Levels.Kinds.length:Int);have U:(b++c.Levels.Users.flatMap SL++enc c.Levels.Kinds.length).length=(b++c.Levels.Users.flatMap SL).length+(enc c.Levels.Kinds.length).length:=EP ..;have z:=ags c (b++c.Levels.Users.flatMap SL++enc c.Levels.Kinds.length) AB j.kinds;have Y:=z.2;rw[U]at Y;exact⟨⟨J.1.trans z.1.1,O.1.trans z.1.2⟩,AB⟩
def aQY {c:CV} (j:PU c):uZ c=some (dH c)/\qm c=some (dH c)/\(dH c).length<=700000:=by
 obtain⟨q,u,z⟩:=WS (b:=[]) (k:=0) (EW _) AB 2000 j.text AB;obtain⟨I,J,L⟩:=Tq z AB c.N;obtain⟨M,O,U⟩:=Tq L AB c.Target;obtain⟨Y,Z,h4⟩:=aMA U AB c.Thread;obtain⟨a5,b5,h5⟩:=WS h4 AB 2000 j.via AB;obtain⟨a6,b6,h6⟩:=aQs h5 AB j.allow j.allows;obtain⟨a7,b7,h7⟩:=aQs h6 AB j.deny j.denies;obtain⟨a8,b8,h8⟩:=Tq h7 AB (c.Levels.Users.length:Int);obtain⟨⟨a9,b9⟩,h9⟩:=akq c _ (EY h8 AB) j;refine⟨?_,?_,EY h9 AB⟩
 ·unfold uZ;rw[q,Ad,I,Ad,M,Ad,Y,Ad,a5,Ad,a6,Ad,a7,Ad,a8,Ad];exact a9
 unfold qm;rw[u,Ad,J,Ad,O,Ad,Z,Ad,b5,Ad,b6,Ad,b7,Ad,b8,Ad];exact b9
def yO (e:AO):A8 Int:=
 []++enc e.Id++JZ e.Room++JZ e.bH++enc e.Kind++[bif e.State then 1 else 0]++JZ e.Key++enc e.Time++enc e.Depth++Q8 e.bV++Q8 e.bZ++JZ (Qc (dH e.Content))++enc e.Hash++JZ e.rQ.Server++enc e.rQ.Sum
def afH (l:A8 Int):(Qc l).size=l.length:=by
 have key:∀(l:A8 Int) (r:BI),(l.foldl (fun r n=>r.push (UInt8.ofNat n.toNat)) r).size=r.size+l.length:=by
  intro l
  induction l with
  |nil=>intro r;rfl
  |cons x l j=>intro r;rw[Gj,j,ByteArray.size_push,GI];omega
 unfold Qc;rw[key];simp
def aCJ {S α:Type} {body:(Int->S->AL S)->Int->S->AL S} (l:A8 α) (hl:l.length<1000) (f:S->α->AL S)
 (u:∀k (i:Nat) (h:i<l.length) s,body k (i:Int) s=(f s l[i]).bind fun x=>k (BA ((i:Int)+1)) x) (z:∀k s,body k (l.length:Int) s=some s) (s:S):aU body Aw 0 s=l.foldlM f s:=by
 have J:Aw=9223372036854775808:=rfl
 have key:∀n (i:Nat) s,i+n=l.length->∀m,n<m->aU body m (i:Int) s=(l.drop i).foldlM f s:=by
  intro n
  induction n with
  |zero=>
   intro i s hi m hm;obtain⟨m,rfl⟩:∃q,m=q+1:=⟨m-1,AB⟩
   have :i=l.length:=AB
   subst this;rw[Rs];exact z _ _
  |succ n I=>
   intro i s hi m hm;obtain⟨m,rfl⟩:∃q,m=q+1:=⟨m-1,AB⟩
   have j:i<l.length:=AB
   rw[PN j,SV];show body (aU body m) _ _=(f s l[i]).bind _;rw[u _ i j,wrap_succ i AB];congr 1;funext x;exact I (i+1) x AB m AB
 exact key l.length 0 s AB Aw AB
def aRP (w:FU) (l:A8 Int) (hl:l.length<1000):U9 w l=l.foldlM er w:=by
 unfold U9 aLi;exact aCJ l hl _ (fun k i h s=>by simp only[aIe,dec_lt h,Bq,Dn h,Ad]) (fun k s=>by simp only[aIe,ER,BH]) w
def aTf (w:FU) (l:A8 BI) (hl:l.length<1000):X4 w l=l.foldlM fA w:=by
 unfold X4 aRl;exact aCJ l hl _ (fun k i h s=>by simp only[aHb,dec_lt h,Bq,Dn h,Ad]) (fun k s=>by simp only[aHb,ER,BH]) w
def aiE (w:FU) (l:A8 AQ) (hl:l.length<1000):vH w l=l.foldlM wI w:=by
 unfold vH aLb;exact aCJ l hl _ (fun k i h s=>by simp only[aJG,dec_lt h,Bq,Dn h,Ad]) (fun k s=>by simp only[aJG,ER,BH]) w
def ajU (w:FU) (l:A8 (A8 Int)) (hl:l.length<1000):uz w l=l.foldlM kn w:=by
 unfold uz aST;exact aCJ l hl _ (fun k i h s=>by simp only[aJo,dec_lt h,Bq,Dn h,Ad]) (fun k s=>by simp only[aJo,ER,BH]) w
def aIk {b c:A8 Int} {n:Int} (h:Jc b n=some c):er ⟨b⟩ n=some ⟨c⟩:=by unfold er;rw[h];rfl
def aJy {b c:A8 Int} {n:BI} (h:P6 b n=some c):fA ⟨b⟩ n=some ⟨c⟩:=by unfold fA;rw[h];rfl
def ad8 {b c:A8 Int} {n:AQ} (h:YV b n=some c):wI ⟨b⟩ n=some ⟨c⟩:=by unfold wI;rw[h];rfl
def aOS {b c:A8 Int} {n:A8 Int} (h:Xm b n=some c):kn ⟨b⟩ n=some ⟨c⟩:=by unfold kn;rw[h];rfl
def aBV {b c:A8 Int} {n:Int} (h:Jc b n=some c):U9 ⟨b⟩ [n]=some ⟨c⟩:=by
 rw[aRP _ _ BR,SV,aIk h];rfl
def aer {b c d:A8 Int} {n m:Int} (h:Jc b n=some c) (k:Jc c m=some d):U9 ⟨b⟩ [n,m]=some ⟨d⟩:=by
 rw[aRP _ _ BR,SV,aIk h];show(er ⟨c⟩ m).bind _=_;rw[aIk k];rfl
def aL0 {b c:A8 Int} {n:BI} (h:P6 b n=some c):X4 ⟨b⟩ [n]=some ⟨c⟩:=by
 rw[aTf _ _ BR,SV,aJy h];rfl
def akb {b c d:A8 Int} {n m:BI} (h:P6 b n=some c) (k:P6 c m=some d):X4 ⟨b⟩ [n,m]=some ⟨d⟩:=by
 rw[aTf _ _ BR,SV,aJy h];show(fA ⟨c⟩ m).bind _=_;rw[aJy k];rfl
def agT {b c:A8 Int} {n:AQ} (h:YV b n=some c):vH ⟨b⟩ [n]=some ⟨c⟩:=by
 rw[aiE _ _ BR,SV,ad8 h];rfl
def ald {b c d:A8 Int} {n m:A8 Int} (h:Xm b n=some c) (k:Xm c m=some d):uz ⟨b⟩ [n,m]=some ⟨d⟩:=by
 rw[ajU _ _ BR,SV,aOS h];show(kn ⟨c⟩ m).bind _=_;rw[aOS k];rfl
def aei {e:AO} (j:EU e):wz e=some (yO e)/\aBf e=some (yO e)/\(yO e).length<=1000000:=by
 obtain⟨ac,bc,hc⟩:=aQY j.content;obtain⟨a1,b1,h1⟩:=Tq (b:=[]) (k:=0) (EW _) AB e.Id;obtain⟨a2,b2,h2⟩:=WS h1 AB 2000 j.room AB;obtain⟨a3,b3,h3⟩:=WS h2 AB 2000 j.sender AB;obtain⟨a4,b4,h4⟩:=Tq h3 AB e.Kind;obtain⟨a5,b5,h5⟩:=aMA h4 AB e.State;obtain⟨a6,b6,h6⟩:=WS h5 AB 2000 j.key AB;obtain⟨a7,b7,h7⟩:=Tq h6 AB e.Time;obtain⟨a8,b8,h8⟩:=Tq h7 AB e.Depth;obtain⟨a9,b9,h9⟩:=aLa h8 AB (EY j.prev AB);obtain⟨q,u,z⟩:=aLa h9 AB (EY j.auth AB);obtain⟨I,J,L⟩:=WS z AB (s:=Qc (dH e.Content)) 700000 (by rw[afH];exact hc) AB;obtain⟨M,O,U⟩:=Tq L AB e.Hash;obtain⟨Y,Z,h13⟩:=WS U AB 2000 j.server AB;obtain⟨a14,b14,h14⟩:=Tq h13 AB e.rQ.Sum;refine⟨?_,?_,EY h14 AB⟩
 ·unfold wz
  rw[show U9 yF [e.Id]=_ from aBV a1,Ad,akb a2 a3,Ad,aBV a4,Ad,agT a5,Ad,aL0 a6,Ad,aer a7 a8,Ad,ald a9 q,Ad,
   ac,Ad,aL0 I,Ad,aBV M,Ad,aL0 Y,Ad,aBV a14,Ad]
  rfl
 unfold aBf;rw[b1,Ad,b2,Ad,b3,Ad,b4,Ad,b5,Ad,b6,Ad,b7,Ad,b8,Ad,b9,Ad,u,Ad,bc,Ad,J,Ad,O,Ad,Z,Ad,b14,Ad];rfl
def aET (l:A8 Int):Int:=BA (l.foldl oO ((IntKind.u64.wrap 860922984064492325).tmod 4611686018427387904))
def aO1 {l:A8 Int} (hl:l.length<=1000000):XQ l=some (aET l):=by
 unfold XQ xk;rw[Ad];unfold aD5 aGG
 rw[aAn _ _ _ _ (.inl rfl),aTu,P9 l AB oO (fun _ _=>True) (fun s=>some (BA s)) trivial (fun k s i h _=>⟨trivial,by
  simp only[rU,dec_lt h,Bq,Dn h,Ad,aAn _ _ _ _ (.inl rfl),aAn _ _ _ _ (.inr (.inr rfl)),akw]⟩) fun k s _=>by
  simp only[rU,ER,BH]]
 rfl
def aPV {l:A8 Int} (hl:l.length<=1000000):lg l=some (aET l):=by
 unfold lg;rw[show aHu=some 860922984064492325 from rfl,Ad];unfold aJv aPE
 rw[show Oj (IntKind.u64.wrap 860922984064492325) 4611686018427387904=some ((IntKind.u64.wrap 860922984064492325).tmod 4611686018427387904)from rfl,Ad,P9 l AB oO (fun _ _=>True) (fun s=>some (BA s)) trivial (fun k s i h _=>⟨trivial,by
  have e:Oj (IntKind.u64.wrap ((Ef .xor .u64 s (IntKind.u64.wrap l[i]))*1099511628211)) 4611686018427387904=some (oO s l[i]):=rfl
  simp only[aGN,dec_lt h,Bq,Dn h,Ad,e]⟩) fun k s _=>by
  simp only[aGN,ER,BH]]
 rfl
def Pq (k:Int) (c:CV):CV:=
 if k=1 then c else if k=2 then{ Ed with N:=c.N,Via:=c.Via }else if k=3 then{ Ed with Levels:=c.Levels }else if k=4 then{ Ed with N:=c.N,Allow:=c.Allow }else
 if k=5 then{ Ed with N:=c.N }else if k=6 then{ Ed with Allow:=c.Allow,fV:=c.fV }else if k=14 then{ Ed with Target:=c.Target }else Ed
def aNY {R:Type} (a b:Int) (x y:R):(bif a==b then x else y)=if a=b then x else y:=by
 by_cases h:a=b
 ·subst h;simp
 have :(a==b)=false:=LC
 rw[this,DU h];rfl
def aLq {R:Type} (p:Prop) [Decidable p] (x y:R):(if p then some x else some y)=some (if p then x else y):=by split<;>rfl
def aKk (k:Int) (c:CV):wV k c=some (Pq k c):=by
 unfold wV Pq;simp only[aNY,aLq]
def texts_eq {l:A8 BI} (h:l.length<=100):Rf l=some l:=by
 unfold Rf;rw[NT AB xw];rfl
def aQ3 {l:DX} (q:l.Users.length<=100) (j:l.Kinds.length<=100):Zh l=some l:=by
 unfold Zh;rw[NT AB xw,Ad,NT AB (by rw[Jr];exact EY j AB)];rfl
def aB9 (k:Int):Int:=if k=2 then 18 else if k=3 then 128 else if k=4 then 34 else if k=5 then 2 else if k=6 then 96 else if k=14 then 4 else 0
def aiK (k:Int):eB k=some (aB9 k):=by
 by_cases q:k=2
 ·subst q;rfl
 by_cases u:k=3
 ·subst u;rfl
 by_cases z:k=4
 ·subst z;rfl
 by_cases I:k=5
 ·subst I;rfl
 by_cases j:k=6
 ·subst j;rfl
 unfold eB lG aB9;simp only[aNY,q,u,z,I,j,L6,show(k==6)=false from by simpa using j,BH,aLq]
def aQp (k:Int) {c:CV} (j:PU c):qE k c=some (Pq k c):=by
 by_cases u:k=1
 ·subst u;show(Rf c.Allow).bind (fun O=>(Rf c.fV).bind fun U=>(Zh c.Levels).bind fun Y=>some ({ { { c with Allow:=O }with fV:=U }with Levels:=Y }))=_;rw[texts_eq j.allow,Ad,texts_eq j.deny,Ad,aQ3 j.users j.kinds];rfl
 unfold qE;rw[show(k==1)=false from by simpa using u,BH,aiK,Ad];by_cases z:k=2
 ·subst z;rfl
 by_cases I:k=3
 ·subst I;show(Zh c.Levels).bind (fun x=>some { Ed with Levels:=x })=_;rw[aQ3 j.users j.kinds];rfl
 by_cases J:k=4
 ·subst J;show(Rf c.Allow).bind (fun x=>some { Ed with N:=c.N,Allow:=x })=_;rw[texts_eq j.allow];rfl
 by_cases L:k=5
 ·subst L;rfl
 by_cases M:k=6
 ·subst M;show(Rf c.Allow).bind (fun x=>(Rf c.fV).bind fun y=>some { Ed with Allow:=x,fV:=y })=_;rw[texts_eq j.allow,Ad,texts_eq j.deny];rfl
 by_cases q:k=14
 ·subst q;rfl
 have Z:aB9 k=0:=by unfold aB9;simp only[z,I,J,L,M,q,L6]
 have e2:Pq k c=Ed:=by unfold Pq;simp only[u,z,I,J,L,M,q,L6]
 rw[Z,e2];rfl
def PU.strip {c:CV} (h:PU c) (k:Int):PU (Pq k c):=by
 have j:(0:Nat)<=2000:=AB
 unfold Pq
 repeat' split
 all_goals first|exact h|exact⟨by simp[Ed,Oz,h.allow],by simp[Ed,Oz,h.deny],by simp[Ed,Oz,h.users],by simp[Ed,Oz,h.kinds],by first|exact h.text|exact j,by first|exact h.via|exact j,by first|exact h.allows|simp[Ed],by first|exact h.denies|simp[Ed],by first|exact h.names|simp[Ed,Oz]⟩
def TU (e:AO):AO:={ e with Content:=Pq e.Kind e.Content }
def Tz (e:AO):Prop:=EU { e with rQ:=ZT }
def Tz.content {e:AO} (h:Tz e):PU e.Content:=EU.content (e:={ e with rQ:=ZT }) h
def EU.x {e:AO} (h:EU e):Tz e:=⟨h.prev,h.auth,h.allow,h.deny,h.users,h.kinds,h.room,h.sender,h.key,h.text,h.via,Ec _,h.allows,h.denies,h.names⟩
def aLI {e:AO} (j:Tz e):sS e=some (TU e)/\XO e=some (TU e):=by
 unfold sS XO;rw[aQp _ j.content,aKk];exact⟨rfl,rfl⟩
def YG (e:AO):Int:=aET (dH e.Content)
def aA0 (e:AO):AO:={ { TU e with Id:=0 }with rQ:=ZT }
def aRp (e:AO):Int:=aET (yO (aA0 e))
def Tz.bare {e:AO} (h:Tz e):EU (aA0 e):=by
 have j:=h.content.strip e.Kind;exact⟨h.prev,h.auth,j.allow,j.deny,j.users,j.kinds,h.room,h.sender,h.key,j.text,j.via,by show(0:Nat)<=2000;omega,j.allows,j.denies,j.names⟩
def aQQ {e:AO} (j:Tz e):aAj e=some (YG e)/\aCY e=some (YG e):=by
 obtain⟨a,b,h⟩:=aQY j.content;unfold aAj aCY;rw[a,b,Ad,Ad,aO1 AB,aPV AB];exact⟨rfl,rfl⟩
def aSo {e:AO} (j:Tz e):zS e=some (aRp e)/\aGW e=some (aRp e):=by
 obtain⟨a,b⟩:=aLI j;obtain⟨c,d,h⟩:=aei j.bare;unfold zS aGW;rw[a,b,Ad,Ad];show(wz (aA0 e)).bind _=_/\(aBf (aA0 e)).bind _=_;rw[c,d,Ad,Ad,aO1 AB,aPV AB];exact⟨rfl,rfl⟩
def QY (s:BI):Int:=bif Hf s 64 then 0 else 3
def MC (s:BI):Int:=bif Hf s 33 then 0 else 3
def YP {s:BI} (hs:s.size<=9223372036854775807):Zp s=some (QY s)/\ZV s=some (QY s):=by
 unfold Zp mP ZV QY;rw[aJr hs (marks:=xA) (by rw[show CG xA=[64]from rfl];intro m hm;simp only[EZ,Ez,jB]at hm;omega),aD8 hs Bf,show((CG xA).any fun m=>Hf s m)=(Hf s 64||false)from rfl];cases Hf s 64<;>exact⟨rfl,rfl⟩
def lV {s:BI} (hs:s.size<=9223372036854775807):dW s=some (MC s)/\uO s=some (MC s):=by
 unfold dW mP uO MC;rw[aJr hs (marks:=oU) (by rw[show CG oU=[33]from rfl];intro m hm;simp only[EZ,Ez,jB]at hm;omega),aD8 hs Bf,show((CG oU).any fun m=>Hf s m)=(Hf s 33||false)from rfl];cases Hf s 33<;>exact⟨rfl,rfl⟩
def an0 {l:A8 Int} (h:WG l=true):(58:Int)∉l:=by
 intro hm;unfold WG Qm at h;simp only[D5,Dw]at h;have :=h.2 58 hm;exact absurd this Bf
def ao3 (s:BI) (hs:s.size<=2000):(splitB s (Lr s)).1.size<=2000/\(58:Int)∉CG (splitB s (Lr s)).1/\(splitB s (Lr s)).2.1.size<=2000:=by
 have q:Cb.size<=2000:=Bf
 cases h:Lr s with
 |false=>exact⟨q,by show(58:Int)∉CG Cb;decide,q⟩
 |true=>
  have j:TN s=true:=by
   unfold Lr Hf at h;cases j:TN s with
   |true=>rfl
   |false=>rw[j]at h;simp at h
  refine⟨EY (extract_size _ _ _) hs,an0 ?_,EY (extract_size _ _ _) hs⟩;unfold TN at j;simp only[D5]at j;exact j.1.2
def any_false {α:Type} (l:A8 α):(l.any fun _=>false)=false:=BR
def aGo {α:Type} {body:(Int->AL AQ)->Int->AL AQ} (l:A8 α) (hl:l.length<=1000) (rest:AL AQ) (j:∀k (i:Nat) (h:i<l.length),body k (i:Int)=k (BA ((i:Int)+1))) (q:∀k,body k (l.length:Int)=rest):bI body Aw 0=rest:=by
 rw[Jo l (aJV AB) (fun _=>false) false rest (fun k i h=>by rw[j k i h];rfl) q,any_false];rfl
def amV {l:A8 BI} (h:l.length<=1000):VP l l=some true:=by
 unfold VP aHf;rw[show((l.length:Int) != (l.length:Int))=false from by simp,BH];exact aGo l h _ (fun k i h=>by simp only[uD,dec_lt h,Bq,Dn h,Ad,Uy,F6,BH]) (fun k=>by simp only[uD,ER,BH])
structure Jv (c:CV):Prop where
 allow:c.Allow.length<=9223372036854775807
 deny:c.fV.length<=9223372036854775807
 users:c.Levels.Users.length<=9223372036854775807
 kinds:c.Levels.Kinds.length<=9223372036854775807
 text:c.Text.size<=9223372036854775807
 via:c.Via.size<=9223372036854775807
 allows:∀x∈c.Allow,x.size<=9223372036854775807
 denies:∀x∈c.fV,x.size<=9223372036854775807
 names:∀x∈c.Levels.Users,x.User.size<=9223372036854775807
structure Wj (e:AO):Prop where
 prev:e.bV.length<=9223372036854775807
 auth:e.bZ.length<=9223372036854775807
 room:e.Room.size<=9223372036854775807
 sender:e.bH.size<=9223372036854775807
 key:e.Key.size<=9223372036854775807
 server:e.rQ.Server.size<=9223372036854775807
 content:Jv e.Content
def PU.wide {c:CV} (h:PU c):Jv c:=by
 obtain⟨I,J,L,M,O,U,q,u,z⟩:=h;exact⟨AB,AB,AB,AB,AB,AB,fun x j=>by have :=q x j;omega,fun x j=>by have :=u x j;omega,fun x j=>by have :=z x j;omega⟩
def EU.wide {e:AO} (h:EU e):Wj e:=by
 have j:=h.prev;have q:=h.auth;have u:=h.room;have z:=h.sender;have I:=h.key;have J:=h.server;exact⟨AB,AB,AB,AB,AB,AB,h.content.wide⟩
def aEU (k:Int):uX k=some (decide (k>=1)&&(k<=14))/\pY k=some (decide (k>=1)&&(k<=14)):=by
 unfold uX pY;cases decide (k>=1)<;>cases decide (k<=14)<;>exact⟨rfl,rfl⟩
def RP (n:Int):AQ:=decide (n< -1000)||(n>1000)
def aAO (n:Int):jH n=some (RP n)/\Tn n=some (RP n):=by
 unfold jH Tn RP;cases decide (n< -1000)<;>cases decide (n>1000)<;>exact⟨rfl,rfl⟩
def P5 (c:Int):AQ:=decide (c<33)||(c>126)
def aCg (s:BI):(s.toList==Cb.toList)=((s.size:Int)==0):=by
 rw[PX];by_cases h:s=Cb
 ·subst h;rfl
 have :¬s.size=0:=fun j=>h (bytes_inj (by
  have q:CG s=[]:=Gy (by rw[IV];exact j)
  rw[q];rfl))
 rw[GK h];symm;rw[Zg];omega
def xI (s:BI):Int:=if s.size=0 then 9 else if s.size>64 then 7 else bif (CG s).any P5 then 3 else 0
def aGO {s:BI} (hs:s.size<=9223372036854775807):rP s=some (xI s)/\qy s=some (xI s):=by
 have u:aGy s 0=some (bif (CG s).any P5 then 3 else 0):=by
  unfold aGy;rw[Jo (CG s) Y4 P5 3 (some 0) (fun k i h=>?_) (fun k=>?_),KA]
  ·have h':i<s.size:=Wq
   simp only[aGU,dec_lt h',Bq,UZ h,Ad,P5];cases decide ((CG s)[i]<33)<;>cases decide ((CG s)[i]>126)<;>rfl
  simp only[aGU,IV,ER,BH]
 have z:aG9 s 0=some (bif (CG s).any P5 then 3 else 0):=by
  unfold aG9;rw[Jo (CG s) Y4 P5 3 (some 0) (fun k i h=>?_) (fun k=>?_),KA]
  ·have h':i<s.size:=Wq
   simp only[aGn,dec_lt h',Bq,UZ h,Ad,P5];cases decide ((CG s)[i]<33)<;>cases decide ((CG s)[i]>126)<;>rfl
  simp only[aGn,IV,ER,BH]
 unfold rP qy xI;rw[aCg,u,z];by_cases j:s.size=0
 ·simp[j]
 have :((s.size:Int)==0)=false:=by rw[Zg];omega
 rw[this,DU j];by_cases q:s.size>64
 ·have :decide ((s.size:Int)>64)=true:=Et
  rw[this,D8 q];exact⟨rfl,rfl⟩
 have :decide ((s.size:Int)>64)=false:=Et
 rw[this,DU q];exact⟨rfl,rfl⟩
def uF (s:BI):AQ:=decide ((s.size:Int)>=1)&&((s.size:Int)<=32)&& !(CG s).any P5
def ahO {s:BI} (hs:s.size<=9223372036854775807):aDc s=some (uF s):=by
 unfold aDc aQE;rw[Jo (CG s) Y4 P5 false (some (decide ((s.size:Int)>=1)&&((s.size:Int)<=32))) (fun k i h=>?_) (fun k=>?_)]
 ·unfold uF;cases(CG s).any P5<;>cases decide ((s.size:Int)>=1)<;>cases decide ((s.size:Int)<=32)<;>rfl
 ·have h':i<s.size:=Wq
  simp only[aFO,dec_lt h',Bq,UZ h,Ad,P5];cases decide ((CG s)[i]<33)<;>cases decide ((CG s)[i]>126)<;>rfl
 simp only[aFO,IV,ER,BH];cases decide ((s.size:Int)>=1)<;>cases decide ((s.size:Int)<=32)<;>rfl
def UH (k:Int) (s:BI):AQ:=if k=2 then QY s==0 else if k=9 then uF s else true
def aPb {k:Int} {s:BI} (hs:s.size<=9223372036854775807):aHC k s=some (UH k s):=by
 have u:aIH s 0=some (bif (CG s).any P5 then false else true):=by
  unfold aIH;rw[Jo (CG s) Y4 P5 false (some true) (fun k i h=>?_) (fun k=>?_),KA]
  ·have h':i<s.size:=Wq
   simp only[aIN,dec_lt h',Bq,UZ h,Ad,P5];cases decide ((CG s)[i]<33)<;>cases decide ((CG s)[i]>126)<;>rfl
  simp only[aIN,IV,ER,BH]
 unfold aHC UH;rw[(YP hs).2,u];by_cases j:k=2
 ·subst j;rfl
 rw[show(k==2)=false from by simpa using j,DU j,BH];by_cases q:k=9
 ·subst q;unfold uF;have z:decide ((s.size:Int)>=1)= !decide ((s.size:Int)<1):=aKL
  have I:decide ((s.size:Int)<=32)= !decide ((s.size:Int)>32):=aKi
  rw[z,I];cases decide ((s.size:Int)<1)<;>cases decide ((s.size:Int)>32)<;>cases(CG s).any P5<;>rfl
 rw[show(k != 9)=true from by simpa using q,DU q];rfl
def afC {e:AO} (j:Wj e):aEb e=some (MC e.Room==0&&QY e.bH==0&&UH e.Kind e.Key):=by
 have u:=j.room;have z:=j.sender;have I:=j.key;unfold aEb UH;rw[(lV AB).1,(YP (s:=e.bH) AB).1,(YP (s:=e.Key) AB).1,ahO AB];simp only[Ad,bne];cases MC e.Room==0 with
 |false=>rfl
 |true=>
  cases QY e.bH==0 with
  |false=>rfl
  |true=>
   by_cases k2:e.Kind=2
   ·rw[k2];rfl
   by_cases q:e.Kind=9
   ·rw[q];rfl
   rw[show(e.Kind==2)=false from by simpa using k2,show(e.Kind==9)=false from by simpa using q,DU k2,DU q];rfl
def Df {R:Type} (x y:AL R):Prop:=∃r,x=some r/\y=some r
section
variable {A R:Type}
def Df.ret (r:R):Df (some r) (some r):=⟨r,rfl,rfl⟩
def Df.bind {a b:AL A} {f g:A->AL R} (h:Df a b) (k:∀x,Df (f x) (g x)):Df (a.bind f) (b.bind g):=by
 obtain⟨x,rfl,rfl⟩:=h;exact k x
def Df.bif {c:AQ} {x y j q:AL R} (u:c=true->Df x j) (z:c=false->Df y q):Df (bif c then x else y) (bif c then j else q):=by
 cases c with
 |true=>exact u rfl
 |false=>exact z rfl
def I5:=@Df.bif
def Df.loop {f g:(Int->AL R)->Int->AL R} (n:Nat) (u:n<=9223372036854775807) (hs:∀k k' (i:Nat),i<n->Df (k ((i+1:Nat):Int)) (k' ((i+1:Nat):Int))->Df (f k (i:Int)) (g k' (i:Int))) (j:∀k k',Df (f k (n:Int)) (g k' (n:Int))):Df (bI f Aw 0) (bI g Aw 0):=by
 have z:Aw=9223372036854775808:=rfl
 have key:∀m (i:Nat),i+m=n->∀a,m<a->Df (bI f a (i:Int)) (bI g a (i:Int)):=by
  intro m
  induction m with
  |zero=>
   intro i hi a ha;obtain⟨a,rfl⟩:∃a',a=a'+1:=⟨a-1,AB⟩
   have :i=n:=AB
   subst this;exact j _ _
  |succ m q=>
   intro i hi a ha;obtain⟨a,rfl⟩:∃a',a=a'+1:=⟨a-1,AB⟩
   exact hs _ _ i AB (q (i+1) AB a AB)
 exact key n 0 AB Aw AB
end
def wu {i:Nat} (h:i<=9223372036854775806):BA ((i:Int)+1)=((i+1:Nat):Int):=wrap_succ i AB
def nI {α:Type} {l:A8 α} {i:Nat} (h:i<l.length) (hl:l.length<=9223372036854775807) (j:decide ((i:Int)>0)=true):BF l (BA ((i:Int)-1))=some (l[i-1]' AB):=by
 have j:0<i:=Qw
 rw[Ld AB AB,show(i:Int)-1=((i-1:Nat):Int) by omega];exact Dn AB
def aPY {l:A8 Int} (hl:l.length<=9223372036854775807):Df (wP l) (iR l):=by
 unfold wP aOK iR aIR;refine Df.loop l.length hl (fun k k' i h j=>?_) (fun k k'=>?_)
 ·simp only[aKf,aAi,kU,dec_lt h,Bq,Dn h,Ad,wu (show i<=9223372036854775806 by omega)];cases decide (l[i]<0)with
  |true=>exact .ret _
  |false=>
   simp only[BH];cases q:decide ((i:Int)>0)with
   |true=>
    simp only[Bq,nI h hl q,Ad,ge_iff_le];cases decide (l[i]<=l[i-1])with
    |true=>exact .ret _
    |false=>exact j
   |false=>exact j
 simp only[aKf,aAi,ER,BH];exact .ret _
def aae {l:A8 BI} (hl:l.length<=9223372036854775807) (hs:∀s∈l,s.size<=9223372036854775807):Df (VZ l) (TW l):=by
 unfold VZ TW;refine I5 (fun _=>.ret _) fun _=>?_;unfold aPh aJb;refine Df.loop l.length hl (fun k k' i h j=>?_) (fun k k'=>?_)
 ·obtain⟨q,u⟩:=aGO (s:=l[i]) (by have :=hs _ (E5 h);omega);simp only[aFN,oC,dec_lt h,Bq,Dn h,Ad,q,u,wu (show i<=9223372036854775806 by omega)];exact I5 (fun _=>.ret _) fun _=>j
 simp only[aFN,oC,ER,BH];exact .ret _
def aiR {c:CV} (j:Jv c):Df (WB 4 c) (kM c):=by
 have hl:=j.allow;unfold WB kM;rw[show((4:Int)==6)=false from rfl,BH];refine Df.bind (I5 (fun _=>.ret _) fun _=>.ret _) fun x=>I5 (fun _=>.ret _) fun _=>I5 (fun _=>.ret _) fun _=>?_;unfold aLs aQX;refine Df.loop c.Allow.length AB (fun k k' i h q=>?_) (fun k k'=>?_)
 ·obtain⟨u,z⟩:=lV (s:=c.Allow[i]) (by have :=j.allows _ (E5 h);omega);simp only[aKm,aCT,yg,dec_lt h,Bq,Dn h,Ad,u,z,wu (show i<=9223372036854775806 by omega)];refine I5 (fun _=>.ret _) fun _=>?_;cases I:decide ((i:Int)>0)with
  |true=>
   simp only[Bq,nI h (show c.Allow.length<=9223372036854775807 by omega) I,Ad];exact I5 (fun _=>.ret _) fun _=>q
  |false=>exact q
 simp only[aKm,aCT,ER,BH];exact .ret _
def ahZ {l:A8 Ii} (hl:l.length<=9223372036854775807) (hs:∀u∈l,u.User.size<=9223372036854775807):Df (y8 l) (aJ l):=by
 unfold y8 aJ;refine I5 (fun _=>.ret _) fun _=>?_;unfold aOP aGM;refine Df.loop l.length hl (fun k k' i h j=>?_) (fun k k'=>?_)
 ·obtain⟨q,z⟩:=YP (s:=l[i].User) (by have :=hs _ (E5 h);omega);obtain⟨I,J⟩:=aAO l[i].N;simp only[aGY,rC,aAN,pF,dec_lt h,Bq,Dn h,Ad,q,z,I,J,wu (show i<=9223372036854775806 by omega)];refine I5 (fun _=>.ret _) fun _=>?_;cases L:decide ((i:Int)>0)with
  |true=>
   simp only[Bq,nI h hl L,Ad];exact I5 (fun _=>.ret _) fun _=>I5 (fun _=>.ret _) fun _=>j
  |false=>
   simp only[BH];exact I5 (fun _=>.ret _) fun _=>j
 simp only[aGY,rC,ER,BH];exact .ret _
def aec {l:A8 JR} (hl:l.length<=9223372036854775807):Df (zf l) (Za l):=by
 unfold zf Za;refine I5 (fun _=>.ret _) fun _=>?_;unfold aNR aIE;refine Df.loop l.length hl (fun k k' i h j=>?_) (fun k k'=>?_)
 ·obtain⟨q,u⟩:=aEU l[i].Kind;obtain⟨z,I⟩:=aAO l[i].N;simp only[aKp,aAZ,aBK,aKP,dec_lt h,Bq,Dn h,Ad,q,u,z,I,wu (show i<=9223372036854775806 by omega)];refine I5 (fun _=>.ret _) fun _=>?_;cases J:decide ((i:Int)>0)with
  |true=>
   simp only[Bq,nI h hl J,Ad];exact I5 (fun _=>.ret _) fun _=>I5 (fun _=>.ret _) fun _=>j
  |false=>
   simp only[BH];exact I5 (fun _=>.ret _) fun _=>j
 simp only[aKp,aAZ,ER,BH];exact .ret _
def ad7 {l:DX} (I:l.Users.length<=9223372036854775807) (J:l.Kinds.length<=9223372036854775807) (j:∀u∈l.Users,u.User.size<=9223372036854775807):Df (Zb l) (ZX l):=by
 have q:aHU l 0=some (bif (Ja l).any RP then 2 else 0):=by
  unfold aHU;rw[Jo (Ja l) (by have :Aw=9223372036854775808:=rfl;simp[Ja,this]) RP 2 (some 0) (fun k i h=>?_) (fun k=>rfl),KA];have L:i<7:=h;have z:BF ([l.User,l.Message,l.State,l.gV,l.kY,l.pR,l.iM]:A8 Int) (i:Int)=some ((Ja l)[i]'(h)):=Dn h;simp only[aMB,show decide ((i:Int)<7)=true from by simp;omega,Bq,z,Ad,(aAO _).1]
 unfold Zb ZX;refine Df.bind (ahZ AB j) fun x=>I5 (fun _=>.ret _) fun _=>Df.bind (aec AB) fun y=>I5 (fun _=>.ret _) fun _=>?_;rw[q];simp only[(aAO _).2,Ad,Ja,ZB,List.any_nil];cases RP l.User<;>cases RP l.Message<;>cases RP l.State<;>cases RP l.gV<;>cases RP l.kY<;>cases RP l.pR<;>cases RP l.iM<;>exact .ret _
def Tf {α:Type} {l:A8 α} (h:((l.length:Int)==0)=true):l=[]:=Gy (by have :=eq_of_beq h;omega)
def Np (l:DX):AQ:=((l.Users.length:Int)==0)&&((l.Kinds.length:Int)==0)&&(l.User==0)&&(l.Message==0)&&(l.State==0)&&(l.gV==0)&&(l.kY==0)&&(l.pR==0)&&(l.iM==0)
def bare_eq (l:DX):aCW l=some (Np l):=by
 unfold aCW Np;simp only[KA,Ad,Ut]
def aSi (l:DX):Z4 l Oz=some (Np l):=by
 unfold Z4 Np;show(bif ((l.Users.length:Int) != 0)then some true else some ((l.Kinds.length:Int) != 0)).bind _=_;simp only[bne];cases u:((l.Users.length:Int)==0)with
 |false=>rfl
 |true=>
  cases z:((l.Kinds.length:Int)==0)with
  |false=>rfl
  |true=>
   have j:=Tf u;have q:=Tf z
   have I:iq l Oz 0=some ((l.User==0)&&(l.Message==0)&&(l.State==0)&&(l.gV==0)&&(l.kY==0)&&(l.pR==0)&&(l.iM==0)):=by
    unfold iq;refine aGo l.Kinds (by rw[q];simp) _ (fun k i h=>by rw[q]at h;simp at h) (fun k=>?_);simp only[aA4,ER,BH,KA,Ad,Ut];rfl
   have J:aBY l Oz 0=some ((l.User==0)&&(l.Message==0)&&(l.State==0)&&(l.gV==0)&&(l.kY==0)&&(l.pR==0)&&(l.iM==0)):=by
    unfold aBY;refine aGo l.Users (by rw[j];simp) _ (fun k i h=>by rw[j]at h;simp at h) (fun k=>?_);simp only[aCo,ER,BH];exact I
   simp only[F6,BH,Ad,J,Gm]
def adV (l:DX):aHe l=some (Np l):=by
 unfold aHe;rw[aSi];rfl
def aay (l:A8 BI):VP l []=some ((l.length:Int)==0):=by
 cases h:((l.length:Int)==0)with
 |true=>rw[Tf h];exact amV (l:=[]) BR
 |false=>
  unfold VP;show(bif ((l.length:Int) != 0)then some false else _)=_;simp only[bne,h,Ko,Bq]
def eF (a0 j q u z I J L:AQ):AQ:=a0&&j&&q&&u&&z&&I&&J&&L
def aaP (c:CV):VQ c Ed=some (eF (c.Text.toList==Cb.toList) (c.N==0) (c.Target==0) (!c.Thread) (c.Via.toList==Cb.toList) ((c.Allow.length:Int)==0) ((c.fV.length:Int)==0) (Np c.Levels)):=by
 unfold VQ eF;show(bif c.Text.toList==Cb.toList then some (c.N==0)else some false).bind _=_;simp only[show Ed.Allow=[]from rfl,show Ed.fV=[]from rfl,show Ed.Levels=Oz from rfl,show Ed.Target=0 from rfl,show Ed.Thread=false from rfl,show Ed.Via=Cb from rfl,aay,aSi,KA,Ad,Ut];congr 1;cases c.Thread<;>simp
def aCO (a0 j q u z I J L:AQ):Int:=
 let v:=bif !a0 then Ef .or .i64 0 1 else 0
 let v:=bif !j then Ef .or .i64 v 2 else v
 let v:=bif !q then Ef .or .i64 v 4 else v
 let v:=bif !u then Ef .or .i64 v 8 else v
 let v:=bif !z then Ef .or .i64 v 16 else v
 let v:=bif !I then Ef .or .i64 v 32 else v
 let v:=bif !J then Ef .or .i64 v 64 else v
 bif !L then Ef .or .i64 v 128 else v
def pos_eq {α:Type} (l:A8 α):decide ((l.length:Int)>0)= !((l.length:Int)==0):=by
 cases h:((l.length:Int)==0)with
 |true=>have :=eq_of_beq h;rw[F6,WA];omega
 |false=>have :=ne_of_beq_false h;rw[Ko,Ht];omega
def akx (c:CV):qo c=some (aCO (c.Text.toList==Cb.toList) (c.N==0) (c.Target==0) (!c.Thread) (c.Via.toList==Cb.toList) ((c.Allow.length:Int)==0) ((c.fV.length:Int)==0) (Np c.Levels)):=by
 unfold qo yC Fn1 yt aEi aEs aDe aEf aEC aCO;rw[bare_eq,pos_eq,pos_eq];simp only[Ad,bne,Bool.not_not];generalize(c.Text.toList==Cb.toList)=j;generalize(c.N==0)=q;generalize(c.Target==0)=u;generalize c.Thread=z;generalize(c.Via.toList==Cb.toList)=I;generalize((c.Allow.length:Int)==0)=J;generalize((c.fV.length:Int)==0)=L;generalize Np c.Levels=M;cases j<;>cases q<;>cases u<;>cases z<;>cases I<;>cases J<;>cases L<;>cases M<;>rfl
def amv :∀a0 j q u z I J L:AQ,(aCO a0 j q u z I J L==0)=eF a0 j q u z I J L:=MS
def Kw (j q u z I J L M a0 O U Y Z a5 a6 a7:AQ):AQ:=(a0||j)&&(O||q)&&(U||u)&&(Y||z)&&(Z||I)&&(a5||J)&&(a6||L)&&(a7||M)
def aN9 {K:Int} {c:CV} {j q u z I J L M:AQ} (O:CQ K KD=some j) (U:CQ K Kr=some q) (Y:CQ K Jk=some u) (Z:CQ K MB=some z) (h4:CQ K MN=some I) (h5:CQ K Ln=some J) (h6:CQ K Me=some L) (h7:CQ K MR=some M):lJ K c=some (Kw j q u z I J L M (c.Text.toList==Cb.toList) (c.N==0) (c.Target==0) (!c.Thread) (c.Via.toList==Cb.toList) ((c.Allow.length:Int)==0) ((c.fV.length:Int)==0) (Np c.Levels)):=by
 unfold lJ Kw;simp only[O,U,Y,Z,h4,h5,h6,h7,adV,KA,Ad,jA,Ut]
def Hg (x r:AL Int):AL Int:=x.bind fun v=>bif v != 0 then some v else r
def EX {x r:AL Int} (h:x=some 0):Hg x r=r:=by rw[h];rfl
def NJ {x y r s:AL Int} (h:Df x y) (k:Df r s):Df (Hg x r) (Hg y s):=Df.bind h fun _=>I5 (fun _=>.ret _) fun _=>k
def aDg (x:AL Int):Hg x (some 0)=x:=by
 cases x with
 |none=>rfl
 |some v=>
  show(bif v != 0 then some v else some 0)=some v;by_cases h:v=0
  ·subst h;rfl
  rw[show(v != 0)=true from by simpa using h];rfl
def xR {A:Type} (x:AL A):(x.bind fun v=>some v)=x:=by cases x<;>rfl
def Nc (K:Int) (c:CV):AL Int:=Hg (Zk K c) (Hg (OD K c.N) (Hg (YQ K c) (Hg (ZN c) (bif K==4 then kM c else Hg (TW c.Allow) (Hg (TW c.fV) (ZX c.Levels))))))
def frame {K M kp:Int} {br:AQ} {c:CV} {q u z I J L O U:AQ} (hU:iL K=some M) (hk:(decide (K>=1)&&(K<=14))=true) (Y:eB K=some kp) (hb:aIp K=some br) (h0:CQ K KD=some q) (h1:CQ K Kr=some u) (h2:CQ K Jk=some z) (h3:CQ K MB=some I) (h4:CQ K MN=some J) (h5:CQ K Ln=some L) (h6:CQ K Me=some O) (h7:CQ K MR=some U)
 (hM:∀a0 a1 a2 a3 a4 a5 a6 a7:AQ,(Ef .andNot .i64 (aCO a0 a1 a2 a3 a4 a5 a6 a7) M != 0)= !Kw q u z I J L O U a0 a1 a2 a3 a4 a5 a6 a7) (Z:(br=true->kp=0)) (hA:kp=0->br=false->LX M K 0 c=some 0)
 (j:Kw q u z I J L O U (c.Text.toList==Cb.toList) (c.N==0) (c.Target==0) (!c.Thread) (c.Via.toList==Cb.toList) ((c.Allow.length:Int)==0) ((c.fV.length:Int)==0) (Np c.Levels)=true->Df (LX M K 0 c) (Nc K c)):Df (LG K c) (JY K c):=by
 have ht:JY K c=(pY K).bind fun x1=>(bif (!x1)then some true else(lJ K c).bind fun x4=>some (!x4)).bind fun x2=>(bif x2 then some 1 else(aIp K).bind fun x6=>(bif x6 then(VQ c Ed).bind fun x9=>some x9 else some false).bind fun x7=>(bif x7 then some 0 else Nc K c)):=by
  unfold JY Nc Hg;simp only[xR]
 rw[ht];unfold LG;obtain⟨k1,k2⟩:=aEU K;rw[hk]at k1 k2;rw[hU,k1,k2,akx,Y,hb,aN9 h0 h1 h2 h3 h4 h5 h6 h7,aaP];simp only[Ad,F6,BH,hM,amv];cases ho:Kw q u z I J L O U (c.Text.toList==Cb.toList) (c.N==0) (c.Target==0) (!c.Thread) (c.Via.toList==Cb.toList) ((c.Allow.length:Int)==0) ((c.fV.length:Int)==0) (Np c.Levels)with
 |false=>exact .ret _
 |true=>
  simp only[F6,BH];have j:=j ho;cases ha:eF (c.Text.toList==Cb.toList) (c.N==0) (c.Target==0) (!c.Thread) (c.Via.toList==Cb.toList) ((c.Allow.length:Int)==0) ((c.fV.length:Int)==0) (Np c.Levels)with
  |false=>
   simp only[BH,Ad];cases br<;>exact j
  |true=>
   simp only[Bq,Ad];cases hz:kp==0 with
   |false=>
    cases br with
    |false=>exact j
    |true=>rw[Z rfl]at hz;cases hz
   |true=>
    cases br with
    |true=>exact .ret _
    |false=>
     have e:=hA (eq_of_beq hz) rfl;rw[e]at j;exact j
def SK (M b:Int) (x r:AL Int):AL Int:=bif Ef .and .i64 M b==0 then r else Hg x r
def Yq {S B R:Type} (body:(S->B->AL R)->S->B->AL R) (n:Nat) (a:S) (b:B):aU body (n+1) a b=body (aU body n) a b:=rfl
def agi (M K:Int) (c:CV):LX M K 0 c=SK M 1 (Qi K c) (SK M 2 (O8 K c) (SK M 4 (RX K c) (SK M 8 (aI K c) (SK M 16 (aP K c) (SK M 32 (WB K c)
 (bif Ef .and .i64 M 64 != 0 then VZ c.fV else bif Ef .and .i64 M 128 != 0 then Zb c.Levels else some 0)))))):=by
 have j:Aw=9223372036854775801+1+1+1+1+1+1+1:=rfl;have q:∀k,XI M K k 0 c=SK M 1 (Qi K c) (k 1 c):=fun k=>rfl;have u:∀k,XI M K k 1 c=SK M 2 (O8 K c) (k 2 c):=fun k=>rfl;have z:∀k,XI M K k 2 c=SK M 4 (RX K c) (k 3 c):=fun k=>rfl;have I:∀k,XI M K k 3 c=SK M 8 (aI K c) (k 4 c):=fun k=>rfl;have J:∀k,XI M K k 4 c=SK M 16 (aP K c) (k 5 c):=fun k=>rfl;have L:∀k,XI M K k 5 c=SK M 32 (WB K c) (k 6 c):=fun k=>rfl;have O:∀k,XI M K k 6 c=(bif Ef .and .i64 M 64 != 0 then(VZ c.fV).bind fun x=>some x else bif Ef .and .i64 M 128 != 0 then(Zb c.Levels).bind fun x=>some x else some 0):=fun k=>rfl;unfold LX;rw[j,Yq,q,Yq,u,Yq,z,Yq,I,Yq,J,Yq,L,Yq,O,xR,xR]
section
variable {c:CV} {K:Int}
def text0 (h:(c.Text.toList==Cb.toList)=true) (j:K≠12):Zk K c=some 0:=by
 have q:(c.Text.size:Int)=0:=by rw[aCg]at h;exact eq_of_beq h
 unfold Zk;rw[h,q,show(K==12)=false from by simpa using j];cases K==9<;>rfl
def UL (h:CQ K Jk=some false) (j:(!c.Thread)=true):YQ K c=some 0:=by
 unfold YQ;rw[h,show c.Thread=false from by simpa using j];rfl
def QT (h:(c.Via.toList==Cb.toList)=true):ZN c=some 0:=by unfold ZN;rw[h];rfl
def JW {l:A8 BI} (h:((l.length:Int)==0)=true):TW l=some 0:=by
 rw[Tf h];unfold TW aJb;show bI (oC []) Aw 0=some 0;rw[Jo ([]:A8 BI) Bf (fun _=>false) 0 (some 0) (fun k i h=>IL) (fun k=>rfl)];rfl
def SI {l:DX} (h:Np l=true):ZX l=some 0:=by
 unfold Np at h;simp only[D5]at h;obtain⟨⟨⟨⟨⟨⟨⟨⟨j,q⟩,u⟩,z⟩,I⟩,J⟩,L⟩,M⟩,O⟩:=h
 have U:aJ []=some 0:=by
  unfold aJ aGM;show bI (rC []) Aw 0=some 0;rw[Jo ([]:A8 BI) Bf (fun _=>false) 0 (some 0) (fun k i h=>IL) (fun k=>rfl)];rfl
 have Y:Za []=some 0:=by
  unfold Za aIE;show bI (aAZ []) Aw 0=some 0;rw[Jo ([]:A8 BI) Bf (fun _=>false) 0 (some 0) (fun k i h=>IL) (fun k=>rfl)];rfl
 unfold ZX;rw[Tf j,Tf q,U,Y,eq_of_beq u,eq_of_beq z,eq_of_beq I,eq_of_beq J,eq_of_beq L,eq_of_beq M,eq_of_beq O];rfl
def dB (q:Jv c):Df (Qi K c) (Zk K c):=by
 have J:=q.text;obtain⟨u,z⟩:=aGO (s:=c.Text) AB;unfold Qi aBl Zk;rw[u,z];have e:=aCg c.Text;by_cases j:K=9
 ·subst j;cases h:(c.Text.toList==Cb.toList)with
  |false=>exact .ret _
  |true=>
   have I:(c.Text.size:Int)=0:=by rw[e]at h;exact eq_of_beq h
   rw[I];exact .ret _
 rw[show(K==9)=false from by simpa using j];cases K==12<;>cases(c.Text.toList==Cb.toList)<;>cases decide ((c.Text.size:Int)>32)<;>cases decide ((c.Text.size:Int)>400)<;>exact .ret _
def aoj (j:Jv c):Df (aP K c) (ZN c):=by
 have z:=j.via;obtain⟨q,u⟩:=YP (s:=c.Via) AB;unfold aP ZN;rw[q,u];exact I5 (fun _=>.ret _) fun _=>I5 (fun _=>.ret _) fun _=>.ret _
def aFu (h:CQ K Jk=some true) (j:(!c.Thread)=true):Df (RX K c) (YQ K c):=by
 unfold RX YQ;rw[h,show c.Thread=false from by simpa using j];cases decide (c.Target<0)<;>cases c.Target==0<;>cases K != 11<;>exact .ret _
def agI (h:CQ K Jk=some true):Df (Hg (RX K c) (aI K c)) (YQ K c):=by
 unfold RX aI YQ Hg;rw[h];cases decide (c.Target<0)<;>cases c.Target==0<;>cases K != 11<;>cases c.Thread<;>exact .ret _
def acg (j:Jv c):Df (WB 6 c) (TW c.Allow):=by
 have q:=j.allow;have :=aae (l:=c.Allow) AB j.allows;show Df ((VZ c.Allow).bind fun x=>some x) _;rw[xR];exact this
end
def xC (a b:Int):decide (a>=b)= !decide (a<b):=by by_cases h:a<b<;>simp[h]<;>omega
def oZ (a b:Int):decide (a<=b)= !decide (a>b):=by by_cases h:a>b<;>simp[h]<;>omega
def agj {c:CV} (hc:Jv c):Df (LG 1 c) (JY 1 c):=by
 have u:CQ 1 KD=some false:=AA
 have z:CQ 1 Kr=some false:=AA
 have q:CQ 1 Jk=some false:=AA
 have I:CQ 1 MB=some false:=AA
 have J:CQ 1 MN=some false:=AA
 have L:CQ 1 Ln=some false:=AA
 have O:CQ 1 Me=some false:=AA
 have U:CQ 1 MR=some false:=AA
 refine frame (M:=0) (kp:=0) (br:=false) rfl rfl rfl rfl u z q I J L O U MS (fun h=>Gz) (fun h h'=>rfl) fun j=>?_;unfold Kw at j;simp only[Ox,La,NV,Gm,D5]at j;obtain⟨⟨⟨⟨⟨⟨⟨Y,e1⟩,e2⟩,Z⟩,e4⟩,e5⟩,e6⟩,e7⟩:=j;have hL:LX 0 1 0 c=(some 0):=QI
 rw[hL];unfold Nc;rw[EX (text0 Y Bf),EX (show OD 1 c.N=some 0 from rfl),EX (UL q Z),EX (QT e4),show((1:Int)==4)=false from rfl,BH,EX (JW e5),EX (JW e6),SI e7];exact .ret _
def afJ (c:CV):Df (O8 2 c) (OD 2 c.N):=by
 show Df ((bif c.N<0 then some true else some (decide (c.N>4))).bind fun j=>(bif j then some 2 else some 0)) ((bif c.N>=0 then some (decide (c.N<=4))else some false).bind fun q=>(bif (!q)then some 2 else some 0));rw[xC,oZ];cases decide (c.N<0)<;>cases decide (c.N>4)<;>exact .ret _
def agM {c:CV} (q:Jv c):Df (LG 2 c) (JY 2 c):=by
 have z:CQ 2 KD=some true:=AA
 have I:CQ 2 Kr=some true:=AA
 have u:CQ 2 Jk=some false:=AA
 have J:CQ 2 MB=some false:=AA
 have L:CQ 2 MN=some true:=AA
 have O:CQ 2 Ln=some false:=AA
 have U:CQ 2 Me=some false:=AA
 have Y:CQ 2 MR=some false:=AA
 refine frame (M:=19) (kp:=18) (br:=false) rfl rfl rfl rfl z I u J L O U Y MS (fun h=>Gz) (fun h h'=>Gz) fun j=>?_;unfold Kw at j;simp only[Ox,La,NV,Gm,D5]at j;obtain⟨⟨⟨⟨e2,Z⟩,e5⟩,e6⟩,e7⟩:=j;have hL:LX 19 2 0 c=(Hg (Qi 2 c) (Hg (O8 2 c) (Hg (aP 2 c) (some 0)))):=QI
 rw[hL];unfold Nc;rw[EX (UL u Z),show((2:Int)==4)=false from rfl,BH,EX (JW e5),EX (JW e6),SI e7];exact NJ (dB q) (NJ (afJ c) (NJ (aoj q) (.ret _)))
def ake {c:CV} (j:Jv c):Df (LG 3 c) (JY 3 c):=by
 have z:CQ 3 KD=some false:=AA
 have I:CQ 3 Kr=some false:=AA
 have u:CQ 3 Jk=some false:=AA
 have J:CQ 3 MB=some false:=AA
 have L:CQ 3 MN=some false:=AA
 have O:CQ 3 Ln=some false:=AA
 have U:CQ 3 Me=some false:=AA
 have Y:CQ 3 MR=some true:=AA
 refine frame (M:=128) (kp:=128) (br:=false) rfl rfl rfl rfl z I u J L O U Y MS (fun h=>Gz) (fun h h'=>Gz) fun q=>?_;unfold Kw at q;simp only[Ox,La,NV,Gm,D5]at q;obtain⟨⟨⟨⟨⟨⟨Z,e1⟩,e2⟩,e3⟩,e4⟩,e5⟩,e6⟩:=q;have hL:LX 128 3 0 c=(Zb c.Levels):=QI
 rw[hL];unfold Nc;rw[EX (text0 Z Bf),EX (show OD 3 c.N=some 0 from rfl),EX (UL u e3),EX (QT e4),show((3:Int)==4)=false from rfl,BH,EX (JW e5),EX (JW e6)];exact ad7 j.users j.kinds j.names
def apI (c:CV):Df (O8 4 c) (OD 4 c.N):=by
 show Df ((bif c.N<0 then some true else some (decide (c.N>3))).bind fun j=>(bif j then some 2 else some 0)) ((bif c.N>=0 then some (decide (c.N<=3))else some false).bind fun q=>(bif (!q)then some 2 else some 0));rw[xC,oZ];cases decide (c.N<0)<;>cases decide (c.N>3)<;>exact .ret _
def acp {c:CV} (u:Jv c):Df (LG 4 c) (JY 4 c):=by
 have z:CQ 4 KD=some false:=AA
 have I:CQ 4 Kr=some true:=AA
 have q:CQ 4 Jk=some false:=AA
 have J:CQ 4 MB=some false:=AA
 have L:CQ 4 MN=some false:=AA
 have O:CQ 4 Ln=some true:=AA
 have U:CQ 4 Me=some false:=AA
 have Y:CQ 4 MR=some false:=AA
 refine frame (M:=34) (kp:=34) (br:=false) rfl rfl rfl rfl z I q J L O U Y MS (fun h=>Gz) (fun h h'=>Gz) fun j=>?_;unfold Kw at j;simp only[Ox,La,NV,Gm,D5]at j;obtain⟨⟨⟨⟨⟨Z,e2⟩,e3⟩,e4⟩,e6⟩,e7⟩:=j;have hL:LX 34 4 0 c=(Hg (O8 4 c) (Hg (WB 4 c) (some 0))):=QI
 rw[hL];unfold Nc;rw[EX (text0 Z Bf),EX (UL q e3),EX (QT e4),show((4:Int)==4)=true from rfl,Bq];rw[aDg];exact NJ (apI c) (aiR u)
def adZ (c:CV):Df (O8 5 c) (OD 5 c.N):=by
 show Df ((bif c.N<0 then some true else some (decide (c.N>3))).bind fun j=>(bif j then some 2 else some 0)) ((bif c.N>=0 then some (decide (c.N<=3))else some false).bind fun q=>(bif (!q)then some 2 else some 0));rw[xC,oZ];cases decide (c.N<0)<;>cases decide (c.N>3)<;>exact .ret _
def anR {c:CV} (hc:Jv c):Df (LG 5 c) (JY 5 c):=by
 have u:CQ 5 KD=some false:=AA
 have z:CQ 5 Kr=some true:=AA
 have q:CQ 5 Jk=some false:=AA
 have I:CQ 5 MB=some false:=AA
 have J:CQ 5 MN=some false:=AA
 have L:CQ 5 Ln=some false:=AA
 have O:CQ 5 Me=some false:=AA
 have U:CQ 5 MR=some false:=AA
 refine frame (M:=2) (kp:=2) (br:=false) rfl rfl rfl rfl u z q I J L O U MS (fun h=>Gz) (fun h h'=>Gz) fun j=>?_;unfold Kw at j;simp only[Ox,La,NV,Gm,D5]at j;obtain⟨⟨⟨⟨⟨⟨Y,e2⟩,Z⟩,e4⟩,e5⟩,e6⟩,e7⟩:=j;have hL:LX 2 5 0 c=(Hg (O8 5 c) (some 0)):=QI
 rw[hL];unfold Nc;rw[EX (text0 Y Bf),EX (UL q Z),EX (QT e4),show((5:Int)==4)=false from rfl,BH,EX (JW e5),EX (JW e6),SI e7];exact NJ (adZ c) (.ret _)
def aix {c:CV} (j:Jv c):Df (LG 6 c) (JY 6 c):=by
 have I:CQ 6 KD=some false:=AA
 have u:CQ 6 Kr=some false:=AA
 have z:CQ 6 Jk=some false:=AA
 have J:CQ 6 MB=some false:=AA
 have L:CQ 6 MN=some false:=AA
 have O:CQ 6 Ln=some true:=AA
 have U:CQ 6 Me=some true:=AA
 have Y:CQ 6 MR=some false:=AA
 refine frame (M:=96) (kp:=96) (br:=false) rfl rfl rfl rfl I u z J L O U Y MS (fun h=>Gz) (fun h h'=>Gz) fun q=>?_;unfold Kw at q;simp only[Ox,La,NV,Gm,D5]at q;obtain⟨⟨⟨⟨⟨Z,e1⟩,e2⟩,e3⟩,e4⟩,e7⟩:=q;have hL:LX 96 6 0 c=(Hg (WB 6 c) (VZ c.fV)):=QI
 rw[hL];unfold Nc;rw[EX (text0 Z Bf),EX (show OD 6 c.N=some 0 from rfl),EX (UL z e3),EX (QT e4),show((6:Int)==4)=false from rfl,BH,SI e7];have u:=j.deny;rw[aDg];exact NJ (acg j) (aae AB j.denies)
def aiP {c:CV} (u:Jv c):Df (LG 7 c) (JY 7 c):=by
 have z:CQ 7 KD=some true:=AA
 have I:CQ 7 Kr=some false:=AA
 have q:CQ 7 Jk=some false:=AA
 have J:CQ 7 MB=some false:=AA
 have L:CQ 7 MN=some false:=AA
 have O:CQ 7 Ln=some false:=AA
 have U:CQ 7 Me=some false:=AA
 have Y:CQ 7 MR=some false:=AA
 refine frame (M:=1) (kp:=0) (br:=true) rfl rfl rfl rfl z I q J L O U Y MS (fun h=>rfl) (fun h h'=>ZH) fun j=>?_;unfold Kw at j;simp only[Ox,La,NV,Gm,D5]at j;obtain⟨⟨⟨⟨⟨⟨e1,e2⟩,Z⟩,e4⟩,e5⟩,e6⟩,e7⟩:=j;have hL:LX 1 7 0 c=(Hg (Qi 7 c) (some 0)):=QI
 rw[hL];unfold Nc;rw[EX (show OD 7 c.N=some 0 from rfl),EX (UL q Z),EX (QT e4),show((7:Int)==4)=false from rfl,BH,EX (JW e5),EX (JW e6),SI e7];exact NJ (dB u) (.ret _)
def alr (c:CV):Df (O8 8 c) (OD 8 c.N):=by
 show Df ((bif c.N<0 then some true else some (decide (c.N>1000000000))).bind fun j=>(bif j then some 2 else some 0)) ((bif c.N>=0 then some (decide (c.N<=1000000000))else some false).bind fun q=>(bif (!q)then some 2 else some 0));rw[xC,oZ];cases decide (c.N<0)<;>cases decide (c.N>1000000000)<;>exact .ret _
def apC {c:CV} (hc:Jv c):Df (LG 8 c) (JY 8 c):=by
 have u:CQ 8 KD=some false:=AA
 have z:CQ 8 Kr=some true:=AA
 have q:CQ 8 Jk=some false:=AA
 have I:CQ 8 MB=some false:=AA
 have J:CQ 8 MN=some false:=AA
 have L:CQ 8 Ln=some false:=AA
 have O:CQ 8 Me=some false:=AA
 have U:CQ 8 MR=some false:=AA
 refine frame (M:=2) (kp:=0) (br:=true) rfl rfl rfl rfl u z q I J L O U MS (fun h=>rfl) (fun h h'=>ZH) fun j=>?_;unfold Kw at j;simp only[Ox,La,NV,Gm,D5]at j;obtain⟨⟨⟨⟨⟨⟨Y,e2⟩,Z⟩,e4⟩,e5⟩,e6⟩,e7⟩:=j;have hL:LX 2 8 0 c=(Hg (O8 8 c) (some 0)):=QI
 rw[hL];unfold Nc;rw[EX (text0 Y Bf),EX (UL q Z),EX (QT e4),show((8:Int)==4)=false from rfl,BH,EX (JW e5),EX (JW e6),SI e7];exact NJ (alr c) (.ret _)
def ae0 (c:CV):Df (O8 9 c) (OD 9 c.N):=by
 show Df ((bif (c.N==1)then some true else some (c.N==2)).bind fun j=>(bif j then some true else some (c.N==6)).bind fun q=>(bif q then some 0 else some 2)) ((bif (c.N==1)then some true else some (c.N==2)).bind fun u=>(bif u then some true else some (c.N==6)).bind fun z=>(bif (!z)then some 2 else some 0));cases c.N==1<;>cases c.N==2<;>cases c.N==6<;>exact .ret _
def abE {c:CV} (u:Jv c):Df (LG 9 c) (JY 9 c):=by
 have z:CQ 9 KD=some true:=AA
 have I:CQ 9 Kr=some true:=AA
 have q:CQ 9 Jk=some false:=AA
 have J:CQ 9 MB=some false:=AA
 have L:CQ 9 MN=some false:=AA
 have O:CQ 9 Ln=some false:=AA
 have U:CQ 9 Me=some false:=AA
 have Y:CQ 9 MR=some false:=AA
 refine frame (M:=3) (kp:=0) (br:=true) rfl rfl rfl rfl z I q J L O U Y MS (fun h=>rfl) (fun h h'=>ZH) fun j=>?_;unfold Kw at j;simp only[Ox,La,NV,Gm,D5]at j;obtain⟨⟨⟨⟨⟨e2,Z⟩,e4⟩,e5⟩,e6⟩,e7⟩:=j;have hL:LX 3 9 0 c=(Hg (Qi 9 c) (Hg (O8 9 c) (some 0))):=QI
 rw[hL];unfold Nc;rw[EX (UL q Z),EX (QT e4),show((9:Int)==4)=false from rfl,BH,EX (JW e5),EX (JW e6),SI e7];exact NJ (dB u) (NJ (ae0 c) (.ret _))
def aj7 (c:CV):Df (O8 10 c) (OD 10 c.N):=by
 show Df ((bif c.N<1 then some true else some (decide (c.N>10000))).bind fun j=>(bif j then some 2 else some 0)) ((bif c.N>=1 then some (decide (c.N<=10000))else some false).bind fun q=>(bif (!q)then some 2 else some 0));rw[xC,oZ];cases decide (c.N<1)<;>cases decide (c.N>10000)<;>exact .ret _
def ad9 {c:CV} (hc:Jv c):Df (LG 10 c) (JY 10 c):=by
 have u:CQ 10 KD=some false:=AA
 have z:CQ 10 Kr=some true:=AA
 have q:CQ 10 Jk=some false:=AA
 have I:CQ 10 MB=some false:=AA
 have J:CQ 10 MN=some false:=AA
 have L:CQ 10 Ln=some false:=AA
 have O:CQ 10 Me=some false:=AA
 have U:CQ 10 MR=some false:=AA
 refine frame (M:=2) (kp:=0) (br:=true) rfl rfl rfl rfl u z q I J L O U MS (fun h=>rfl) (fun h h'=>ZH) fun j=>?_;unfold Kw at j;simp only[Ox,La,NV,Gm,D5]at j;obtain⟨⟨⟨⟨⟨⟨Y,e2⟩,Z⟩,e4⟩,e5⟩,e6⟩,e7⟩:=j;have hL:LX 2 10 0 c=(Hg (O8 10 c) (some 0)):=QI
 rw[hL];unfold Nc;rw[EX (text0 Y Bf),EX (UL q Z),EX (QT e4),show((10:Int)==4)=false from rfl,BH,EX (JW e5),EX (JW e6),SI e7];exact NJ (aj7 c) (.ret _)
def aau {c:CV} (u:Jv c):Df (LG 11 c) (JY 11 c):=by
 have z:CQ 11 KD=some true:=AA
 have I:CQ 11 Kr=some false:=AA
 have q:CQ 11 Jk=some true:=AA
 have J:CQ 11 MB=some true:=AA
 have L:CQ 11 MN=some false:=AA
 have O:CQ 11 Ln=some false:=AA
 have U:CQ 11 Me=some false:=AA
 have Y:CQ 11 MR=some false:=AA
 refine frame (M:=13) (kp:=0) (br:=true) rfl rfl rfl rfl z I q J L O U Y MS (fun h=>rfl) (fun h h'=>ZH) fun j=>?_;unfold Kw at j;simp only[Ox,La,NV,Gm,D5]at j;obtain⟨⟨⟨⟨e1,Z⟩,e5⟩,e6⟩,e7⟩:=j;have hL:LX 13 11 0 c=(Hg (Qi 11 c) (Hg (RX 11 c) (Hg (aI 11 c) (some 0)))):=QI
 rw[hL];unfold Nc;rw[EX (show OD 11 c.N=some 0 from rfl),EX (QT Z),show((11:Int)==4)=false from rfl,BH,EX (JW e5),EX (JW e6),SI e7];rw[aDg,aDg];exact NJ (dB u) (agI q)
def aji {c:CV} (u:Jv c):Df (LG 12 c) (JY 12 c):=by
 have z:CQ 12 KD=some true:=AA
 have I:CQ 12 Kr=some false:=AA
 have q:CQ 12 Jk=some true:=AA
 have J:CQ 12 MB=some false:=AA
 have L:CQ 12 MN=some false:=AA
 have O:CQ 12 Ln=some false:=AA
 have U:CQ 12 Me=some false:=AA
 have Y:CQ 12 MR=some false:=AA
 refine frame (M:=5) (kp:=0) (br:=true) rfl rfl rfl rfl z I q J L O U Y MS (fun h=>rfl) (fun h h'=>ZH) fun j=>?_;unfold Kw at j;simp only[Ox,La,NV,Gm,D5]at j;obtain⟨⟨⟨⟨⟨e1,Z⟩,e4⟩,e5⟩,e6⟩,e7⟩:=j;have hL:LX 5 12 0 c=(Hg (Qi 12 c) (Hg (RX 12 c) (some 0))):=QI
 rw[hL];unfold Nc;rw[EX (show OD 12 c.N=some 0 from rfl),EX (QT e4),show((12:Int)==4)=false from rfl,BH,EX (JW e5),EX (JW e6),SI e7];exact NJ (dB u) (NJ (aFu q Z) (.ret _))
def aff {c:CV} (u:Jv c):Df (LG 13 c) (JY 13 c):=by
 have z:CQ 13 KD=some true:=AA
 have I:CQ 13 Kr=some false:=AA
 have q:CQ 13 Jk=some true:=AA
 have J:CQ 13 MB=some false:=AA
 have L:CQ 13 MN=some false:=AA
 have O:CQ 13 Ln=some false:=AA
 have U:CQ 13 Me=some false:=AA
 have Y:CQ 13 MR=some false:=AA
 refine frame (M:=5) (kp:=0) (br:=true) rfl rfl rfl rfl z I q J L O U Y MS (fun h=>rfl) (fun h h'=>ZH) fun j=>?_;unfold Kw at j;simp only[Ox,La,NV,Gm,D5]at j;obtain⟨⟨⟨⟨⟨e1,Z⟩,e4⟩,e5⟩,e6⟩,e7⟩:=j;have hL:LX 5 13 0 c=(Hg (Qi 13 c) (Hg (RX 13 c) (some 0))):=QI
 rw[hL];unfold Nc;rw[EX (show OD 13 c.N=some 0 from rfl),EX (QT e4),show((13:Int)==4)=false from rfl,BH,EX (JW e5),EX (JW e6),SI e7];exact NJ (dB u) (NJ (aFu q Z) (.ret _))
def afZ {c:CV} (u:Jv c):Df (LG 14 c) (JY 14 c):=by
 have z:CQ 14 KD=some true:=AA
 have I:CQ 14 Kr=some false:=AA
 have q:CQ 14 Jk=some true:=AA
 have J:CQ 14 MB=some false:=AA
 have L:CQ 14 MN=some false:=AA
 have O:CQ 14 Ln=some false:=AA
 have U:CQ 14 Me=some false:=AA
 have Y:CQ 14 MR=some false:=AA
 refine frame (M:=5) (kp:=4) (br:=false) rfl rfl rfl rfl z I q J L O U Y MS (fun h=>Gz) (fun h h'=>Gz) fun j=>?_;unfold Kw at j;simp only[Ox,La,NV,Gm,D5]at j;obtain⟨⟨⟨⟨⟨e1,Z⟩,e4⟩,e5⟩,e6⟩,e7⟩:=j;have hL:LX 5 14 0 c=(Hg (Qi 14 c) (Hg (RX 14 c) (some 0))):=QI
 rw[hL];unfold Nc;rw[EX (show OD 14 c.N=some 0 from rfl),EX (QT e4),show((14:Int)==4)=false from rfl,BH,EX (JW e5),EX (JW e6),SI e7];exact NJ (dB u) (NJ (aFu q Z) (.ret _))
def ah4 (k:Int) {c:CV} (j:Jv c):Df (LG k c) (JY k c):=by
 cases q:decide (k>=1)&&decide (k<=14)with
 |false=>
  obtain⟨u,k2⟩:=aEU k;rw[q]at u k2
  have f:∀n:Int,1<=n->n<=14->(k==n)=false:=fun n z I=>by
   rw[Zg];rintro rfl;rw[I4 (show k>=1 from z),I4 I]at q;cases q
  have hm:iL k=some 0:=by
   unfold iL sV oV;rw[f 2 Bf Bf,f 3 Bf Bf,f 4 Bf Bf,f 5 Bf Bf,f 8 Bf Bf,f 10 Bf Bf,f 6 Bf Bf,f 7 Bf Bf,f 9 Bf Bf,f 11 Bf Bf,f 12 Bf Bf,f 13 Bf Bf,f 14 Bf Bf];rfl
  unfold LG JY;rw[hm,u,k2];exact .ret _
 |true=>
  simp only[D5,Ht]at q;have :k=1\/k=2\/k=3\/k=4\/k=5\/k=6\/k=7\/k=8\/k=9\/k=10\/k=11\/k=12\/k=13\/k=14:=AB
  rcases this with rfl|rfl|rfl|rfl|rfl|rfl|rfl|rfl|rfl|rfl|rfl|rfl|rfl|rfl
  ·exact agj j
  ·exact agM j
  ·exact ake j
  ·exact acp j
  ·exact anR j
  ·exact aix j
  ·exact aiP j
  ·exact apC j
  ·exact abE j
  ·exact ad9 j
  ·exact aau j
  ·exact aji j
  ·exact aff j
  exact afZ j
def N8 {α:Type} (p:α->α->AQ) (a b:A8 α):AQ:=((a.length:Int)==(b.length:Int))&& !((a.zip b).any fun x=> !p x.1 x.2)
def jR {α R:Type} {body:(Int->AL R)->Int->AL R} (p:α->α->AQ) (a b:A8 α) (ha:a.length<=1000) (j:a.length=b.length) (bad:R) (rest:AL R)
 (q:∀k (i:Nat) (h:i<a.length) (h':i<b.length),body k (i:Int)=bif !p a[i] b[i]then some bad else k (BA ((i:Int)+1))) (u:∀k,body k (a.length:Int)=rest):bI body Aw 0=bif (a.zip b).any fun x=> !p x.1 x.2 then some bad else rest:=by
 have hl:(a.zip b).length=a.length:=Et
 refine Jo (a.zip b) (by rw[hl];exact aJV AB) (fun x=> !p x.1 x.2) bad rest (fun k i h=>?_) (fun k=>by rw[hl];exact u k);have z:i<a.length:=AB
 have I:i<b.length:=AB
 rw[q k i z I,aK6]
def len_eq {α:Type} {a b:A8 α} (h:((a.length:Int)==(b.length:Int))=true):a.length=b.length:=by have :=eq_of_beq h;omega
def Vy (x y:BI):AQ:=x.toList==y.toList
def U5 (x y:Ii):AQ:=x.User.toList==y.User.toList&&x.N==y.N
def Ri (x y:JR):AQ:=x.Kind==y.Kind&&x.N==y.N
def aDG {a b:A8 BI} (ha:a.length<=1000):wQ a b=some (N8 Vy a b)/\VP a b=some (N8 Vy a b):=by
 unfold wQ VP N8;simp only[bne];cases h:((a.length:Int)==(b.length:Int))with
 |false=>exact⟨rfl,rfl⟩
 |true=>
  have j:=len_eq h;simp only[F6,BH,Gm];unfold aa1 aHf
  rw[jR Vy a b ha j false (some true) (fun k i h h'=>by simp only[aKI,dec_lt h,Bq,Dn h,Dn h',Ad];rfl) (fun k=>by simp only[aKI,ER,BH]),
   jR Vy a b ha j false (some true) (fun k i h h'=>by simp only[uD,dec_lt h,Bq,Dn h,Dn h',Ad];rfl) (fun k=>by simp only[uD,ER,BH])]
  cases(a.zip b).any fun x=> !Vy x.1 x.2<;>exact⟨rfl,rfl⟩
def ajN {a b:A8 Ii} (ha:a.length<=1000):aCD a b=some (N8 U5 a b):=by
 unfold aCD N8;simp only[bne];cases h:((a.length:Int)==(b.length:Int))with
 |false=>rfl
 |true=>
  have j:=len_eq h;simp only[F6,BH,Gm];unfold aMK;rw[jR U5 a b ha j false (some true) (fun k i h h'=>by simp only[aIQ,dec_lt h,Bq,Dn h,Dn h',Ad,aC4,U5,NV]) (fun k=>by simp only[aIQ,ER,BH])];cases(a.zip b).any fun x=> !U5 x.1 x.2<;>rfl
def aeI {a b:A8 JR} (ha:a.length<=1000):zn a b=some (N8 Ri a b):=by
 unfold zn N8;simp only[bne];cases h:((a.length:Int)==(b.length:Int))with
 |false=>rfl
 |true=>
  have j:=len_eq h;simp only[F6,BH,Gm];unfold aQJ;rw[jR Ri a b ha j false (some true) (fun k i h h'=>by simp only[aJU,dec_lt h,Bq,Dn h,Dn h',Ad,aBj,Ri,NV]) (fun k=>by simp only[aJU,ER,BH])];cases(a.zip b).any fun x=> !Ri x.1 x.2<;>rfl
def nM (a b:DX):AQ:=(a.User==b.User)&&(a.Message==b.Message)&&(a.State==b.State)&&(a.gV==b.gV)&&(a.kY==b.kY)&&(a.pR==b.pR)&&(a.iM==b.iM)
def dK (a b:DX):AQ:=N8 U5 a.Users b.Users&&(N8 Ri a.Kinds b.Kinds&&nM a b)
def al4 {a b:DX} (j:a.Users.length<=1000) (q:a.Kinds.length<=1000):Z4 a b=some (dK a b):=by
 unfold Z4 dK N8;simp only[bne];cases u:((a.Users.length:Int)==(b.Users.length:Int))with
 |false=>rfl
 |true=>
  cases z:((a.Kinds.length:Int)==(b.Kinds.length:Int))with
  |false=>simp
  |true=>
   have I:=len_eq u;have ek:=len_eq z
   have J:iq a b 0=bif (a.Kinds.zip b.Kinds).any fun x=> !Ri x.1 x.2 then some false else some (nM a b):=by
    unfold iq;refine jR Ri a.Kinds b.Kinds q ek false (some (nM a b)) (fun k i h h'=>?_) (fun k=>?_)
    ·simp only[aA4,dec_lt h,Bq,Dn h,Dn h',Ad,zZ,Ri,bne];cases a.Kinds[i].Kind==b.Kinds[i].Kind<;>cases a.Kinds[i].N==b.Kinds[i].N<;>rfl
    simp only[aA4,ER,BH,KA,Ad,Ut];rfl
   simp only[F6,BH,Ad,Gm];unfold aBY
   rw[jR U5 a.Users b.Users j I false (iq a b 0) (fun k i h h'=>by
    simp only[aCo,dec_lt h,Bq,Dn h,Dn h',Ad,aDk,U5,bne]
    cases a.Users[i].User.toList==b.Users[i].User.toList<;>cases a.Users[i].N==b.Users[i].N<;>rfl) (fun k=>by simp only[aCo,ER,BH]),J]
   cases(a.Users.zip b.Users).any fun x=> !U5 x.1 x.2<;>cases(a.Kinds.zip b.Kinds).any fun x=> !Ri x.1 x.2<;>rfl
def wG (a b:CV):AQ:=(a.Text.toList==b.Text.toList)&&(a.N==b.N)&&(a.Target==b.Target)&&(a.Thread==b.Thread)&&(a.Via.toList==b.Via.toList)&&N8 Vy a.Allow b.Allow&&N8 Vy a.fV b.fV&&dK a.Levels b.Levels
def aJH {a:CV} (b:CV) (ha:PU a):VQ a b=some (wG a b):=by
 have j:=ha.allow;have q:=ha.deny;have u:=ha.users;have z:=ha.kinds;unfold VQ wG;rw[(aDG (a:=a.Allow) AB).2,(aDG (a:=a.fV) AB).2,al4 (a:=a.Levels) AB AB];simp only[KA,Ad,Ut]
def ao6 {a:CV} (b:CV) (ha:PU a):zT a b=some (wG a b):=by
 have M:=ha.allow;have O:=ha.deny;have U:=ha.users;have Y:=ha.kinds;unfold zT wG dK nM;rw[(aDG (a:=a.Allow) AB).1,(aDG (a:=a.fV) AB).1,ajN (a:=a.Levels.Users) AB,aeI (a:=a.Levels.Kinds) AB];simp only[KA,Ad,Ut,jA,bne];generalize(a.Text.toList==b.Text.toList)=j;generalize(a.N==b.N)=q;generalize(a.Target==b.Target)=u;generalize(a.Thread==b.Thread)=z;generalize(a.Via.toList==b.Via.toList)=I;generalize N8 Vy a.Allow b.Allow=J;generalize N8 Vy a.fV b.fV=L;generalize N8 U5 a.Levels.Users b.Levels.Users=Z;generalize N8 Ri a.Levels.Kinds b.Levels.Kinds=x9;cases j<;>cases q<;>cases u<;>cases z<;>cases I<;>cases J<;>cases L<;>first|rfl|(simp only[F6,Bool.or_self,BH,Gm,Bool.and_self,Bool.and_assoc])
def agk {e:AO} (j:Wj e) (v:AQ):Df (XT e v) ((Sm e v).bind fun u=>(bif (u != 0)then some u else(JY e.Kind e.Content).bind fun J=>some J)):=by
 have h1:=j.room;have h2:=j.sender;have h3:=j.key;have h4:=j.prev;have h5:=j.auth;unfold XT Sm;rw[afC j,(lV (s:=e.Room) AB).2,(YP (s:=e.bH) AB).2,aPb AB];cases v with
 |true=>exact .ret _
 |false=>
  simp only[BH,Ad,bne,KA,jA];generalize(MC e.Room==0)=a;generalize(QY e.bH==0)=b;generalize UH e.Kind e.Key=L;cases a with
  |false=>exact .ret _
  |true=>
   cases b with
   |false=>exact .ret _
   |true=>
    cases L with
    |false=>exact .ret _
    |true=>
     simp only[F6,Bool.or_self,Bool.and_self,BH,aCM];refine I5 (fun _=>.ret _) fun _=>I5 (fun _=>.ret _) fun hlen=>?_;simp only[dL,WA]at hlen;obtain⟨M,O,U⟩:=aPY (l:=e.bV) AB;obtain⟨Y,Z,q2⟩:=aPY (l:=e.bZ) AB;rw[O,Z,U,q2];simp only[Ad,KA,jA,aCM];cases M with
     |false=>exact .ret _
     |true=>
     cases Y with
     |false=>exact .ret _
     |true=>
     simp only[F6,BH]
     have hs:decide ((BA ((e.bV.length:Int)+(e.bZ.length:Int)))>0)=(decide ((e.bV.length:Int)>0)||((e.bZ.length:Int)>0)):=by
      rw[Ld AB AB];by_cases z:(e.bV.length:Int)>0
      ·rw[I4 z,I4 AB];rfl
      by_cases I:(e.bZ.length:Int)>0
      ·rw[I4 I,I4 AB,Ox]
      rw[GK z,GK I,GK AB];rfl
     rw[hs];generalize(bif ((e.bV.length:Int)==0)then !e.Kind==1 else false)=p;generalize(bif (e.Kind==1)then(decide ((e.bV.length:Int)>0)||((e.bZ.length:Int)>0))else false)=q;cases p with
     |true=>exact .ret _
     |false=>
      cases q with
      |true=>exact .ret _
      |false=>exact Df.bind (ah4 e.Kind j.content) fun x=>.ret _
def aoh {e:AO} (q:Wj e):Df (aAh e) (qh e):=by
 have j:=agk q;unfold aAh qh aKD;rw[show bf e.Kind=eI e.Kind from rfl];simp only[aCM,bne,KA,Ad];refine I5 (fun _=>j _) fun _=>I5 (fun _=>j _) fun _=>?_;have hs:∃b,eI e.Kind=some b:=by unfold eI;cases decide (e.Kind>=1)<;>cases decide (e.Kind<=10)<;>exact⟨_,rfl⟩
 obtain⟨b,u⟩:=hs;rw[u];simp only[Ad,aCM];refine I5 (fun _=>j _) fun _=>I5 (fun _=>?_) fun _=>j _;cases e.Kind==2 with
 |true=>exact j _
 |false=>exact j _
def bD {e:AO} (j:Tz e):TD e=some (YG e==e.Hash)/\kV e=some (YG e==e.Hash):=by
 unfold TD kV;rw[(aQQ j).1,(aQQ j).2];exact⟨rfl,rfl⟩
def aow {e:AO} (j:Tz e) (v:AQ):Df (Zc e v) (nO e v):=by
 have J:e.bH.size<=2000:=j.sender;unfold Zc nO;obtain⟨q,u⟩:=aSo j;obtain⟨z,I⟩:=aDf (s:=e.bH) AB;rw[q,u,z,I];refine I5 (fun _=>.ret _) fun _=>?_;simp only[Ad];refine I5 (fun _=>.ret _) fun _=>?_;unfold aHz yN;show Df (bif !((e.rQ.Server.toList==(splitB e.bH (Lr e.bH)).2.1.toList)&&((e.rQ.Sum==e.Id)&&true))then some 12 else some 0) _;simp only[bne];cases(e.rQ.Server.toList==(splitB e.bH (Lr e.bH)).2.1.toList)<;>cases(e.rQ.Sum==e.Id)<;>exact .ret _
def JO {a:Int} {c:AQ} {X:AL Int} (h:(bif c then some a else X)=some 0) (ha:a≠0):c=false/\X=some 0:=by
 cases c with
 |true=>exact absurd (Ch h) ha
 |false=>exact⟨rfl,h⟩
def RV {a:Int} {x:AL Int} (h:(bif a != 0 then some a else x)=some 0):a=0/\x=some 0:=by
 by_cases ha:a=0
 ·subst ha;exact⟨rfl,h⟩
 rw[show(a != 0)=true from by simpa using ha]at h;exact absurd (Ch h) ha
def firsts {α R:Type} {body:(Int->AL R)->Int->AL R} {ok:R} (l:A8 α) (hl:l.length<=9223372036854775807) (P:Nat->Prop)
 (I:∀k (i:Nat),i<l.length->body k (i:Int)=some ok->P i/\k ((i+1:Nat):Int)=some ok) (u:Nat) (h:bI body Aw (u:Int)=some ok):∀i,u<=i->i<l.length->P i:=by
 have key:∀n (i:Nat) m,i+n=l.length->n<m->bI body m (i:Int)=some ok->∀j,i<=j->j<l.length->P j:=by
  intro n
  induction n with
  |zero=>intro i m hi _ _ j q z;omega
  |succ n J=>
   intro i m hi hm L j q z;obtain⟨m,rfl⟩:∃M,m=M+1:=⟨m-1,AB⟩
   obtain⟨a,b⟩:=I (bI body m) i AB L;rcases aIi q with rfl|q
   ·exact a
   exact J (i+1) m AB AB b j q z
 intro i q z;have O:Aw=9223372036854775808:=rfl;exact key (l.length-u) u Aw AB AB h i q z
def jk {α:Type} {l:A8 α} {Q:α->Prop} (h:∀i,0<=i->i<l.length->∀x,l[i]? =some x->Q x):∀x∈l,Q x:=fun x j=>by
 obtain⟨i,hi,rfl⟩:=Gf j;exact h i (Ec _) hi _ (E9 hi)
def adg (s:BI) (a b:Nat) (j:b<=s.size):(s.extract a b).size=b-a:=by rw[aHa];omega
def aNX {l:A8 Int} {p:Int->AQ} (h:Qm l p=true):l.length<=32:=(aOh h).2
def oI {s:BI} {m:Int} (h:Hf s m=true):s.size<=100:=by
 unfold Hf TN at h;simp only[D5,Ht]at h;have u:=h.2.1.1;have j:=aNX h.2.1.2
 have q:(CG (SP s)).length<=32:=by
  have :=h.2.2;unfold Xh at this;simp only[D5]at this;exact aNX this.1.1
 rw[IV]at j q;unfold Ui at j;unfold SP at q;rw[adg _ _ _ AB]at j q;omega
def aSe {s:BI} (hs:s.size<=9223372036854775807) (h:ZV s=some 0):s.size<=100/\Hf s 64=true:=by
 rw[(YP hs).2]at h;have h:=Ch h;unfold QY at h;cases hm:Hf s 64 with
 |true=>exact⟨oI hm,rfl⟩
 |false=>rw[hm]at h;cases h
def akh {s:BI} (hs:s.size<=9223372036854775807) (h:uO s=some 0):s.size<=100/\Hf s 33=true:=by
 rw[(lV hs).2]at h;have h:=Ch h;unfold MC at h;cases hm:Hf s 33 with
 |true=>exact⟨oI hm,rfl⟩
 |false=>rw[hm]at h;cases h
def aPA {s:BI} (hs:s.size<=9223372036854775807) (h:qy s=some 0):s.size<=100:=by
 rw[(aGO hs).2]at h;have h:=Ch h;unfold xI at h;split at h
 ·omega
 split at h
 ·cases h
 omega
def aOa {l:A8 BI} (hl:l.length<=9223372036854775807) (hs:∀s∈l,s.size<=9223372036854775807) (h:TW l=some 0):l.length<=100/\∀s∈l,s.size<=100:=by
 unfold TW at h;obtain⟨u,h⟩:=JO h Bf;refine⟨by have :=JV u;omega,jk (firsts l hl (fun i=>∀x,l[i]? =some x->x.size<=100) (fun k i hi j=>?_) 0 h)⟩;unfold oC at j;rw[DV hi]at j;obtain⟨x,z,j⟩:=DT j;obtain⟨e,j⟩:=RV j;subst e;rw[wrap_succ i AB]at j;exact⟨fun y q=>by rw[E9 hi]at q;obtain rfl:=Ch q;exact aPA (hs _ (E5 hi)) z,j⟩
def ahr {c:CV} (hl:c.Allow.length<=9223372036854775807) (hs:∀s∈c.Allow,s.size<=9223372036854775807) (h:kM c=some 0):c.Allow.length<=100/\∀s∈c.Allow,s.size<=100:=by
 unfold kM at h;obtain⟨x,_,h⟩:=DT h;obtain⟨_,h⟩:=JO h Bf;obtain⟨I,h⟩:=JO h Bf;refine⟨by have :=JV I;omega,jk (firsts c.Allow hl (fun i=>∀x,c.Allow[i]? =some x->x.size<=100) (fun k i hi j=>?_) 0 h)⟩;unfold aCT yg at j;rw[DV hi]at j;obtain⟨x,J,j⟩:=DT j;obtain⟨e,j⟩:=JO j Bf;have q:x=0:=Sz
 subst q;refine⟨fun y u=>by rw[E9 hi]at u;obtain rfl:=Ch u;exact(akh (hs _ (E5 hi)) J).1,?_⟩;cases hp:decide ((i:Int)>0)with
 |true=>
  rw[hp,Bq]at j;obtain⟨y,_,j⟩:=DT j;obtain⟨z,_,j⟩:=DT j;obtain⟨_,j⟩:=JO j Bf
  rwa [wrap_succ i AB]at j
 |false=>
  rw[hp,BH,BH]at j
  rwa [wrap_succ i AB]at j
def anB {l:A8 Ii} (hl:l.length<=9223372036854775807) (hs:∀u∈l,u.User.size<=9223372036854775807) (h:aJ l=some 0):l.length<=100/\∀u∈l,u.User.size<=100:=by
 unfold aJ at h;obtain⟨O,h⟩:=JO h Bf;refine⟨by have :=JV O;omega,jk (firsts l hl (fun i=>∀x,l[i]? =some x->x.User.size<=100) (fun k i hi q=>?_) 0 h)⟩
 have J:∀v,pF l (i:Int) k v=some 0->k ((i+1:Nat):Int)=some 0:=fun v j=>by
  unfold pF at j;obtain⟨_,j⟩:=JO j Bf;obtain⟨y,_,j⟩:=DT j;obtain⟨z,_,j⟩:=DT j;obtain⟨_,j⟩:=JO j Bf
  rwa [wrap_succ i AB]at j
 unfold rC at q;rw[DV hi]at q;obtain⟨x,L,U⟩:=DT q;obtain⟨e,hd⟩:=JO U Bf;have I:x=0:=Sz
 rw[I]at L;refine⟨fun y M=>by rw[E9 hi]at M;obtain rfl:=Ch M;exact(aSe (hs _ (E5 hi)) L).1,?_⟩;cases hp:decide ((i:Int)>0)with
 |true=>
  rw[hp,Bq]at hd;obtain⟨y,_,Y⟩:=DT hd;obtain⟨z,_,Z⟩:=DT Y;exact J _ Z
 |false=>
  rw[hp,BH]at hd;exact J _ hd
def acR {l:A8 JR} (h:Za l=some 0):l.length<=100:=by
 unfold Za at h;obtain⟨j,_⟩:=JO h Bf;have :=JV j;omega
def empty_of {s:BI} (h:(s.toList==Cb.toList)=true):s.size<=100:=by rw[aCg]at h;have :=eq_of_beq h;omega
def aOY {l:DX} (h:Np l=true):l.Users=[]/\l.Kinds=[]:=by
 unfold Np at h;simp only[D5]at h;exact⟨Tf h.1.1.1.1.1.1.1.1,Tf h.1.1.1.1.1.1.1.2⟩
def amE {k:Int} {c:CV} (L:Jv c) (h:JY k c=some 0):PU c:=by
 unfold JY at h;rw[(aEU k).2,Ad]at h;obtain⟨x2,O,h⟩:=DT h;obtain⟨e2,h⟩:=JO h Bf;subst e2
 have J:lJ k c=some true:=by
  cases hk:(decide (k>=1)&&(k<=14))with
  |false=>rw[hk]at O;cases O
  |true=>
   rw[hk]at O;obtain⟨y,U,M⟩:=DT (show(lJ k c).bind (fun x4=>some (!x4))=some false from O);have M:=Ch M;cases y with
   |true=>exact U
   |false=>cases M
 obtain⟨x6,_,h⟩:=DT h;obtain⟨x7,Y,h⟩:=DT h;cases x7 with
 |true=>
  have M:eF (c.Text.toList==Cb.toList) (c.N==0) (c.Target==0) (!c.Thread) (c.Via.toList==Cb.toList) ((c.Allow.length:Int)==0) ((c.fV.length:Int)==0) (Np c.Levels)=true:=by
   cases x6 with
   |false=>cases Y
   |true=>rw[aaP]at Y;exact Ch Y
  unfold eF at M;simp only[D5]at M;obtain⟨⟨⟨⟨⟨⟨⟨t1,_⟩,_⟩,_⟩,t5⟩,t6⟩,t7⟩,t8⟩:=M;have p:=aOY t8;have q1:=empty_of t1;have q2:=empty_of t5;have a1:=Tf t6;have a2:=Tf t7;refine⟨?_,?_,?_,?_,AB,AB,?_,?_,?_⟩<;>first|rw[a1]|rw[a2]|rw[p.1]|rw[p.2]
  all_goals first|exact Ec _|exact fun x hx=>absurd hx Ez
 |false=>
  rw[BH]at h;obtain⟨x11,j,h⟩:=DT h;obtain⟨e,h⟩:=RV h;subst e;obtain⟨Hz,_,h⟩:=DT h;obtain⟨_,h⟩:=RV h;obtain⟨x15,_,h⟩:=DT h;obtain⟨_,h⟩:=RV h;obtain⟨x17,I,h⟩:=DT h;obtain⟨e,h⟩:=RV h;subst e
  have ht:c.Text.size<=2000:=by
   unfold Zk at j;cases h9:k==9 with
   |true=>
    rw[h9,Bq]at j;cases h0:(c.Text.toList==Cb.toList)with
    |true=>have :=empty_of h0;omega
    |false=>
     rw[h0,BH]at j;obtain⟨y,U,j⟩:=DT j;obtain rfl:=Ch j;have :=aPA L.text U;omega
   |false=>
    rw[h9,BH]at j;obtain⟨y,_,j⟩:=DT j;obtain⟨_,j⟩:=JO j Bf;obtain⟨z,M,j⟩:=DT j;obtain⟨e,_⟩:=JO j Bf;subst e;cases hd:decide ((c.Text.size:Int)>400)with
    |true=>rw[hd]at M;cases M
    |false=>have :=JV hd;omega
  have hv:c.Via.size<=2000:=by
   unfold ZN at I;cases h0:(c.Via.toList==Cb.toList)with
   |true=>have :=empty_of h0;omega
   |false=>
    rw[h0,BH]at I;obtain⟨_,I⟩:=JO I Bf;obtain⟨y,U,I⟩:=DT I;obtain rfl:=Ch I;have :=(aSe L.via U).1;omega
  have Z:∀{l:A8 BI},(∀s∈l,s.size<=100)->∀s∈l,s.size<=2000:=fun h s hs=>EY (h s hs) AB;cases h4:k==4 with
  |true=>
   have e4:=eq_of_beq h4;subst e4;rw[Uy,Bq]at h;obtain⟨y,U,h⟩:=DT h;obtain rfl:=Ch h;obtain⟨r1,r2⟩:=ahr L.allow L.allows U;rw[aN9 (K:=4) (c:=c) (show _=some false by kernel_rfl) (show _=some true by kernel_rfl) (show _=some false by kernel_rfl) (show _=some false by kernel_rfl) (show _=some false by kernel_rfl) (show _=some true by kernel_rfl) (show _=some false by kernel_rfl) (show _=some false by kernel_rfl)]at J;have ho:=Ch J;unfold Kw at ho;simp only[D5,La]at ho;have d:=Tf ho.1.2;have p:=aOY ho.2;refine⟨r1,?_,?_,?_,ht,hv,Z r2,?_,?_⟩<;>first|rw[d]|rw[p.1]|rw[p.2]
   all_goals first|exact Ec _|exact fun x hx=>absurd hx Ez
  |false=>
   rw[h4,BH]at h;obtain⟨y1,hy1,h⟩:=DT h;obtain⟨e,h⟩:=RV h;subst e;obtain⟨y2,hy2,h⟩:=DT h;obtain⟨e,h⟩:=RV h;subst e;obtain⟨y3,q,h⟩:=DT h;obtain rfl:=Ch h;unfold ZX at q;obtain⟨z1,hz1,q⟩:=DT q;obtain⟨e,q⟩:=RV q;subst e;obtain⟨z2,hz2,q⟩:=DT q;obtain⟨e,q⟩:=RV q;subst e;obtain⟨a1,a2⟩:=aOa L.allow L.allows hy1;obtain⟨d1,d2⟩:=aOa L.deny L.denies hy2;obtain⟨u1,u2⟩:=anB L.users L.names hz1;exact⟨a1,d1,u1,acR hz2,ht,hv,Z a2,Z d2,fun u hu=>EY (u2 u hu) AB⟩
structure Y8 (e:AO):Prop where
 kind:1<=e.Kind/\e.Kind<=14
 state:e.State=JQ e.Kind
 keyed:e.Key=Cb\/e.Kind=2\/e.Kind=9
 room:Hf e.Room 33=true
 sender:Hf e.bH 64=true
 key:UH e.Kind e.Key=true
 time:0<=e.Time/\e.Time<=1000000000
 depth:1<=e.Depth/\e.Depth<=100000
 prev:e.bV.length<=10/\Inc e.bV/\∀x∈e.bV,0<=x
 auth:e.bZ.length<=8/\Inc e.bZ/\∀x∈e.bZ,0<=x
 short:e.bV=[]->e.Kind=1
 form:e.Kind=1->e.bV=[]/\e.bZ=[]
 content:JY e.Kind e.Content=some 0
 small:Tz e
def aSb {l:A8 Int} (hl:l.length<=9223372036854775807) (h:iR l=some true):Inc l/\∀x∈l,0<=x:=by
 unfold iR aIR at h
 have u:=firsts l hl (fun i=>∀x,l[i]? =some x->0<=x/\∀y,0<i->l[i-1]? =some y->y<x) (fun k i hi q=>by
  have J:∀v,kU k (i:Int) v=some true->v=false/\k ((i+1:Nat):Int)=some true:=fun v L=>by
   unfold kU at L;cases v with
   |true=>cases L
   |false=>rw[BH,wrap_succ i AB]at L;exact⟨rfl,L⟩
  unfold aAi at q;rw[DV hi]at q;cases M:decide (l[i]<0)with
  |true=>rw[M,Bq]at q;cases(J _ q).1
  |false=>
   have h0:=JV M;rw[M,BH]at q;cases hp:decide ((i:Int)>0)with
   |false=>
    have hp0:=JV hp;rw[hp,BH]at q;refine⟨fun x z=>?_,(J _ q).2⟩;rw[E9 hi]at z;obtain rfl:=Ch z;exact⟨AB,fun y h0 O=>AB⟩
   |true=>
    rw[hp,Bq,Dn hi,Ad,nI hi hl hp,Ad]at q;obtain⟨U,Y⟩:=J _ q;refine⟨fun x z=>?_,Y⟩;rw[E9 hi]at z;obtain rfl:=Ch z;refine⟨AB,fun y h0 O=>?_⟩;rw[E9 AB]at O;obtain rfl:=Ch O
    have :=JV U;omega) 0 h
 have I:∀i,(hi:i+1<l.length)->l[i]<l[i+1]:=fun i hi=>(u (i+1) AB hi _ (E9 hi)).2 _ AB (E9 AB);refine⟨?_,fun x z=>?_⟩
 ·rw[Inc,KI];intro i j hi J Z
  induction j with
  |zero=>omega
  |succ j ih=>
   have U:=I j J;rcases aIi (Nat.le_of_lt_succ Z)with rfl|Y
   ·exact U
   have :=ih AB Y;omega
 obtain⟨i,hi,rfl⟩:=Gf z;exact(u i (Ec _) hi _ (E9 hi)).1
def sJ {c:AQ} {X:AL AQ} {f:AQ->AL Int} {v:Int} (j:f true≠some v) (h:((bif c then some true else X).bind f)=some v):c=false/\X.bind f=some v:=by
 cases c with
 |true=>exact absurd h j
 |false=>exact⟨rfl,h⟩
def ahF {e:AO} (M:Wj e) (h:qh e=some 0):Y8 e:=by
 unfold qh at h;obtain⟨x1,j,h⟩:=DT h;obtain⟨e1,h⟩:=RV h;subst e1;obtain⟨x3,h3,h⟩:=DT h;obtain rfl:=Ch h;have L:=amE M.content h3
 have O:∀v,Sm e v=some 0->v=false:=fun v hv=>by
  cases v with
  |true=>cases hv
  |false=>rfl
 have hj2:Sm e false=some 0/\(1<=e.Kind/\e.Kind<=14)/\e.State=JQ e.Kind/\(e.Key=Cb\/e.Kind=2\/e.Kind=9):=by
  unfold aKD at j;cases Z:decide (e.Kind<1)with
  |true=>rw[Z,Bq]at j;cases O _ j
  |false=>
   cases c2:decide (e.Kind>14)with
   |true=>rw[Z,c2,BH,Bq]at j;cases O _ j
   |false=>
    rw[Z,c2,BH,BH,akD,Ad]at j;have k1:=JV Z;have k2:=JV c2;cases c3:(e.State==JQ e.Kind)with
    |false=>rw[c3,Ko,Bq]at j;cases O _ j
    |true=>
     rw[c3,F6,BH]at j;refine⟨?_,⟨AB,AB⟩,eq_of_beq c3,?_⟩
     all_goals cases c4:(e.Key.toList==Cb.toList)with
     |true=>rw[c4,F6,BH]at j;first|exact j|exact .inl (toList_inj (eq_of_beq c4))
     |false=>
      rw[c4,Ko,Bq]at j;cases c5:(e.Kind != 2)with
      |false=>rw[c5,BH]at j;first|exact j|exact .inr (.inl (by simpa using c5))
      |true=>
       rw[c5,Bq]at j;have :=O _ j;rw[this]at j
       first|exact j|exact .inr (.inr aJ9)
 clear j O;obtain⟨j,hk,hst,U⟩:=hj2;unfold Sm at j;rw[BH,(lV (s:=e.Room) M.room).2,(YP (s:=e.bH) M.sender).2,aPb M.key]at j;simp only[Ad]at j
 have z:Hf e.Room 33=true:=by
  cases hm:Hf e.Room 33 with
  |true=>rfl
  |false=>unfold MC at j;rw[hm]at j;cases j
 have r0:MC e.Room=0:=by unfold MC;rw[z];rfl
 rw[r0,YZ,BH,Ad]at j
 have I:Hf e.bH 64=true:=by
  cases hm:Hf e.bH 64 with
  |true=>rfl
  |false=>unfold QY at j;rw[hm]at j;cases j
 have u0:QY e.bH=0:=by unfold QY;rw[I];rfl
 rw[u0,YZ,BH,Ad]at j
 have u:UH e.Kind e.Key=true:=by
  cases hm:UH e.Kind e.Key with
  |true=>rfl
  |false=>rw[hm]at j;cases j
 rw[u,F6,BH]at j;obtain⟨t1,j⟩:=sJ uI j;rw[Ad]at j;obtain⟨t2,j⟩:=sJ uI j;rw[Ad]at j;obtain⟨t3,j⟩:=sJ uI j;rw[Ad]at j;obtain⟨t4,j⟩:=JO j Bf;obtain⟨t5,j⟩:=sJ uI j;rw[Ad]at j;obtain⟨t6,j⟩:=JO j Bf;obtain⟨x21,h21,j⟩:=DT j;obtain⟨t7,j⟩:=sJ uI j;rw[Option.bind_assoc]at j;obtain⟨x24,h24,j⟩:=DT j;rw[Ad]at j;obtain⟨t8,j⟩:=JO j Bf;obtain⟨Gs,Y,j⟩:=DT j;obtain⟨t9,j⟩:=JO j Bf;obtain⟨x29,J,j⟩:=DT j;obtain⟨t10,_⟩:=JO j Bf;have e21:x21=true:=by simpa using t7
 have e24:x24=true:=by simpa using t8
 subst e21 e24 t9 t10;have p1:=JV t5;have p2:=JV t6;have r1:=aSb M.prev h21;have r2:=aSb M.auth h24;have d1:=JV t1;have d2:=JV t2;have d3:=JV t3;have d4:=JV t4
 have hkz:e.Key.size<=2000:=by
  rcases U with h|h|h
  ·rw[h];exact Ec _
  ·unfold UH at u;rw[D8 h]at u;have :QY e.Key=0:=WC
   unfold QY at this;cases hm:Hf e.Key 64 with
   |true=>have :=oI hm;omega
   |false=>rw[hm]at this;cases this
  unfold UH at u;rw[DU AB,D8 h]at u;unfold uF at u;simp only[D5,Ht]at u;have :=u.1.2;omega
 have z1:=oI z;have z2:=oI I;refine⟨hk,hst,U,z,I,u,⟨AB,AB⟩,⟨AB,AB⟩,⟨AB,r1⟩,⟨AB,r2⟩,fun hp=>?_,fun hk1=>?_,h3,⟨?_,?_,L.allow,L.deny,L.users,L.kinds,?_,?_,hkz,L.text,L.via,Ec _,L.allows,L.denies,L.names⟩⟩
 ·rw[hp]at Y;have :=Ch Y;simpa using this
 ·rw[hk1]at J;have J:((bif (e.bV.length:Int)>0 then some true else some (decide ((e.bZ.length:Int)>0))).bind fun x31=>some x31)=some false:=J;cases q:decide ((e.bV.length:Int)>0)with
  |true=>rw[q]at J;cases J
  |false=>
   rw[q]at J;have q2:=Ch J;have :=JV q;have :=JV q2;exact⟨Gy AB,Gy AB⟩
 ·show e.bV.length<=40;omega
 ·show e.bZ.length<=40;omega
 ·show e.Room.size<=2000;omega
 show e.bH.size<=2000;omega
def wX {e:AO} (L:Wj e):∃c,wE e=some c/\JG e=some c/\(c=0->Y8 e/\EU e):=by
 obtain⟨x,I,u⟩:=aoh L;unfold wE JG;rw[I,u,Ad,Ad];cases z:x != 0 with
 |true=>exact⟨x,rfl,rfl,fun h=>by subst h;cases z⟩
 |false=>
  obtain rfl:x=0:=KW
  have M:=ahF L u;have hs:=M.small;have J:e.bH.size<=2000:=hs.sender;rw[BH,BH,(bD hs).1,(bD hs).2,aQp _ hs.content,aKk];simp only[Ad];rw[ao6 _ hs.content,aJH _ hs.content];simp only[Ad]
  have key:∀v,∃c,Zc e v=some c/\nO e v=some c/\(c=0->Y8 e/\EU e):=fun v=>by
   obtain⟨c,j,U⟩:=aow hs v;refine⟨c,j,U,fun Y=>⟨M,?_⟩⟩;subst Y;unfold Zc at j;obtain⟨_,j⟩:=JO j Bf;rw[(aSo hs).1,Ad]at j;obtain⟨_,j⟩:=JO j Bf;rw[(aDf (s:=e.bH) AB).1,Ad]at j;obtain⟨O,_⟩:=JO (show(bif !((e.rQ.Server.toList==(splitB e.bH (Lr e.bH)).2.1.toList)&&((e.rQ.Sum==e.Id)&&true))then some 12 else some 0)=some (0:Int)from j) Bf
   have Z:e.rQ.Server=(splitB e.bH (Lr e.bH)).2.1:=by
    cases q:(e.rQ.Server.toList==(splitB e.bH (Lr e.bH)).2.1.toList)with
    |true=>exact toList_inj (eq_of_beq q)
    |false=>rw[q]at O;cases O
   have hz:=(ao3 e.bH J).2.2;exact⟨hs.prev,hs.auth,hs.allow,hs.deny,hs.users,hs.kinds,hs.room,hs.sender,hs.key,hs.text,hs.via,by rw[Z];exact hz,hs.allows,hs.denies,hs.names⟩
  cases(!(YG e==e.Hash))with
  |true=>rw[Bq,Bq];exact key _
  |false=>rw[BH,BH];exact key _
def aF3 {f g:(Int->AL Int)->Int->AL Int} (N lo:Nat) (hs:∀k k' (i:Nat),lo<=i->i<N->Df (k ((i+1:Nat):Int)) (k' ((i+1:Nat):Int))->Df (f k (i:Int)) (g k' (i:Int))) (z:∀k k',Df (f k (N:Int)) (g k' (N:Int))):
 ∀n (i:Nat),lo<=i->i+n=N->∀m j,n<m->n<j->Df (bI f m (i:Int)) (bI g j (i:Int)):=by
 intro n
 induction n with
 |zero=>
  intro i u hi m j I J;obtain⟨m,rfl⟩:∃q,m=q+1:=⟨m-1,AB⟩
  obtain⟨j,rfl⟩:∃q,j=q+1:=⟨j-1,AB⟩
  have :i=N:=AB
  subst this;exact z _ _
 |succ n L=>
  intro i u hi m j I J;obtain⟨m,rfl⟩:∃q,m=q+1:=⟨m-1,AB⟩
  obtain⟨j,rfl⟩:∃q,j=q+1:=⟨j-1,AB⟩
  exact hs _ _ i u AB (L (i+1) AB AB m j AB AB)
def lasts {R:Type} {body:(Int->AL R)->Int->AL R} {ok:R} (N:Nat) (O:N<=9223372036854775807) (P:Nat->Prop)
 (L:∀k (i:Nat),i<N->body k (i:Int)=some ok->P i/\k ((i+1:Nat):Int)=some ok) (q:Nat) (U:q<=N) (h:bI body Aw (q:Int)=some ok):(∀i,q<=i->i<N->P i)/\∃k,body k (N:Int)=some ok:=by
 have key:∀n (i:Nat) m,i+n=N->n<m->bI body m (i:Int)=some ok->(∀j,i<=j->j<N->P j)/\∃k,body k (N:Int)=some ok:=by
  intro n
  induction n with
  |zero=>
   intro i m hi hm z;obtain⟨m,rfl⟩:∃I,m=I+1:=⟨m-1,AB⟩
   have :i=N:=AB
   subst this;exact⟨fun j u J=>AB,_,z⟩
  |succ n M=>
   intro i m hi hm z;obtain⟨m,rfl⟩:∃I,m=I+1:=⟨m-1,AB⟩
   obtain⟨a,b⟩:=L (bI body m) i AB z;obtain⟨c,d⟩:=M (i+1) m AB AB b;refine⟨fun j u J=>?_,d⟩;rcases aIi u with rfl|u
   ·exact a
   exact c j u J
 have Y:Aw=9223372036854775808:=rfl;exact key (N-q) q Aw AB AB h
def aQU {α:Type} {l:A8 α} {i:Nat} (h:i+1<l.length) (hl:l.length<=1000000):BF l (BA (((i+1:Nat):Int)-1))=some l[i]:=by
 rw[show BA (((i+1:Nat):Int)-1)=(i:Int) by rw[tX];omega,Dn AB]
def ajW {l:A8 AO} (L:∀e∈l,Wj e) (hl:l.length<=1000):Df (NM l) (Pz l):=by
 by_cases I:l=[]
 ·subst I;exact⟨0,AA,AA⟩
 have q:0<l.length:=gZ.2 I;have M:Aw=9223372036854775807+1:=rfl
 have O:Df (aC6 l 1) (Sub l 1):=by
  unfold aC6 Sub;refine aF3 l.length 1 (fun k k' i z hi u=>?_) (fun k k'=>?_) (l.length-1) 1 (EW _) AB Aw Aw AB AB
  ·obtain⟨i,rfl⟩:∃j,i=j+1:=⟨i-1,AB⟩
   unfold aBH tN;rw[DV hi,dec_lt hi,Bq,aQU hi AB,Ad,Ad,Dn hi,Ad,wrap_succ (i+1) AB];show Df (bif l[i+1].Id<=l[i].Id then some 8 else k _) (bif l[i].Id>=l[i+1].Id then some 8 else k' _);exact I5 (fun _=>.ret _) fun _=>u
  unfold aBH tN;rw[ER];exact .ret _
 have J:BF l 0=some l[0]:=Dn (i:=0) q
 have U:Df (mD l 0) (zJ l 1):=by
  have Y:∀k,YM l k 0=k 1:=fun k=>by
   unfold YM;rw[show decide ((0:Int)<(l.length:Int))=true by simpa using q,Bq,J,Ad,Ad,Uy];rfl
  have Z:mD l 0=bI (YM l) 9223372036854775807 1:=by
   unfold mD;rw[M];exact Y _
  rw[Z];unfold zJ;refine aF3 l.length 1 (fun k k' i z hi u=>?_) (fun k k'=>?_) (l.length-1) 1 (EW _) AB _ Aw AB AB
  ·unfold YM wL;rw[DV hi,DV hi,J,Ad,Ad,wrap_succ i AB];exact I5 (fun _=>.ret _) fun _=>u
  unfold YM wL;rw[ER];exact O
 unfold NM Pz;rw[GK (show ¬(l.length:Int)>2000 by omega),BH,BH];unfold aJZ aCs;refine aF3 l.length 0 (fun k k' i _ hi u=>?_) (fun k k'=>?_) l.length 0 (EW _) AB Aw Aw AB AB
 ·unfold uS jc;obtain⟨c,c1,c2,_⟩:=wX (L _ (E5 hi));rw[DV hi,DV hi,c1,c2,Ad,Ad,wrap_succ i AB];exact I5 (fun _=>.ret _) fun _=>u
 unfold uS jc;rw[ER];exact U
structure Md (l:List AO):Prop where
 ev:∀e∈l,Y8 e/\EU e
 room:∀x∈l,∀y∈l,x.Room=y.Room
 inc:Inc (l.map (·.Id))
def anD {f:Nat->Int}:∀(n i j:Nat),(∀k,i<=k->k<j->f k<f (k+1))->i+n=j->0<n->f i<f j:=by
 intro n
 induction n with
 |zero=>intro i j _ _ h;omega
 |succ n z=>
  intro i j h q _;rcases V4 n with u|u
  ·subst u;rw[←q];exact h i (EW _) AB
  have a:=h i (EW _) AB;have b:=z (i+1) j (fun k J I=>h k AB I) AB u;omega
def aiB {l:A8 AO} (hw:∀e∈l,Wj e) (hl:l.length<=1000) (h:NM l=some 0):Md l:=by
 unfold NM at h;rw[GK (show ¬(l.length:Int)>2000 by omega),BH]at h;unfold aJZ at h
 obtain⟨p1,k1,h⟩:=lasts l.length AB (fun i=>∀x,l[i]? =some x->Y8 x/\EU x) (fun k i hi u=>by
  unfold uS at u;obtain⟨c,c1,_,c3⟩:=wX (hw _ (E5 hi));rw[DV hi,c1,Ad,wrap_succ i AB]at u;obtain⟨e,u⟩:=RV u
  exact⟨fun x I=>by rw[E9 hi]at I;obtain rfl:=Ch I;exact c3 e,u⟩) 0 (Ec _) h
 unfold uS at h;rw[ER,BH]at h;unfold mD at h
 obtain⟨p2,k2,h⟩:=lasts l.length AB (fun i=>∀x y,l[i]? =some x->l[0]? =some y->x.Room=y.Room) (fun k i hi u=>by
  unfold YM at u;have g0:BF l 0=some l[0]:=Dn (i:=0) AB;rw[DV hi,g0,Ad,wrap_succ i AB]at u;obtain⟨e,u⟩:=JO u Bf;refine⟨fun x y I J=>?_,u⟩;rw[E9 hi]at I;rw[E9 AB]at J;obtain rfl:=Ch I;obtain rfl:=Ch J
  exact toList_inj Sz) 0 (Ec _) h
 unfold YM at h;rw[ER,BH]at h;refine⟨jk p1,fun x I y J=>?_,?_⟩
 ·have key:∀x∈l,∀y,l[0]? =some y->x.Room=y.Room:=jk fun i hi M x I y J=>p2 i hi M x y I J;have h0:0<l.length:=aDJ I;have Y:l[0]? =some l[0]:=E9 h0;rw[key x I _ Y,key y J _ Y]
 by_cases Z:l=[]
 ·subst Z;exact .nil
 have L:0<l.length:=gZ.2 Z;unfold aC6 at h
 obtain⟨p3,_⟩:=lasts l.length AB (fun i=>∀j x y,i=j+1->l[i]? =some x->l[j]? =some y->y.Id<x.Id) (fun k i hi u=>by
  unfold aBH at u;rw[DV hi]at u;obtain⟨z,hz,u⟩:=DT u;obtain⟨e,u⟩:=JO u Bf;rw[wrap_succ i AB]at u;refine⟨fun j x y O I J=>?_,u⟩;subst O;rw[aQU hi AB]at hz;rw[E9 hi]at I;rw[E9 AB]at J;obtain rfl:=Ch I;obtain rfl:=Ch J;obtain rfl:=Ch hz
  have :=JV e;omega) 1 L h
 rw[Inc,aDj,KI];intro i j hi O hij
 have :=anD (f:=fun q=>(l.getD q FT).Id) (j-i) i j (fun k h1 h2=>by
  have U:k+1<l.length:=AB
  have :=p3 (k+1) AB U k l[k+1] l[k] rfl (E9 U) (E9 AB)
  simpa[List.getD,E9 U,E9 (show k<l.length by omega)]using this) AB AB
 simpa[List.getD,E9 hi,E9 O]using this
def Md.ok {l:A8 AO} (h:Md l) (hl:l.length<=100):Jp l:=⟨hl,fun e j=>(h.ev e j).2,UC h.inc,fun e j=>(h.ev e j).1.depth⟩
def aoZ {l:A8 AO} (j:∀e∈l,Wj e) (hl:l.length<=100):∃c,NM l=some c/\Pz l=some c/\(c=0->Md l):=by
 obtain⟨c,q,u⟩:=ajW j AB;exact⟨c,q,u,fun h=>aiB j AB (by rw[q,h])⟩
def ajV (e:AO):FD e (TU e):=by
 refine⟨rfl,rfl,rfl,rfl,rfl,rfl,rfl,rfl,rfl,fun h=>?_,fun h=>?_⟩
 ·show(Pq e.Kind e.Content).N=_;rcases h with h|h<;>rw[h]<;>rfl
 show(Pq e.Kind e.Content).Levels=_;rw[h];rfl
def aLh {e:AO} (h:EU e):EU (TU e):=by
 have j:=h.content.strip e.Kind;exact⟨h.prev,h.auth,j.allow,j.deny,j.users,j.kinds,h.room,h.sender,h.key,j.text,j.via,h.server,j.allows,j.denies,j.names⟩
def l7 {l:A8 AO} (q:Pz l=some 0) (hl:l.length<=100):∀x∈l,JG x=some 0:=by
 unfold Pz at q;obtain⟨_,h⟩:=JO q Bf;unfold aCs at h
 obtain⟨z,_⟩:=lasts l.length AB (fun i=>∀x,l[i]? =some x->JG x=some 0) (fun k i hi j=>by
  unfold jc at j;rw[DV hi]at j;obtain⟨y,I,j⟩:=DT j;obtain⟨e,j⟩:=RV j;subst e;rw[wrap_succ i AB]at j
  exact⟨fun x u=>by rw[E9 hi]at u;obtain rfl:=Ch u;exact I,j⟩) 0 (Ec _) h
 exact jk z
structure aNQ (l k:List AO):Prop where
 ref:Pz k=some 0
 prog:NM k=some 0
 facts:Md k
 deep:Gw k=0
 ids:k.map (·.Id)=l.map (·.Id)
 agr:GL l k (l.map (·.Id))
def amg {l k:A8 AO} (h:aNQ l k) (M:Md l) (hl:l.length<=100) (u:k.length<=100) (hd:Gw l=0):(∀x,Ew (Cx k) x=Ew (Cx l) x)/\QC k (Cx k)=QC l (Cx l)/\GZ k (Cx k)=GZ l (Cx l):=by
 have I:=M.ok hl;have q:=h.facts.ok u;have O:=aAu h.agr I hd q h.deep
 have J:∀x,Ew (Cx k) x=Ew (Cx l) x:=fun x=>by
  by_cases j:x∈l.map (·.Id)
  ·exact(O x j).1
  have z:∀{m:A8 AO},x∉m.map (·.Id)->Ew (Cx m) x=none:=fun{m} hm=>by
   rw[jY,aFK];exact fun U=>hm (Fe.1 (Zv.1 U))
  rw[z j,z (by rw[h.ids];exact j)]
 have L:GZ k (Cx k)=GZ l (Cx l):=by
  rw[dQ,dQ,h.ids];exact Ud fun x _=>by unfold HY;rw[J]
 exact⟨J,aLk h.agr I hd q h.deep (fun x j=>by rw[dQ]at j;exact(Fa.1 j).1) L,L⟩
def aEQ (t:A8 FI) (x:Int):A8 Az×Int:=match Ew t x with
 |some y=>(y.before,bif y.err != 0 then 2 else 4)
 |none=>([],0)
def TJ (l:A8 AO) (t:A8 FI):A8 Int:=l.filterMap fun e=>(Ew t e.Id).map fun y=>bif y.err != 0 then 2 else 4
section
variable {l:A8 AO} {c:Int}
def alW (u:NM l=some c) (h:c=0->Jp l) (id:Int):gJ l id=some (aEQ (Tv l c) id):=by
 unfold gJ;refine dU.eq ((run_eq l u h).bind fun o z=>?_);rcases z with⟨j,rfl⟩|⟨j,_,T,rfl,q⟩
 ·rw[j];exact .ret rfl
 rw[j];simp only[ah];unfold aK7 uQ aEQ;rw[q.r,q.b];cases Ew (Cx l) id with
 |none=>exact .ret rfl
 |some y=>
  show dU ((bif y.err != 0 then some 2 else some 4).bind fun I=>some (y.before,I)) (fun r=>r=(y.before,bif y.err != 0 then 2 else 4));cases y.err != 0<;>exact .ret rfl
def agc (u:NM l=some c) (h:c=0->Jp l):aAa l=some (GZ l (Tv l c)):=by
 unfold aAa;refine dU.eq ((run_eq l u h).bind fun o j=>?_);rcases j with⟨q,rfl⟩|⟨q,j,T,rfl,z⟩
 ·rw[q,aSG];exact .ret rfl
 rw[q];show dU ((aj T.1 T.2.1 T.2.2 l).bind _) _;rw[aQk z j.len];exact .ret rfl
def amF (t:A8 FI) {i:Nat} (h:i<l.length):TJ (l.take (i+1)) t=TJ (l.take i) t++((Ew t l[i].Id).map fun y=>bif y.err != 0 then 2 else 4).toList:=by
 unfold TJ;rw[Td h,ZO];congr 1
def anV (l:A8 AO) (t:A8 FI):(TJ l t).length<=l.length:=List.length_filterMap_le ..
def aiz (z:NM l=some c) (h:c=0->Jp l):aDw l=some (TJ l (Tv l c)):=by
 unfold aDw;refine dU.eq ((run_eq l z h).bind fun o j=>?_);rcases j with⟨q,rfl⟩|⟨q,j,T,rfl,I⟩
 ·rw[q];exact .ret (show[]=TJ l []from(List.filterMap_eq_nil_iff.2 fun _ _=>rfl).symm)
 rw[q];have hl:=j.len;show dU (aFT l [] 0 T.1 T.2.1 T.2.2) _;unfold aFT;refine xP (body:=aIb l) (Q:=(· =TJ l (Cx l))) (fun n a b c d e=>∃i:Nat,b=i/\i+n=l.length/\a=TJ (l.take i) (Cx l)/\c=T.1/\d=T.2.1/\e=T.2.2) ?_ Aw l.length [] 0 _ _ _ (fuel_lt AB) ⟨0,rfl,AB,rfl,rfl,rfl,rfl⟩;rintro n a b c d e k ⟨i,rfl,O,ha,rfl,rfl,rfl⟩ J;unfold aIb;by_cases hi:i<l.length
 ·have L:a.length<=i:=by rw[ha];exact EY (anV _ _) xu
  obtain⟨y,u⟩:=aCB (Fe.2 (Ea.2 ⟨_,E5 hi,rfl⟩));unfold uQ;rw[DV hi,I.err];have M:errOf (Cx l) l[i].Id=y.err:=by unfold errOf;rw[u];rfl
  rw[M,show(bif y.err != 0 then some 2 else some 4)=some (bif y.err != 0 then(2:Int)else 4) by cases y.err != 0<;>rfl,Ad,Ep Ic,Ad,wrap_succ i AB];exact J (n-1) _ _ _ _ _ AB ⟨i+1,rfl,AB,by rw[amF _ hi,u,ha];rfl,rfl,rfl,rfl⟩
 have :i=l.length:=AB
 subst this;rw[En];exact .ret (by rw[ha,J7])
end
def dX {l:A8 AO} (hd:Gw l=0):Tv l 0=Cx l:=by unfold Tv;rw[hd];rfl
section
variable {b:A8 Int} {k:Nat}
def kN (h:b.length<=k) (j:k<=1000000000) (n:Int):dU (Jc b n) (fun r=>r.length<=k+10):=by
 have :=OT n;rw[kZ AB];exact .ret LQ
def aOg (h:b.length<=k) (j:k<=1000000000) {s:BI} (m:Nat) (hs:s.size<=m) (hm:m<=1000000000):dU (P6 b s) (fun r=>r.length<=k+m+10):=by
 have :=dA s;rw[aQe AB];exact .ret LQ
end
def akB (b:A8 Int) (h:b.length<=100000000):dU (XQ b) (fun _=>True):=by
 unfold XQ xk;rw[Ad];refine dU.bind (P:=fun _=>True) ?_ fun _ _=>.ret trivial;unfold aD5 aGG;refine MJ b.length (fuel_lt AB) (fun _ _=>True) trivial (fun i a k hi _ j=>?_) fun a k _=>?_
 ·unfold rU;rw[DV hi,wrap_succ i AB];exact j _ trivial
 unfold rU;rw[En];exact .ret trivial
def Ot (l:A8 AO) (e:AO):Nat:=l.findIdx fun x=> !decide (x.Id<e.Id)
def D9 (l:A8 AO) (e:AO):A8 AO:=l.take (Ot l e)++e::l.drop (Ot l e)
def fU (e x:AO):AQ:= !(x.Room.toList==e.Room.toList)
def aiN (l:A8 AO) (e:AO):Ot l e<=l.length:=aDv
def QG (l:A8 AO) (e:AO):(D9 l e).length=l.length+1:=by
 have :=aiN l e;unfold D9;rw[EP,GI,IB,Ji];omega
def Jd {l:A8 AO} {e x:AO}:x∈D9 l e↔x=e\/x∈l:=by
 unfold D9;rw[Gx,EZ];constructor
 ·rintro(h|h|h)
  ·exact .inr (kQ h)
  ·exact .inl h
  exact .inr (aAP h)
 rintro(h|h)
 ·exact .inr (.inl h)
 rw[←Y5 (Ot l e) l]at h;rcases Gx.1 h with h|h
 ·exact .inl h
 exact .inr (.inr h)
section
variable {l:A8 AO} {e:AO} (hl:l.length <= 1000)
include hl
theorem aLl :Ub l e=bif l.any (fU e)then some ([],13)else(bif bK l e.Id then(TD e).bind fun q=>(bif q then(BF l ((l.findIdx fun x=>x.Id==e.Id:Nat):Int)).bind fun I=>(TD I).bind fun J=>some (!J)else some false).bind fun j=>some ((bif j then l.set (l.findIdx fun x=>x.Id==e.Id) e else l),0)else some (D9 l e,0)):=by
 have u:oL l=some l:=by
  unfold oL;rw[Ep V9];rfl
 have z:jG l e.Id=some (if l.findIdx (fun x=>x.Id==e.Id)<l.length then((l.findIdx (fun x=>x.Id==e.Id):Nat):Int)else -1):=by
  unfold jG wW;rw[aBS l AB _ (fun x=>x.Id==e.Id) fun _=>rfl];rfl
 have L:aJO l l e 0=some (D9 l e,0):=by
  have U:∀i:Nat,i<=l.length->(aEq l (i:Int) [e]).bind (fun O=>some (O,(0:Int)))=some (l.take i++e::l.drop i,0):=fun i hi=>by
   have Y:xH l (i:Int) [e]=some (l.take i++e::l.drop i):=by
    show(if(0<=(i:Int)/\(i:Int)<=(l.length:Int))/\l.length<=34359738368 then some (l.take (i:Int).toNat++e::l.drop (i:Int).toNat)else none)=_;rw[D8 ⟨⟨AB,AB⟩,AB⟩,fJ]
   unfold aEq;rw[Y];rfl
  unfold aJO;rw[SG l (fuel_lt AB) (fun x=> !decide (x.Id<e.Id)) (fun i=>some (l.take i++e::l.drop i,(0:Int))) (some (l.take l.length++e::l.drop l.length,0))]
  ·unfold D9 Ot;split
   ·rfl
   rename_i Z;have :=aDv (xs:=l) (p:=fun x=> !decide (x.Id<e.Id));rw[show l.findIdx (fun x=> !decide (x.Id<e.Id))=l.length by omega]
  ·intro k i h;unfold aIh vG;rw[DV h,U i AB];cases decide (l[i].Id<e.Id)<;>rfl
  intro k;unfold aIh vG;rw[ER,BH,BH,U l.length (EW _)]
 unfold Ub aLd;rw[Jo l (fuel_lt AB) (fU e) ([],13) (bif bK l e.Id then(TD e).bind fun q=>(bif q then(BF l ((l.findIdx fun x=>x.Id==e.Id:Nat):Int)).bind fun I=>(TD I).bind fun J=>some (!J)else some false).bind fun j=>some ((bif j then l.set (l.findIdx fun x=>x.Id==e.Id) e else l),0)else some (D9 l e,0))]
 ·intro k i h;unfold aFD;rw[DV h];rfl
 intro k;unfold aFD;rw[ER,BH,z,Ad,u,Ad,L]
 have M:bK l e.Id=decide (l.findIdx (fun x=>x.Id==e.Id)<l.length):=by
  unfold bK ET;rw[Nh,List.find?_isSome,Ht,Z5]
 rw[M];by_cases h:l.findIdx (fun x=>x.Id==e.Id)<l.length
 ·rw[D8 h,I4 h,GK (show ¬(((l.findIdx (fun x=>x.Id==e.Id):Nat):Int)<0) by omega),I4 (show((l.findIdx (fun x=>x.Id==e.Id):Nat):Int)>=0 by omega)];simp only[BH,Bq,Ad];unfold zV;congr 1;funext q;congr 1;funext j;cases j with
  |true=>rw[Bq,Dn h,fJ];rfl
  |false=>rfl
 rw[DU h,GK h,I4 (show(-1:Int)<0 by omega),GK (show ¬((-1:Int)>=0) by omega),GK (show ¬((l.length:Int)>=2000) by omega)];rfl
end
def aMc {α:Type} {p:α->α->AQ} (hp:∀x y,p x y=true->x=y) {a b:A8 α} (h:N8 p a b=true):a=b:=by
 unfold N8 at h;rw[D5]at h;have hlen:a.length=b.length:=by have :=eq_of_beq h.1;omega
 have j:((a.zip b).any fun x=> !p x.1 x.2)=false:=by simpa using h.2
 refine Vk hlen fun i u z=>?_
 have :=zC.1 j (a[i],b[i]) (by
  have q:i<(a.zip b).length:=Et
  have :=E5 q
  rwa [aK6]at this)
 exact hp _ _ aJ9
def amr {a b:DX} (h:dK a b=true):a=b:=by
 unfold dK nM at h;simp only[D5,OQ]at h;obtain⟨j,q,⟨⟨⟨⟨⟨⟨u,z⟩,I⟩,J⟩,L⟩,M⟩,O⟩⟩:=h
 have U:=aMc (p:=U5) (fun x y h=>by
  unfold U5 at h;rw[D5]at h;cases x;cases y;simp only at h
  rw[toList_inj (eq_of_beq h.1),eq_of_beq h.2]) j
 have Y:=aMc (p:=Ri) (fun x y h=>by
  unfold Ri at h;rw[D5]at h;cases x;cases y;simp only at h
  rw[eq_of_beq h.1,eq_of_beq h.2]) q
 cases a;cases b;simp only at *;subst U Y u z I J L M O;rfl
def amn {a b:AO} (ha:PU (TU a).Content) (hp:a.bV.length<=1000) (O:a.bZ.length<=1000):∃r,Zd (TU a) (TU b)=some r/\(r=true->a.Id=b.Id/\FD a b):=by
 unfold Zd;rw[aEo _ _ (show(TU a).bV.length<=_ from EY hp AB),aEo _ _ (show(TU a).bZ.length<=_ from EY O AB),aJH _ ha];simp only[KA,Ad,Ut];refine⟨_,rfl,fun h=>?_⟩;simp only[D5,OQ]at h;obtain⟨⟨⟨⟨⟨⟨⟨⟨⟨⟨⟨⟨⟨M,U⟩,Y⟩,z⟩,h5⟩,Z⟩,h7⟩,h8⟩,J⟩,j⟩,q⟩,h12⟩,h13⟩,h14⟩:=h;have z:a.Kind=b.Kind:=z;have J:a.bV=b.bV:=by unfold kE at J;exact QV J
 have j:a.bZ=b.bZ:=by unfold kE at j;exact QV j
 unfold wG at q;simp only[D5,OQ]at q;have L:(Pq a.Kind a.Content).N=(Pq b.Kind b.Content).N:=q.1.1.1.1.1.1.2;have I:(Pq a.Kind a.Content).Levels=(Pq b.Kind b.Content).Levels:=amr q.2;refine⟨M,M.symm,toList_inj U.symm,toList_inj Y.symm,z.symm,toList_inj Z.symm,h7.symm,h8.symm,J.symm,j.symm,fun u=>?_,fun u=>?_⟩
 ·rw[←z]at L;rcases u with u|u<;>rw[u]at L<;>exact L.symm
 rw[←z,u]at I;exact I.symm
def aNm {l k:A8 AO} (u:(l.map (·.Id)).Nodup) (L:(k.map (·.Id)).Nodup) (hd:Gw l=0) (hs:∀e∈l,∃f∈k,f.Id=e.Id/\FD e f):GL l k (l.map (·.Id)):=by
 have q:∀x∈l.map (·.Id),ev l x∈l:=fun x j=>Jh (Ik (Fe.2 j)).1;refine⟨u,fun x j=>?_,fun x j a ha=>Fe.1 ((ZM hd (q x j)).2 a ha).1,fun x j a ha=>Fe.1 ((ZM hd (q x j)).1 a ha).1⟩;obtain⟨e,z,rfl⟩:=Ea.1 j;obtain⟨f,I,J,M⟩:=hs e z;have O:ev l e.Id=e:=aH u z;have U:ev k e.Id=f:=by rw[←J];exact aH L I
 rw[O,U];exact⟨Fe.2 j,Fe.2 (Ea.2 ⟨f,I,J⟩),M⟩
def aPN (x:AO):XO x=some (TU x):=by unfold XO;rw[aKk];rfl
end
section
set_option maxHeartbeats 1000000
def ahl (s:A8 Az) (k:Az):Option Int:=(s.find? fun x=>JC x k).map (·.Id)
def aNw (e:AO) (s:A8 Az):A8 Int:=Fq ((keysOf e).filterMap (ahl s))
end
section
set_option maxHeartbeats 1000000
section
variable {l m:A8 AO} {s:A8 Az} {e:AO} (hp:JH l s) (hA:e.bZ = aNw e s) (hm:∀ a ∈ e.bZ, ET m a = ET l a)
include hp hA hm
end
def aGK {R:Type} {body:(Int->AL R)->Int->AL R} (s n:Nat) (I:n<=1000) (hs:s<=n) (rest:AL R) (j:∀k (i:Nat),s<=i->i<n->body k (i:Int)=k ((i+1:Nat):Int)) (q:∀k,body k (n:Int)=rest):bI body Aw (s:Int)=rest:=by
 have key:∀d (i:Nat),i+d=n->s<=i->∀m,d<m->bI body m (i:Int)=rest:=by
  intro d
  induction d with
  |zero=>
   intro i hi _ m hm;obtain⟨m,rfl⟩:∃k,m=k+1:=⟨m-1,AB⟩
   rw[show i=n by omega];exact q _
  |succ d u=>
   intro i hi z m hm;obtain⟨m,rfl⟩:∃k,m=k+1:=⟨m-1,AB⟩
   exact(j (bI body m) i z AB).trans (u (i+1) AB AB m AB)
 exact key (n-s) s AB (EW _) Aw (fuel_lt AB)
def aQH {k:A8 AO} (I:∀x∈k,JG x=some 0) (J:∀x∈k,∀y∈k,x.Room=y.Room) (hi:Inc (k.map (·.Id))) (hl:k.length<=100) (q:0<k.length):Pz k=some 0:=by
 unfold Pz;rw[GK (show ¬(k.length:Int)>2000 by omega),BH];unfold aCs;refine aGK 0 k.length AB AB _ (fun f i _ h=>?_) fun f=>?_
 ·unfold jc;rw[DV h,I _ (E5 h),Ad,YZ,BH,wrap_succ i AB]
 unfold jc;rw[ER,BH];unfold zJ;refine aGK 1 k.length AB AB _ (fun f i _ h=>?_) fun f=>?_
 ·have z:BF k 0=some k[0]:=Dn q;unfold wL;rw[DV h,z,Ad,J _ (E5 h) _ (E5 q),wrap_succ i AB];simp
 unfold wL;rw[ER,BH];unfold Sub;refine aGK 1 k.length AB AB _ (fun f i O h=>?_) fun f=>?_
 ·obtain⟨j,rfl⟩:∃j,i=j+1:=⟨i-1,AB⟩
  have L:BA (((j+1:Nat):Int)-1)=(j:Int):=by rw[show((j+1:Nat):Int)-1=(j:Int) by omega];exact Ld AB AB
  have u:j<k.length:=AB
  have M:k[j].Id<k[j+1].Id:=by
   have :=KI.1 hi j (j+1) (by rw[Cm];exact u) (by rw[Cm];exact h) AB
   rwa [Nl,Nl]at this
  unfold tN;rw[dec_lt h,Bq,L,Dn u,Dn h];simp only[Ad];rw[GK (show ¬(k[j].Id>=k[j+1].Id) by omega),BH,wrap_succ (j+1) AB]
 unfold tN;rw[ER,BH]
def aJA {k:A8 AO} (q:∀e∈k,EU e) (hl:k.length<=100) (h:Pz k=some 0):NM k=some 0:=by
 obtain⟨c,u,j,_⟩:=aoZ (fun e z=>(q e z).wide) hl;rw[h]at j;rw[u,←Ch j]
def aMx {l:A8 AO} (u:(l.map (·.Id)).Nodup) {x:Int} {y:AO}:ET l x=some y↔y∈l/\y.Id=x:=by
 refine⟨fun h=>⟨Jh h,zy h⟩,fun⟨j,z⟩=>?_⟩;have q:=(Ik (Fe.2 (Ea.2 ⟨y,j,rfl⟩))).1;rw[aH u j,z]at q;exact q
def aJY {l:A8 AO} {e:AO} (hi:Inc (l.map (·.Id))) (U:e.Id∉l.map (·.Id)):Inc ((D9 l e).map (·.Id)):=by
 have hp:l.Pairwise fun a b=>a.Id<b.Id:=aDj.1 hi;have I:∀x∈l,x.Id≠e.Id:=fun x q h=>U (Ea.2 ⟨x,q,h⟩)
 have L:∀x∈l.take (Ot l e),x.Id<e.Id:=fun x q=>by
  obtain⟨j,z,rfl⟩:=Gf q;rw[IB]at z;rw[aDU];have :=List.not_of_lt_findIdx (p:=fun x:AO=> !decide (x.Id<e.Id)) (xs:=l) (i:=j) (by unfold Ot at z;omega);simpa using this
 have M:∀x∈l.drop (Ot l e),e.Id<x.Id:=fun x q=>by
  obtain⟨j,z,rfl⟩:=Gf q;rw[Ji]at z;rw[List.getElem_drop];have u:Ot l e<l.length:=AB
  have Z:¬(l[Ot l e].Id<e.Id):=by
   show ¬(l[l.findIdx fun x=> !decide (x.Id<e.Id)].Id<e.Id);have :=aHJ (p:=fun x:AO=> !decide (x.Id<e.Id)) (xs:=l) (w:=u);simpa using this
  have Y:l[Ot l e].Id<=l[Ot l e+j].Id:=by
   rcases V4 j with rfl|O
   ·exact vK _
   exact Int.le_of_lt (KI.1 hp _ _ u AB AB)
  have :=I _ (E5 (show Ot l e+j<l.length by omega));omega
 unfold Inc;rw[aDj];unfold D9;rw[Zl,QN];refine⟨hp.sublist (List.take_sublist ..),⟨M,hp.sublist (List.drop_sublist ..)⟩,fun a ha b J=>?_⟩;rcases EZ.1 J with rfl|J
 ·exact L a ha
 exact Int.lt_trans (L a ha) (M b J)
structure ZL (l:List AO) (e:AO):Prop where
 facts:Md l
 len:l.length<=50
 deep:Gw l=0
 ver:∀x∈l,JG x=some 0
 fresh:bK l e.Id=false
 good:JG e=some 0
 small:EU e
 room:∀x∈l,x.Room=e.Room
 prev:e.bV=KL l (GZ l (Cx l))
 some_:GZ l (Cx l)≠[]
 low:∀x∈e.bV,(ev l x).Depth<e.Depth
 next:∃x∈e.bV,(ev l x).Depth=e.Depth-1
 auth:e.bZ=aNw e (QC l (Cx l))
section
variable {l:A8 AO} {e:AO} (h:ZL l e)
include h
theorem ZL.ok:Jp l:=h.facts.ok aFJ
theorem ZL.awI:Y8 e:=by
 obtain⟨c,u,j,q⟩:=wX h.small.wide;rw[h.good]at j;exact(q (Ch j).symm).1
theorem ZL.asy:e.Id∉l.map (·.Id):=fun hm=>aQw
theorem ZL.abx:Md (D9 l e):=by
 refine⟨fun x j=>?_,fun x j y J=>?_,aJY h.facts.inc h.asy⟩
 ·rcases Jd.1 j with rfl|j
  ·exact⟨h.awI,h.small⟩
  exact h.facts.ev x j
 rcases Jd.1 j with z|q<;>rcases Jd.1 J with I|u
 ·rw[z,I]
 ·rw[z];exact(h.room y u).symm
 ·rw[I];exact h.room x q
 exact h.facts.room x q y u
theorem ZL.len':(D9 l e).length<=51:=by have :=h.len;rw[QG];omega
theorem ZL.ok':Jp (D9 l e):=h.abx.ok Fin
end
end
section
set_option maxHeartbeats 1000000
structure Iw (l:List AO) (e:AO):Prop where
 facts:Md l
 len:l.length<=50
 deep:Gw l=0
 ver:∀x∈l,JG x=some 0
 fresh:bK l e.Id=false
 good:JG e=some 0
 small:EU e
 room:∀x∈l,x.Room=e.Room
def aCt {e:AO} (hs:EU e) (h:JG e=some 0):Y8 e:=by
 obtain⟨c,u,j,q⟩:=wX hs.wide;rw[h]at j;exact(q (Ch j).symm).1
section
variable {l:A8 AO} {e:AO} (h:Iw l e)
include h
theorem Iw.ok:Jp l:=h.facts.ok aFJ
theorem Iw.awI:Y8 e:=aCt h.small h.good
theorem Iw.asy:e.Id∉l.map (·.Id):=fun hm=>aQw
theorem Iw.abx:Md (D9 l e):=by
 refine⟨fun x j=>?_,fun x j y J=>?_,aJY h.facts.inc h.asy⟩
 ·rcases Jd.1 j with rfl|j
  ·exact⟨h.awI,h.small⟩
  exact h.facts.ev x j
 rcases Jd.1 j with z|q<;>rcases Jd.1 J with I|u
 ·rw[z,I]
 ·rw[z];exact(h.room y u).symm
 ·rw[I];exact h.room x q
 exact h.facts.room x q y u
theorem Iw.len':(D9 l e).length<=51:=by have :=h.len;rw[QG];omega
theorem Iw.ok':Jp (D9 l e):=h.abx.ok Fin
theorem Iw.aBF:∀x∈D9 l e,JG x=some 0:=fun x j=>by
 rcases Jd.1 j with rfl|j
 ·exact h.good
 exact h.ver x j
theorem Iw.ref':Pz (D9 l e)=some 0:=aQH h.aBF h.abx.room h.abx.inc Fin (by rw[QG];omega)
theorem Iw.prog':NM (D9 l e)=some 0:=aJA h.ok'.small Fin h.ref'
theorem Iw.get {x:Int} (q:bK l x=true):ET (D9 l e) x=ET l x:=by
 have j:=(Ik q).1;rw[j];exact(aMx h.ok'.nodup).2 ⟨Jd.2 (.inr (Jh j)),zy j⟩
theorem Iw.ahz {x:Int} (j:bK l x=true):bK (D9 l e) x=true:=by unfold bK;rw[h.get j];exact j
theorem Iw.ev' {x:Int} (j:bK l x=true):ev (D9 l e) x=ev l x:=by unfold ev Jm;rw[h.get j]
theorem Iw.self:ET (D9 l e) e.Id=some e:=(aMx h.ok'.nodup).2 ⟨Jd.2 (.inl rfl),rfl⟩
theorem Iw.azQ:ev (D9 l e) e.Id=e:=aH h.ok'.nodup (Jd.2 (.inl rfl))
theorem Iw.afo:bK (D9 l e) e.Id=true:=by unfold bK;rw[h.self];rfl
theorem Iw.ayD {x:Int}:bK (D9 l e) x=true↔x=e.Id\/bK l x=true:=by
 constructor
 ·intro j;obtain⟨y,q,rfl⟩:=Ea.1 (Fe.1 j);rcases Jd.1 q with rfl|q
  ·exact .inl rfl
  exact .inr (Fe.2 (Ea.2 ⟨y,q,rfl⟩))
 rintro(rfl|j)
 ·exact h.afo
 exact h.ahz j
variable (hd:Gw (D9 l e) = 0)
include hd
theorem Iw.agr:GL l (D9 l e) (l.map (·.Id)):=aNm h.ok.nodup h.ok'.nodup h.deep fun x j=>⟨x,Jd.2 (.inr j),rfl,.refl x⟩
theorem Iw.lines {x:Int} (j:bK l x=true):Ew (Cx (D9 l e)) x=Ew (Cx l) x:=(aAu (h.agr hd) h.ok h.deep h.ok' hd x (Fe.1 j)).1
theorem Iw.axe {x:Int} (j:bK l x=true):HY (Cx (D9 l e)) x=HY (Cx l) x:=by unfold HY;rw[h.lines hd j]
omit hd
end
def MO (l:A8 AO) (e:AO):AQ:=e.Kind==1&&HY (Cx l) e.Id
def J3 (l:A8 AO):Nat:=(l.filter (MO l)).length
def acB (l:A8 AO) (e:AO) (p:AO->AQ):((D9 l e).filter p).length=(l.filter p).length+(bif p e then 1 else 0):=by
 have j:(l.filter p).length=((l.take (Ot l e)).filter p).length+((l.drop (Ot l e)).filter p).length:=by
  rw[←EP,←TR,Y5]
 unfold D9;rw[TR,Vj,EP,j];cases p e with
 |true=>rw[D8 rfl,GI,Bq];omega
 |false=>rw[DU Bool.false_ne_true,BH];omega
def Iw.made {l:A8 AO} {e:AO} (h:Iw l e) (hd:Gw (D9 l e)=0):J3 (D9 l e)=J3 l+(bif MO (D9 l e) e then 1 else 0):=by
 unfold J3;rw[acB];congr 2;refine Ud fun x j=>?_;unfold MO;rw[h.axe hd (Fe.2 (Ea.2 ⟨x,j,rfl⟩))]
structure IY (r:CJ):Prop where
 id:MC r.Id=0
 set:Pz r.Events=some 0
 facts:Md r.Events
 own:∀x∈r.Events,x.Room=r.Id
 deep:Gw r.Events=0
 KJ:r.Rows.length=r.Events.length
 next:r.Next=(r.Rows.length:Int)
 one:J3 r.Events<=1
 pos:∀i (h:i<r.Rows.length),r.Rows[i].Pos=(i:Int)
 nodup:(r.Rows.map (·.Id)).Nodup
 known:∀x∈r.Rows,bK r.Events x.Id=true
 refs:∀i (h:i<r.Rows.length),∀z,z∈(ev r.Events r.Rows[i].Id).bV\/z∈(ev r.Events r.Rows[i].Id).bZ->∃j,∃hj:j<r.Rows.length,j<i/\r.Rows[j].Id=z
 stat:∀x∈r.Rows,(x.Status=2↔HY (Cx r.Events) x.Id=false)/\(x.Status=2\/x.Status=3\/x.Status=4)
 aan:Pz r.Waiting=some 0
 vZ:Md r.Waiting
 UM:∀x∈r.Waiting,x.Room=r.Id
 UN:∀x∈r.Waiting,bK r.Events x.Id=false
 ahA:r.Waiting.length<=200
 heads:r.ab2=KL r.Events (GZ r.Events (Cx r.Events))
 state:r.State=QC r.Events (Cx r.Events)
def TB (r:CJ):Prop:=∀x∈r.Waiting,G5 r.Events x=false
def RH (r:CJ) (e:AO):Int:=bif HY (Cx (D9 r.Events e)) e.Id then(bif MF e (ND r.Events r.State)==0 then 4 else 3)else 2
def Nk (r:CJ) (e:AO):Ey:={ OA with Pos:=r.Next,Id:=e.Id,Status:=RH r e }
def TI (r:CJ) (e:AO):CJ:=
 { r with Rows:=r.Rows++[Nk r e],Next:=r.Next+1,Events:=D9 r.Events e,ab2:=KL (D9 r.Events e) (GZ (D9 r.Events e) (Cx (D9 r.Events e))),State:=QC (D9 r.Events e) (Cx (D9 r.Events e)) }
def H7 (r:CJ) (e:AO):CJ×Int:=
 bif Gw (D9 r.Events e) != 0 then(r,15)else bif decide (0<J3 r.Events)&&MO (D9 r.Events e) e then(r,17)else(TI r e,0)
def IY.ver {r:CJ} (h:IY r) (hl:r.Events.length<=50):∀x∈r.Events,JG x=some 0:=l7 h.set AB
def IY.awJ {r:CJ} (h:IY r) (hl:r.Events.length<=50) {e:AO} (j:JG e=some 0) (hs:EU e) (q:e.Room=r.Id) (u:bK r.Events e.Id=false):Iw r.Events e:=
 ⟨h.facts,hl,h.deep,h.ver hl,u,j,hs,fun x z=>by rw[h.own x z,q]⟩
def Ze {l:A8 AO} {e:AO} (h:G5 l e=true) {z:Int} (j:z∈e.bV\/z∈e.bZ):bK l z=true:=by
 unfold G5 at h;rw[D5,Dw,Dw]at h;rcases j with j|j
 ·exact h.1 z j
 exact h.2 z j
def IY.rowOf {r:CJ} (h:IY r) {z:Int} (L:bK r.Events z=true):∃j,∃J:j<r.Rows.length,r.Rows[j].Id=z:=by
 have U:=UC h.facts.inc
 have M:∀x∈r.Rows.map (·.Id),x∈r.Events.map (·.Id):=fun x q=>by
  obtain⟨y,I,rfl⟩:=Ea.1 q;exact Fe.1 (h.known y I)
 have u:z∈r.Rows.map (·.Id):=by
  refine X8 fun O=>?_
  have :=kS (a:=z::r.Rows.map (·.Id)) (b:=r.Events.map (·.Id)) (Iq.2 ⟨O,h.nodup⟩) fun x q=>by
   rcases EZ.1 q with rfl|q
   ·exact Fe.1 L
   exact M x q
  rw[GI,Cm,Cm,h.KJ]at this;omega
 obtain⟨y,I,e⟩:=Ea.1 u;obtain⟨j,J,rfl⟩:=Gf I;exact⟨j,J,e⟩
def IY.more {r:CJ} (h:IY r) (hl:r.Events.length<=50) {e:AO} (hv:JG e=some 0) (hs:EU e) (hr:e.Room=r.Id) (hf:bK r.Events e.Id=false) (hw:∀x∈r.Waiting,x.Id≠e.Id) (hrd:G5 r.Events e=true)
 (hd:Gw (D9 r.Events e)=0) (hc:(decide (0<J3 r.Events)&&MO (D9 r.Events e) e)=false):IY (TI r e):=by
 have ha:=h.awJ hl hv hs hr hf;have Z:∀x∈r.Rows,x.Id≠e.Id:=fun x u I=>by have :=h.known x u;rw[I,hf]at this;cases this
 have hlt:∀i (hi:i<(r.Rows++[Nk r e]).length),(∃J:i<r.Rows.length,(r.Rows++[Nk r e])[i]=r.Rows[i])\/(i=r.Rows.length/\(r.Rows++[Nk r e])[i]=Nk r e):=fun i hi=>by
  by_cases I:i<r.Rows.length
  ·exact .inl ⟨I,aFv I⟩
  rw[EP,Om]at hi;have :i=r.Rows.length:=AB
  subst this;exact .inr ⟨rfl,BR⟩
 refine⟨h.id,ha.ref',ha.abx,fun x u=>?_,hd,?_,?_,?_,fun i hi=>?_,?_,fun x u=>?_,fun i hi z M=>?_,fun x u=>?_,h.aan,h.vZ,h.UM,fun x u=>?_,h.ahA,rfl,rfl⟩
 ·rcases Jd.1 u with rfl|u
  ·exact hr
  exact h.own x u
 ·show(r.Rows++[Nk r e]).length=(D9 r.Events e).length;rw[EP,Om,QG,h.KJ]
 ·show r.Next+1=((r.Rows++[Nk r e]).length:Int);rw[EP,Om,h.next];omega
 ·show J3 (D9 r.Events e)<=1;rw[ha.made hd];have :=h.one;cases I:MO (D9 r.Events e) e with
  |false=>rw[BH];omega
  |true=>
   rw[I,NV,WA]at hc;rw[Bq];omega
 ·rcases hlt i hi with⟨J,O⟩|⟨e0,O⟩
  ·show(r.Rows++[Nk r e])[i].Pos=_;rw[O];exact h.pos i J
  show(r.Rows++[Nk r e])[i].Pos=_;rw[O,e0];exact h.next
 ·show((r.Rows++[Nk r e]).map (·.Id)).Nodup;rw[LY,kD];refine⟨h.nodup,BR,fun x u y hy=>?_⟩;obtain⟨q,I,rfl⟩:=Ea.1 u;have hy:y=e.Id:=by simpa[Nk]using hy
  rw[hy];exact Z q I
 ·have u:x∈r.Rows++[Nk r e]:=u;rcases Gx.1 u with u|u
  ·exact ha.ahz (h.known x u)
  rw[Ih.1 u];exact ha.afo
 ·have M:z∈(ev (D9 r.Events e) (r.Rows++[Nk r e])[i].Id).bV\/z∈(ev (D9 r.Events e) (r.Rows++[Nk r e])[i].Id).bZ:=M
  have hgo:∀j,(U:j<r.Rows.length)->r.Rows[j].Id=z->j<i->∃j,∃U:j<(r.Rows++[Nk r e]).length,j<i/\(r.Rows++[Nk r e])[j].Id=z:=fun j U L Y=>
   ⟨j,LQ,Y,by rw[aFv U];exact L⟩
  rcases hlt i hi with⟨J,O⟩|⟨e0,O⟩
  ·rw[O,ha.ev' (h.known _ (E5 J))]at M;obtain⟨j,U,Y,L⟩:=h.refs i J z M;exact hgo j U L Y
  rw[O]at M;have M:z∈(ev (D9 r.Events e) e.Id).bV\/z∈(ev (D9 r.Events e) e.Id).bZ:=M;rw[ha.azQ]at M;obtain⟨j,U,L⟩:=h.rowOf (Ze hrd M);exact hgo j U L AB
 ·have u:x∈r.Rows++[Nk r e]:=u;show(x.Status=2↔HY (Cx (D9 r.Events e)) x.Id=false)/\_;rcases Gx.1 u with u|u
  ·rw[ha.axe hd (h.known x u)];exact h.stat x u
  rw[Ih.1 u];show(RH r e=2↔HY (Cx (D9 r.Events e)) e.Id=false)/\(RH r e=2\/RH r e=3\/RH r e=4);unfold RH;cases HY (Cx (D9 r.Events e)) e.Id with
  |false=>simp
  |true=>cases MF e (ND r.Events r.State)==0<;>simp
 cases I:bK (D9 r.Events e) x.Id with
 |false=>exact I
 |true=>
  rcases ha.ayD.1 I with I|I
  ·exact absurd I (hw x u)
  rw[h.UN x u]at I;cases I
def XK (b:AL AO) (e:AO):AQ:=match b with
 |none=>true
 |some x=>Qd e x
def Iu (l:A8 AO) (b:AL AO) (e:AO):AL AO:=bif G5 l e&&XK b e then some e else b
def XF (l w:A8 AO):AL AO:=w.foldl (Iu l) none
def aOw (l:A8 AO):∀(w:A8 AO) (b:AL AO) (e:AO),w.foldl (Iu l) b=some e->b=some e\/(e∈w/\G5 l e=true)
 | [],b,e,h=>.inl h
 |x::w,b,e,h=>by
  rw[Gj]at h;rcases aOw l w _ e h with h|⟨q,u⟩
  ·unfold Iu at h;cases j:(G5 l x&&XK b x)with
   |false=>rw[j]at h;exact .inl h
   |true=>
    rw[j]at h;rw[D5]at j;obtain rfl:x=e:=Ch h;exact .inr ⟨Fz ..,j.1⟩
  exact .inr ⟨Gp _ q,u⟩
def aKs {l w:A8 AO} {e:AO} (h:XF l w=some e):e∈w/\G5 l e=true:=by
 rcases aOw l w none e h with h|h
 ·cases h
 exact h
def aHI (l:A8 AO):∀(w:A8 AO) (b:AO),∃e,w.foldl (Iu l) (some b)=some e
 | [],b=>⟨b,rfl⟩
 |x::w,b=>by
  rw[Gj];unfold Iu;cases(G5 l x&&XK (some b) x)with
  |false=>exact aHI l w b
  |true=>exact aHI l w x
def aLO (l:A8 AO):∀{w:A8 AO},XF l w=none->∀x∈w,G5 l x=false
 | [],_,_,j=>absurd j Ez
 |y::w,h,x,j=>by
  have h:w.foldl (Iu l) (Iu l none y)=none:=h;cases q:G5 l y with
  |true=>
   have u:Iu l none y=some y:=by unfold Iu;rw[q];rfl
   rw[u]at h;obtain⟨e,z⟩:=aHI l w y;rw[z]at h;cases h
  |false=>
   have u:Iu l none y=none:=by unfold Iu;rw[q];rfl
   rw[u]at h;rcases EZ.1 j with rfl|j
   ·exact q
   exact aLO l (w:=w) h x j
def IW (w:A8 AO) (id:Int):A8 AO:=w.filter fun x=>x.Id != id
def IK :Nat->CJ->CJ
 |0,r=>r
 |n+1,r=>match XF r.Events r.Waiting with
  |none=>r
  |some e=>IK n (H7 { r with Waiting:=IW r.Waiting e.Id } e).1
def aFd {k:A8 AO} (q:∀x∈k,JG x=some 0) (u:∀x∈k,∀y∈k,x.Room=y.Room) (hi:Inc (k.map (·.Id))) (hl:k.length<=100):Pz k=some 0:=by
 rcases V4 k.length with j|j
 ·obtain rfl:k=[]:=Gy j;rfl
 exact aQH q u hi hl j
def aHE {w:A8 AO} {e:AO} (h:e∈w):(IW w e.Id).length<w.length:=by
 unfold IW;rw[List.length_filter_lt_length_iff_exists];exact⟨e,h,BR⟩
def aLB (w:A8 AO) (id:Int):(IW w id).length<=w.length:=LZ ..
def IY.drop {r:CJ} (h:IY r) (z:r.Waiting.length<=100) (id:Int):IY { r with Waiting:=IW r.Waiting id }:=by
 have j:∀x∈IW r.Waiting id,x∈r.Waiting:=fun x q=>(Fa.1 q).1
 have u:Md (IW r.Waiting id):=⟨fun x q=>h.vZ.ev x (j x q),fun x q y I=>h.vZ.room x (j x q) y (j y I),by
  unfold IW Inc
  exact h.vZ.inc.sublist (Si.map _)⟩
 refine{ h with aan:=?_,vZ:=u,UM:=fun x q=>h.UM x (j x q),UN:=fun x q=>h.UN x (j x q),ahA:=EY (aLB ..) h.ahA };exact aFd (fun x q=>l7 h.aan z x (j x q)) u.room u.inc (EY (aLB ..) z)
def cu (r:CJ) (e:AO):((H7 r e).1=r/\(H7 r e).2≠0)\/(H7 r e=(TI r e,0)/\Gw (D9 r.Events e)=0/\(decide (0<J3 r.Events)&&MO (D9 r.Events e) e)=false):=by
 unfold H7;cases hd:Gw (D9 r.Events e) != 0 with
 |true=>exact .inl ⟨rfl,show(15:Int)≠0 by decide⟩
 |false=>
  rw[BH];cases j:(decide (0<J3 r.Events)&&MO (D9 r.Events e) e)with
  |true=>exact .inl ⟨rfl,show(17:Int)≠0 by decide⟩
  |false=>exact .inr ⟨rfl,by simpa using hd,rfl⟩
def aDP :∀(n:Nat) {r:CJ},IY r->r.Waiting.length<=n->r.Events.length+n<=50->IY (IK n r)/\TB (IK n r)
 |0,r,h,I,_=>⟨h,fun x j=>by
  have j:x∈r.Waiting:=j;rw[Gy (show r.Waiting.length=0 by omega)]at j
  exact absurd j Ez⟩
 |n+1,r,h,I,hl=>by
  unfold IK;cases z:XF r.Events r.Waiting with
  |none=>exact⟨h,aLO _ z⟩
  |some e=>
   obtain⟨q,J⟩:=aKs z;have hd:=h.drop AB e.Id;have L:=aHE q;have u:=h.vZ.ev e q;rcases cu { r with Waiting:=IW r.Waiting e.Id } e with⟨q1,_⟩|⟨q1,q2,q3⟩
   ·show IY (IK n (H7 _ e).1)/\TB (IK n (H7 _ e).1);rw[q1];exact aDP n hd (show(IW r.Waiting e.Id).length<=n by omega) (show r.Events.length+n<=50 by omega)
   show IY (IK n (H7 _ e).1)/\TB (IK n (H7 _ e).1);rw[q1]
   have hm:=hd.more (e:=e) (show r.Events.length<=50 by omega) (l7 h.aan AB e q) u.2 (h.UM e q) (h.UN e q) (fun x j=>by
    have :=(Fa.1 j).2
    simpa using this) J q2 q3
   exact aDP n hm (show(IW r.Waiting e.Id).length<=n by omega) (show(D9 r.Events e).length+n<=50 by rw[QG];omega)
end
section
set_option maxHeartbeats 1000000
structure Ol (l k:List AO):Prop where
 len:k.length=l.length
 at_:∀i (h:i<l.length) (h':i<k.length),FD l[i] k[i]
def Ol.ids {l k:A8 AO} (h:Ol l k):k.map (·.Id)=l.map (·.Id):=by
 refine Vk (by simp[h.len]) fun i j q=>?_;rw[Cm]at j q;rw[Nl,Nl,(h.at_ i q j).id]
def Ol.aao {l k:A8 AO} (h:Ol l k) (x:Int):bK k x=bK l x:=by rw[Nh,Fe,Fe,h.ids]
def aQc {m:A8 AO} {x:Int} (hm:bK m x=false):ev m x=FT:=by
 unfold bK at hm
 have :ET m x=none:=by cases j:ET m x with
  |none=>rfl
  |some e=>rw[j]at hm;cases hm
 unfold ev;rw[SQ this]
def Ol.evS {l k:A8 AO} (h:Ol l k) (z:(l.map (·.Id)).Nodup) {x:Int} (I:bK l x=true):FD (ev l x) (ev k x):=by
 obtain⟨e,J,rfl⟩:=Ea.1 (Fe.1 I);obtain⟨i,j,rfl⟩:=Gf J;have q:i<k.length:=by rw[h.len];exact j
 have hs:=h.at_ i j q;have u:(k.map (·.Id)).Nodup:=by rw[h.ids];exact z
 have L:ev l l[i].Id=l[i]:=aH z (E5 j);have M:ev k l[i].Id=k[i]:=by rw[←hs.id];exact aH u (E5 q)
 rw[L,M];exact hs
def Ol.ok {l k:A8 AO} (h:Ol l k) (I:Md l) (hl:l.length<=100) (J:∀x∈k,JG x=some 0) (hs:∀x∈k,EU x):Pz k=some 0/\Md k:=by
 have L:∀x∈k,∀y∈k,x.Room=y.Room:=fun x q y O=>by
  obtain⟨i,hi,rfl⟩:=Gf q;obtain⟨j,M,rfl⟩:=Gf O;have u:i<l.length:=aGX
  have z:j<l.length:=by rw[←h.len];exact M
  rw[(h.at_ i u hi).room,(h.at_ j z M).room];exact I.room _ (E5 u) _ (E5 z)
 have hi:Inc (k.map (·.Id)):=by rw[h.ids];exact I.inc
 exact⟨aFd J L hi (by rw[h.len];exact hl),fun x q=>⟨aCt (hs x q) (J x q),hs x q⟩,L,hi⟩
def Ol.half {l k:A8 AO} (h:Ol l k) (Y:Md l) (hl:l.length<=100) (hd:Gw l=0) (hv:∀x∈k,JG x=some 0) (hs:∀x∈k,EU x):aNQ l k:=by
 obtain⟨Z,c2⟩:=h.ok Y hl hv hs;have I:=UC Y.inc
 have u:∀x,Hd k x=Hd l x:=fun x=>by
  show(ev k x).Depth=(ev l x).Depth;cases q:bK l x with
  |true=>exact(h.evS I q).depth
  |false=>rw[aQc q,aQc (by rw[h.aao];exact q)]
 refine⟨Z,aJA hs (by rw[h.len];exact hl) Z,c2,?_,h.ids,⟨I,fun x q=>?_,fun x q a ha=>?_,fun x q a ha=>?_⟩⟩
 ·unfold Gw at hd ⊢;cases z:QU l with
  |false=>rw[z]at hd;cases hd
  |true=>
   rw[z,Bq]at hd;cases J:l.all (Jz l)with
   |false=>rw[J]at hd;cases hd
   |true=>
    have L:QU k=true:=by
     unfold QU at z ⊢;rw[Dw]at z ⊢;intro e M;obtain⟨i,hi,rfl⟩:=Gf M;have j:i<l.length:=aGX
     have :=z _ (E5 j);have hs:=h.at_ i j hi;unfold G5 at this ⊢;rw[hs.prev,hs.auth,show bK k=bK l from funext h.aao];exact this
    have O:k.all (Jz k)=true:=by
     rw[Dw]at J ⊢;intro e M;obtain⟨i,hi,rfl⟩:=Gf M;have j:i<l.length:=aGX
     have :=J _ (E5 j);have hs:=h.at_ i j hi;unfold Jz at this ⊢;rw[hs.prev,hs.auth,hs.depth,show Hd k=Hd l from funext u];exact this
    rw[L,O];rfl
 ·have U:=Fe.2 q;exact⟨U,by rw[h.aao];exact U,h.evS I U⟩
 ·exact Fe.1 ((ZM hd (Jh (Ik (Fe.2 q)).1)).2 a ha).1
 exact Fe.1 ((ZM hd (Jh (Ik (Fe.2 q)).1)).1 a ha).1
def Ol.heads {l k:A8 AO} (h:Ol l k) (j:(l.map (·.Id)).Nodup) (ids:A8 Int):KL k ids=KL l ids:=by
 unfold KL;refine Ud fun x _=>?_;congr 1;refine any_congr fun y _=>?_;unfold Ph;rw[h.aao];cases q:bK l y with
 |false=>rfl
 |true=>rw[(h.evS j q).prev]
def IY.aBG {r:CJ} (h:IY r) (hl:r.Events.length<=50) {k:A8 AO} (j:Ol r.Events k) (Y:∀x∈k,JG x=some 0) (hs:∀x∈k,EU x):IY { r with Events:=k }/\(TB r->TB { r with Events:=k }):=by
 have L:=j.half h.facts AB h.deep Y hs;have U:=UC h.facts.inc;obtain⟨Z,q2,q3⟩:=amg L h.facts AB (by rw[j.len];omega) h.deep;have I:∀x,HY (Cx k) x=HY (Cx r.Events) x:=fun x=>by unfold HY;rw[Z]
 have u:∀x,G5 k x=G5 r.Events x:=fun x=>by unfold G5;rw[show bK k=bK r.Events from funext j.aao]
 refine⟨⟨h.id,L.ref,L.facts,fun x q=>?_,L.deep,h.KJ.trans j.len.symm,h.next,?_,h.pos,h.nodup,fun x q=>(j.aao _).trans (h.known x q),fun i hi z hz=>?_,fun x q=>?_,h.aan,h.vZ,h.UM,fun x q=>(j.aao _).trans (h.UN x q),h.ahA,?_,?_⟩,fun hr x q=>(u x).trans (hr x q)⟩
 ·obtain⟨i,hi,rfl⟩:=Gf q;have J:i<r.Events.length:=by rw[←j.len];exact hi
  rw[(j.at_ i J hi).room];exact h.own _ (E5 J)
 ·have :J3 k=J3 r.Events:=by
   have hm:∀(m:A8 AO),J3 m=((m.map fun e=>(e.Kind,e.Id)).filter fun p=>p.1==1&&HY (Cx m) p.2).length:=fun m=>by
    unfold J3;rw[List.filter_map,Cm];rfl
   have hp:(k.map fun e=>(e.Kind,e.Id))=r.Events.map fun e=>(e.Kind,e.Id):=by
    refine Vk (by simp[j.len]) fun i M O=>?_;rw[Cm]at M O;rw[Nl,Nl,(j.at_ i O M).id,(j.at_ i O M).kind]
   rw[hm,hm,hp,show HY (Cx k)=HY (Cx r.Events)from funext I]
  show J3 k<=1;rw[this];exact h.one
 ·have hs:=j.evS U (h.known _ (E5 hi));exact h.refs i hi z (by rw[←hs.prev,←hs.auth];exact hz)
 ·show(x.Status=2↔HY (Cx k) x.Id=false)/\_;rw[I];exact h.stat x q
 ·show r.ab2=KL k (GZ k (Cx k));rw[q3,j.heads U];exact h.heads
 show r.State=QC k (Cx k);rw[q2];exact h.state
def bW (e:AO):AQ:=YG e==e.Hash
def Oe (l:A8 AO) (x:AO):A8 AO:=bif bW x&& !bW (ev l x.Id)then l.set (l.findIdx fun y=>y.Id==x.Id) x else l
def aa4 {l:A8 AO} {x:Int} (z:bK l x=true):∃h:(l.findIdx fun y=>y.Id==x)<l.length,l[l.findIdx fun y=>y.Id==x]=ev l x:=by
 obtain⟨q,I⟩:=Ik z
 have j:(l.findIdx fun y=>y.Id==x)<l.length:=by
  rw[Z5];exact⟨_,Jh q,by rw[I];exact Uy _⟩
 refine⟨j,?_⟩;have u:l.find? (fun y=>y.Id==x)=some (ev l x):=q;rw[Q7,E9 j]at u;exact Ch u
def aev (l:A8 AO):Ol l l:=⟨rfl,fun _ _ _=>.refl _⟩
def aDZ {l:A8 AO} {x:AO} (u:bK l x.Id=true) (hs:FD (ev l x.Id) x):Ol l (Oe l x):=by
 unfold Oe;cases bW x&& !bW (ev l x.Id)with
 |false=>exact aev l
 |true=>
  obtain⟨q,j⟩:=aa4 u;refine⟨bG ..,fun i h h'=>?_⟩;show FD l[i] (l.set _ x)[i];rw[List.getElem_set];split
  ·rename_i z;subst z;rw[j];exact hs
  exact .refl _
def Vh {l:A8 AO} {x y:AO} (h:y∈Oe l x):y∈l\/y=x:=by
 unfold Oe at h;cases j:(bW x&& !bW (ev l x.Id))with
 |false=>rw[j]at h;exact .inl h
 |true=>rw[j]at h;exact List.mem_or_eq_of_mem_set h
def aCe (r:CJ) (id:Int):Int:=((r.Rows.find? fun x=>x.Id==id).map (·.Status)).getD 0
def LU (r:CJ) (x:AO):CJ×Int×Int:=
 bif !decide (x.Room=r.Id)then(r,0,13)else
 bif bK r.Events x.Id then({ r with Events:=Oe r.Events x },aCe r x.Id,0)else
 bif !bK r.Waiting x.Id&&G5 r.Events x then(bif (H7 r x).2 != 0 then(r,0,(H7 r x).2)else(IK r.Waiting.length (H7 r x).1,aCe (IK r.Waiting.length (H7 r x).1) x.Id,0))else
 bif !bK r.Waiting x.Id&&decide (200<=r.Waiting.length)then(r,0,29)else
 ({ r with Waiting:=bif bK r.Waiting x.Id then Oe r.Waiting x else D9 r.Waiting x },1,0)
structure aAA (r:CJ) (x:AO):Prop where
 ver:JG x=some 0
 small:EU x
 sim:∀y∈r.Events,y.Id=x.Id->FD y x
 azR:∀y∈r.Waiting,y.Id=x.Id->FD y x
def Uz {l:A8 AO} {x:Int} (h:bK l x=true):ev l x∈l/\(ev l x).Id=x:=⟨Jh (Ik h).1,(Ik h).2⟩
def IY.receive {r:CJ} (h:IY r) (J:TB r) (hl:r.Events.length+r.Waiting.length<=48) {x:AO} (z:aAA r x):IY (LU r x).1/\TB (LU r x).1:=by
 have hv:=h.ver AB;have M:=l7 h.aan AB;unfold LU;cases q:decide (x.Room=r.Id)with
 |false=>rw[Ko,Bq];exact⟨h,J⟩
 |true=>
 have q:=QV q;rw[F6,BH];cases O:bK r.Events x.Id with
 |true=>
  rw[Bq];obtain⟨g1,g2⟩:=Uz O
  obtain⟨a,b⟩:=h.aBG AB (aDZ O (z.sim _ g1 g2)) (fun y j=>by
   rcases Vh j with j|rfl
   ·exact hv y j
   ·exact z.ver) fun y j=>by
   rcases Vh j with j|rfl
   ·exact(h.facts.ev y j).2
   exact z.small
  exact⟨a,b J⟩
 |false=>
 rw[BH];cases U:(!bK r.Waiting x.Id&&G5 r.Events x)with
 |true=>
  rw[D5]at U;have u:bK r.Waiting x.Id=false:=by simpa using U.1
  rw[Bq];rcases cu r x with⟨q1,q2⟩|⟨q1,q2,q3⟩
  ·rw[show((H7 r x).2 != 0)=true by simpa using q2,Bq];exact⟨h,J⟩
  rw[q1]
  exact aDP _ (h.more AB z.ver z.small q O (fun y j hyx=>by
   have :=Fe.2 (Ea.2 ⟨y,j,hyx⟩)
   rw[u]at this;cases this) U.2 q2 q3) (EW _) (show(D9 r.Events x).length+r.Waiting.length<=50 by rw[QG];omega)
 |false=>
 rw[BH];cases I:(!bK r.Waiting x.Id&&(200<=r.Waiting.length))with
 |true=>rw[Bq];exact⟨h,J⟩
 |false=>
 rw[BH];cases u:bK r.Waiting x.Id with
 |true=>
  rw[Bq];obtain⟨g1,g2⟩:=Uz u;have hs:=z.azR _ g1 g2;have Y:=aDZ u hs
  obtain⟨c1,c2⟩:=Y.ok h.vZ AB (fun y j=>by
   rcases Vh j with j|rfl
   ·exact M y j
   ·exact z.ver) fun y j=>by
   rcases Vh j with j|rfl
   ·exact(h.vZ.ev y j).2
   exact z.small
  refine⟨{ h with aan:=c1,vZ:=c2,UM:=fun y j=>?_,UN:=fun y j=>?_,ahA:=?_ },fun y j=>?_⟩
  ·rcases Vh j with j|rfl
   ·exact h.UM y j
   exact q
  ·rcases Vh j with j|rfl
   ·exact h.UN y j
   exact O
  ·show(Oe r.Waiting x).length<=200;rw[Y.len];exact h.ahA
  rcases Vh j with j|rfl
  ·exact J y j
  have h1:=J _ g1;unfold G5 at h1 ⊢;rw[hs.prev,hs.auth];exact h1
 |false=>
  rw[BH];rw[u,Ko,Gm]at U I;have Z:x.Id∉r.Waiting.map (·.Id):=fun hm=>by have :=Fe.2 hm;rw[u]at this;cases this
  have L:∀a∈D9 r.Waiting x,a.Room=r.Id:=fun a ha=>by
   rcases Jd.1 ha with rfl|ha
   ·exact q
   exact h.UM a ha
  have hF:Md (D9 r.Waiting x):=⟨fun y j=>by
   rcases Jd.1 j with rfl|j
   ·exact⟨aCt z.small z.ver,z.small⟩
   exact h.vZ.ev y j,fun a ha b hb=>(L a ha).trans (L b hb).symm,aJY h.vZ.inc Z⟩
  refine⟨{ h with aan:=?_,vZ:=hF,UM:=L,UN:=fun y j=>?_,ahA:=?_ },fun y j=>?_⟩
  ·exact aFd (fun y j=>by
    rcases Jd.1 j with rfl|j
    ·exact z.ver
    exact M y j) hF.room hF.inc (by rw[QG];omega)
  ·rcases Jd.1 j with rfl|j
   ·exact O
   exact h.UN y j
  ·show(D9 r.Waiting x).length<=200;rw[QG];have :=JV I;omega
  rcases Jd.1 j with rfl|j
  ·exact U
  exact J y j
end
section
set_option maxHeartbeats 1000000
structure Grown (r s:CJ):Prop where
 id:s.Id=r.Id
 ev:∀y,bK r.Events y=true->ET s.Events y=ET r.Events y
 rows:∃t,s.Rows=r.Rows++t
def am1 {l k:A8 AO} {y:Int} (h:ET k y=ET l y):bK k y=bK l y:=by unfold bK;rw[h]
def Grown.trans {r s t:CJ} (h:Grown r s) (k:Grown s t):Grown r t:=by
 obtain⟨u,q⟩:=h.rows;obtain⟨v,z⟩:=k.rows;exact⟨k.id.trans h.id,fun y j=>(k.ev y (by rw[am1 (h.ev y j)];exact j)).trans (h.ev y j),u++v,by rw[z,q,IX]⟩
def an6 {l:A8 AO} {x:AO}:bK (D9 l x) x.Id=true:=Fe.2 (Ea.2 ⟨x,Jd.2 (.inl rfl),rfl⟩)
end
section
set_option maxHeartbeats 1000000
def FD.symm {x y:AO} (h:FD x y):FD y x:=
 ⟨h.id.symm,h.room.symm,h.sender.symm,h.kind.symm,h.key.symm,h.time.symm,h.depth.symm,h.prev.symm,h.auth.symm,fun j=>(h.n (by rw[←h.kind];exact j)).symm,fun j=>(h.levels (by rw[←h.kind];exact j)).symm⟩
def FD.trans {x y z:AO} (h:FD x y) (k:FD y z):FD x z:=
 ⟨k.id.trans h.id,k.room.trans h.room,k.sender.trans h.sender,k.kind.trans h.kind,k.key.trans h.key,k.time.trans h.time,k.depth.trans h.depth,k.prev.trans h.prev,k.auth.trans h.auth,
  fun j=>(k.n (by rw[h.kind];exact j)).trans (h.n j),fun j=>(k.levels (by rw[h.kind];exact j)).trans (h.levels j)⟩
structure VN (X:List AO) (id:ByteArray):Prop where
 ver:∀x∈X,JG x=some 0
 small:∀x∈X,EU x
 room:∀x∈X,x.Room=id
 sim:∀x∈X,∀y∈X,x.Id=y.Id->FD x y
 one:∀x∈X,∀y∈X,x.Kind=1->y.Kind=1->x.Id=y.Id
def X6 (l:A8 AO) (x:AO):Prop:=G5 l x=true/\Jz l x=false
structure JU (X S:List AO) (r:CJ):Prop where
 ok:IY r
 ev:∀y∈r.Events,∃x∈X,FD x y
 Zy:∀y∈r.Waiting,∃x∈X,FD x y
 got:∀x∈S,bK r.Events x.Id=true\/bK r.Waiting x.Id=true\/X6 r.Events x
def uM {l k:A8 AO} {x y:AO} (hs:FD x y) (hd:∀z,z∈x.bV\/z∈x.bZ->Hd k z=Hd l z):Jz k y=Jz l x:=by
 unfold Jz;rw[hs.prev,hs.auth,hs.depth]
 have j:x.bZ.all (fun a=>Hd k a<x.Depth)=x.bZ.all (fun a=>Hd l a<x.Depth):=by
  rw[Nh,Dw,Dw];exact⟨fun q a ha=>by rw[←hd a (.inr ha)];exact q a ha,fun q a ha=>by rw[hd a (.inr ha)];exact q a ha⟩
 have u:x.bV.all (fun a=>Hd k a<x.Depth)=x.bV.all (fun a=>Hd l a<x.Depth):=by
  rw[Nh,Dw,Dw];exact⟨fun q a ha=>by rw[←hd a (.inl ha)];exact q a ha,fun q a ha=>by rw[hd a (.inl ha)];exact q a ha⟩
 have I:(x.bV.any fun a=>Hd k a==x.Depth-1)=x.bV.any fun a=>Hd l a==x.Depth-1:=any_congr fun a ha=>by rw[hd a (.inl ha)]
 rw[j,u,I]
def aKJ {l k:A8 AO} {x:AO} (h:G5 l x=true) (q:∀z,bK l z=true->bK k z=true):G5 k x=true:=by
 unfold G5;rw[D5,Dw,Dw];exact⟨fun z j=>q z (Ze h (.inl j)),fun z j=>q z (Ze h (.inr j))⟩
def X6.more {l k:A8 AO} {x:AO} (h:X6 l x) (q:∀z,bK l z=true->bK k z=true/\Hd k z=Hd l z):X6 k x:=
 ⟨aKJ h.1 fun z j=>(q z j).1,by rw[uM (.refl x) fun z j=>(q z (Ze h.1 j)).2];exact h.2⟩
def Iw.aod {l:A8 AO} {e:AO} (h:Iw l e) {z:Int} (j:bK l z=true):Hd (D9 l e) z=Hd l z:=by
 show(ev (D9 l e) z).Depth=(ev l z).Depth;rw[h.ev' j]
def Iw.bad {l:A8 AO} {e:AO} (h:Iw l e) (J:G5 l e=true) (hd:Gw (D9 l e)≠0):X6 l e:=by
 refine⟨J,?_⟩;cases M:Jz l e with
 |false=>rfl
 |true=>
  exfalso;apply hd;have I:=h.deep;unfold Gw at I ⊢;cases q:QU l with
  |false=>rw[q]at I;cases I
  |true=>
  cases L:l.all (Jz l)with
  |false=>rw[q,L]at I;cases I
  |true=>
   have O:QU (D9 l e)=true:=by
    unfold QU at q ⊢;rw[Dw]at q ⊢;intro x j;rcases Jd.1 j with rfl|j
    ·exact aKJ J fun z u=>h.ahz u
    exact aKJ (q x j) fun z u=>h.ahz u
   have U:(D9 l e).all (Jz (D9 l e))=true:=by
    unfold QU at q;rw[Dw]at q L ⊢;intro x j;rcases Jd.1 j with j|j
    ·subst j;rw[uM (.refl x) fun z u=>h.aod (Ze J u)];exact M
    rw[uM (.refl x) fun z u=>h.aod (Ze (q x j) u)];exact L x j
   rw[O,U];rfl
section
variable {X S:A8 AO} {r:CJ}
def JU.mono (h:JU X S r) {T:A8 AO} (j:∀x∈T,x∈S):JU X T r:=⟨h.ok,h.ev,h.Zy,fun x q=>h.got x (j x q)⟩
def JU.add (h:JU X S r) {id:BI} (hX:VN X id) (I:r.Id=id) (hl:r.Events.length<=50) {e:AO} (he:∃x∈X,FD x e) (hv:JG e=some 0) (hs:EU e) (Y:bK r.Events e.Id=false) (hw:∀x∈r.Waiting,x.Id≠e.Id) (M:G5 r.Events e=true):
 JU X (e::S) (H7 r e).1/\(H7 r e).1.Id=id/\(H7 r e).1.Waiting=r.Waiting/\(H7 r e).1.Events.length<=r.Events.length+1/\(∀z,bK r.Events z=true->bK (H7 r e).1.Events z=true):=by
 obtain⟨x,Z,u⟩:=he;have q:e.Room=r.Id:=by rw[u.room,hX.room x Z,I]
 have ha:=h.ok.awJ hl hv hs q Y
 have hno:(decide (0<J3 r.Events)&&MO (D9 r.Events e) e)=false:=by
  cases hq:(decide (0<J3 r.Events)&&MO (D9 r.Events e) e)with
  |false=>rfl
  |true=>
   exfalso;rw[D5,Ht]at hq;obtain⟨hp,hm⟩:=hq;unfold J3 at hp;obtain⟨c,hc⟩:=List.exists_mem_of_length_pos hp;rw[Fa]at hc;obtain⟨O,J⟩:=hc;unfold MO at J hm;rw[D5]at J hm;obtain⟨y,j,U⟩:=h.ev c O;have k1:y.Kind=1:=by rw[←U.kind];exact eq_of_beq J.1
   have k2:x.Kind=1:=by rw[←u.kind];exact eq_of_beq hm.1
   have :=hX.one y j x Z k1 k2;rw[←U.id,←u.id]at this;have hk:=Fe.2 (Ea.2 ⟨c,O,this⟩);rw[Y]at hk;cases hk
 rcases cu r e with⟨q1,q2⟩|⟨q1,q2,q3⟩
 ·have hd:Gw (D9 r.Events e)≠0:=by
   intro hd;apply q2;unfold H7;rw[hd,hno];rfl
  rw[q1];refine⟨⟨h.ok,h.ev,h.Zy,fun y j=>?_⟩,I,rfl,aDp _,fun _ L=>L⟩;rcases EZ.1 j with rfl|j
  ·exact .inr (.inr (ha.bad M hd))
  exact h.got y j
 rw[q1];refine⟨⟨h.ok.more hl hv hs q Y hw M q2 q3,fun y j=>?_,h.Zy,fun y j=>?_⟩,I,rfl,by show(D9 r.Events e).length<=_;rw[QG];omega,fun z L=>ha.ahz L⟩
 ·rcases Jd.1 j with rfl|j
  ·exact⟨x,Z,u⟩
  exact h.ev y j
 rcases EZ.1 j with rfl|j
 ·exact .inl ha.afo
 rcases h.got y j with g|g|g
 ·exact .inl (ha.ahz g)
 ·exact .inr (.inl g)
 exact .inr (.inr (g.more fun z L=>⟨ha.ahz L,ha.aod L⟩))
end
def aeG {w:A8 AO} {id z:Int} (h:bK w z=true) (j:z≠id):bK (IW w id) z=true:=by
 obtain⟨y,q,rfl⟩:=Ea.1 (Fe.1 h);exact Fe.2 (Ea.2 ⟨y,Fa.2 ⟨q,Qw⟩,rfl⟩)
def aQn {X:A8 AO} {id:BI} (O:VN X id):∀(n:Nat) {S:A8 AO} {r:CJ},(∀x∈S,x∈X)->JU X S r->r.Id=id->r.Waiting.length<=n->r.Events.length+n<=50->JU X S (IK n r)/\(IK n r).Id=id/\(IK n r).Events.length+(IK n r).Waiting.length<=r.Events.length+r.Waiting.length
 |0,S,r,_,h,q,_,_=>⟨h,q,EW _⟩
 |n+1,S,r,hS,h,q,hw,hl=>by
  unfold IK;cases Z:XF r.Events r.Waiting with
  |none=>exact⟨h,q,EW _⟩
  |some e=>
   obtain⟨I,h2⟩:=aKs Z;have hdl:=aHE I;have U:=h.ok.vZ.ev e I
   have hd:JU X (S.filter fun x=>x.Id != e.Id) { r with Waiting:=IW r.Waiting e.Id }:=by
    refine⟨h.ok.drop AB e.Id,h.ev,fun y hy=>h.Zy y (Fa.1 hy).1,fun x u=>?_⟩;obtain⟨u,j⟩:=Fa.1 u;rcases h.got x u with g|g|g
    ·exact .inl g
    ·exact .inr (.inl (aeG g Qw))
    exact .inr (.inr g)
   obtain⟨J,a2,a3,a4,a5⟩:=hd.add O q (show r.Events.length<=50 by omega) (h.Zy e I) (l7 h.ok.aan AB e I) U.2 (h.ok.UN e I) (fun x u=>by
    have :=(Fa.1 u).2
    simpa using this) h2
   have L:JU X S (H7 { r with Waiting:=IW r.Waiting e.Id } e).1:=by
    refine⟨J.ok,J.ev,J.Zy,fun x u=>?_⟩;by_cases j:x.Id=e.Id
    ·obtain⟨x',Y,M⟩:=h.Zy e I;have z:FD e x:=M.symm.trans (O.sim x' Y x (hS x u) (by rw[j,←M.id]));rcases J.got e (Fz ..)with g|g|g
     ·rw[j];exact .inl g
     ·rw[j];exact .inr (.inl g)
     refine .inr (.inr ⟨?_,?_⟩)
     ·have :=g.1;unfold G5 at this ⊢;rw[z.prev,z.auth];exact this
     rw[uM z fun _ _=>rfl];exact g.2
    exact J.got x (Gp _ (Fa.2 ⟨u,Qw⟩))
   have hw3:(H7 { r with Waiting:=IW r.Waiting e.Id } e).1.Waiting.length=(IW r.Waiting e.Id).length:=by rw[a3]
   have ha4:(H7 { r with Waiting:=IW r.Waiting e.Id } e).1.Events.length<=r.Events.length+1:=a4;obtain⟨b1,b2,b3⟩:=aQn O n hS L a2 AB AB;refine⟨b1,b2,EY b3 ?_⟩;omega
def abq {X S:A8 AO} {r:CJ} {id:BI} (Y:VN X id) (hS:∀x∈S,x∈X) (h:JU X S r) (u:r.Id=id) (hn:TB r) (hl:r.Events.length+r.Waiting.length<=40) {x:AO} (I:x∈X):
 JU X (x::S) (LU r x).1/\(LU r x).1.Id=id/\TB (LU r x).1/\(LU r x).1.Events.length+(LU r x).1.Waiting.length<=r.Events.length+r.Waiting.length+1:=by
 have J:aAA r x:=⟨Y.ver x I,Y.small x I,fun y j L=>by
  obtain⟨z,U,M⟩:=h.ev y j;exact M.symm.trans (Y.sim z U x I (by rw[←M.id,L])),fun y j L=>by
  obtain⟨z,U,M⟩:=h.Zy y j
  exact M.symm.trans (Y.sim z U x I (by rw[←M.id,L]))⟩
 obtain⟨ok1,ok2⟩:=h.ok.receive hn AB J;have Z:x.Room=r.Id:=by rw[Y.room x I,u]
 have key:(∀y∈(LU r x).1.Events,∃z∈X,FD z y)/\(∀y∈(LU r x).1.Waiting,∃z∈X,FD z y)/\(∀y∈x::S,bK (LU r x).1.Events y.Id=true\/bK (LU r x).1.Waiting y.Id=true\/X6 (LU r x).1.Events y)/\(LU r x).1.Id=id/\(LU r x).1.Events.length+(LU r x).1.Waiting.length<=r.Events.length+r.Waiting.length+1:=by
  clear ok1 ok2;unfold LU;rw[I4 Z,F6,BH];cases c2:bK r.Events x.Id with
  |true=>
   obtain⟨g1,g2⟩:=Uz c2;have q:=aDZ c2 (J.sim _ g1 g2);have hnd:=UC h.ok.facts.inc;rw[Bq];refine⟨fun y j=>?_,h.Zy,fun y j=>?_,u,?_⟩
   ·rcases Vh j with j|rfl
    ·exact h.ev y j
    exact⟨_,I,.refl _⟩
   ·show bK (Oe r.Events x) y.Id=true\/bK r.Waiting y.Id=true\/X6 (Oe r.Events x) y;rw[q.aao];rcases EZ.1 j with rfl|j
    ·exact .inl c2
    rcases h.got y j with g|g|g
    ·exact .inl g
    ·exact .inr (.inl g)
    exact .inr (.inr (g.more fun z U=>⟨by rw[q.aao];exact U,(q.evS hnd U).depth⟩))
   show(Oe r.Events x).length+r.Waiting.length<=_;rw[q.len];omega
  |false=>
  rw[BH];cases c3:(!bK r.Waiting x.Id&&G5 r.Events x)with
  |true=>
   rw[D5]at c3;have O:bK r.Waiting x.Id=false:=by simpa using c3.1
   obtain⟨a1,a2,a3,a4,a5⟩:=h.add Y u AB ⟨x,I,.refl x⟩ (Y.ver x I) (Y.small x I) c2 (fun y j L=>by
    have :=Fe.2 (Ea.2 ⟨y,j,L⟩)
    rw[O]at this;cases this) c3.2
   rw[Bq];rcases cu r x with⟨q1,q2⟩|⟨q1,q2,q3⟩
   ·rw[q1]at a1;rw[show((H7 r x).2 != 0)=true by simpa using q2,Bq];exact⟨a1.ev,a1.Zy,a1.got,u,aDp _⟩
   have U:(H7 r x).2=0:=by rw[q1]
   rw[U];have hw3:(H7 r x).1.Waiting.length=r.Waiting.length:=by rw[a3]
   obtain⟨b1,b2,b3⟩:=aQn Y r.Waiting.length (S:=x::S) (fun y j=>by
    rcases EZ.1 j with rfl|j
    ·exact I
    exact hS y j) a1 a2 AB AB
   exact⟨b1.ev,b1.Zy,b1.got,b2,by
    show(IK r.Waiting.length (H7 r x).1).Events.length+(IK r.Waiting.length (H7 r x).1).Waiting.length<=_
    omega⟩
  |false=>
  rw[BH,GK (show ¬200<=r.Waiting.length by omega),Bool.and_false,BH];cases O:bK r.Waiting x.Id with
  |true=>
   obtain⟨g1,g2⟩:=Uz O;have q:=aDZ O (J.azR _ g1 g2);rw[Bq];refine⟨h.ev,fun y j=>?_,fun y j=>?_,u,?_⟩
   ·rcases Vh j with j|rfl
    ·exact h.Zy y j
    exact⟨_,I,.refl _⟩
   ·show bK r.Events y.Id=true\/bK (Oe r.Waiting x) y.Id=true\/X6 r.Events y;rw[q.aao];rcases EZ.1 j with rfl|j
    ·exact .inr (.inl O)
    exact h.got y j
   show r.Events.length+(Oe r.Waiting x).length<=_;rw[q.len];omega
  |false=>
   rw[BH];refine⟨h.ev,fun y j=>?_,fun y j=>?_,u,?_⟩
   ·rcases Jd.1 j with rfl|j
    ·exact⟨_,I,.refl _⟩
    exact h.Zy y j
   ·show bK r.Events y.Id=true\/bK (D9 r.Waiting x) y.Id=true\/X6 r.Events y;rcases EZ.1 j with rfl|j
    ·exact .inr (.inl an6)
    rcases h.got y j with g|g|g
    ·exact .inl g
    ·obtain⟨z,U,e⟩:=Ea.1 (Fe.1 g);exact .inr (.inl (Fe.2 (Ea.2 ⟨z,Jd.2 (.inr U),e⟩)))
    exact .inr (.inr g)
   show r.Events.length+(D9 r.Waiting x).length<=_;rw[QG];omega
 exact⟨⟨ok1,key.1,key.2.1,key.2.2.1⟩,key.2.2.2.1,ok2,key.2.2.2.2⟩
def aRs {X:A8 AO} {r s:CJ} {id:BI} (hX:VN X id) (J:JU X X r) (hs:JU X X s) (j:s.Waiting=[]) {z:Int} (hz:bK r.Events z=true):bK s.Events z=true:=by
 obtain⟨L,g2⟩:=Uz hz;obtain⟨x,hx,q⟩:=J.ev _ L;have M:x.Id=z:=by rw[←q.id,g2]
 rcases hs.got x hx with g|g|g
 ·rw[M]at g;exact g
 ·rw[j]at g;cases g
 exfalso
 have u:Jz r.Events (ev r.Events z)=true:=by
  have hd:=J.ok.deep;unfold Gw at hd;cases Z:QU r.Events with
  |false=>rw[Z]at hd;cases hd
  |true=>
  cases h2:r.Events.all (Jz r.Events)with
  |false=>rw[Z,h2]at hd;cases hd
  |true=>exact Dw.1 h2 _ L
 have I:∀w,w∈(ev r.Events z).bV\/w∈(ev r.Events z).bZ->bK r.Events w=true:=fun w j=>by
  obtain⟨q1,q2⟩:=ZM J.ok.deep L;rcases j with j|j
  ·exact(q2 w j).1
  exact(q1 w j).1
 have :Jz s.Events x=Jz r.Events (ev r.Events z):=uM q.symm fun w j=>by
  have k1:=I w j;have k2:bK s.Events w=true:=Ze g.1 (by rw[←q.prev,←q.auth];exact j);obtain⟨a1,a2⟩:=Uz k1;obtain⟨b1,b2⟩:=Uz k2;obtain⟨x1,O,e1⟩:=J.ev _ a1;obtain⟨x2,U,e2⟩:=hs.ev _ b1;have Y:=hX.sim x1 O x2 U (by rw[←e1.id,←e2.id,a2,b2]);show(ev s.Events w).Depth=(ev r.Events w).Depth;rw[e2.depth,e1.depth,Y.depth]
 rw[g.2,u]at this;cases this
def aSc {X:A8 AO} {r s:CJ} {id:BI} (O:VN X id) (q:JU X X r) (hs:JU X X s) (hw:r.Waiting=[]) (U:s.Waiting=[]) (hl:r.Events.length<=100) (Y:s.Events.length<=100):
 s.Events.map (·.Id)=r.Events.map (·.Id)/\(∀x,Ew (Cx s.Events) x=Ew (Cx r.Events) x)/\s.State=r.State:=by
 have j:s.Events.map (·.Id)=r.Events.map (·.Id):=GY hs.ok.facts.inc q.ok.facts.inc fun z=>by
  rw[←Fe,←Fe];exact⟨fun h=>aRs O hs q hw h,fun h=>aRs O q hs U h⟩
 have Z:=q.ok.facts.ok hl;have u:=hs.ok.facts.ok Y
 have J:GL r.Events s.Events (r.Events.map (·.Id)):=aNm Z.nodup u.nodup q.ok.deep fun e he=>by
  have hk:bK s.Events e.Id=true:=Fe.2 (by rw[j];exact Ea.2 ⟨e,he,rfl⟩);obtain⟨g1,g2⟩:=Uz hk;obtain⟨x1,hx1,e1⟩:=q.ev e he;obtain⟨x2,hx2,e2⟩:=hs.ev _ g1;exact⟨_,g1,g2,e1.symm.trans ((O.sim x1 hx1 x2 hx2 (by rw[←e1.id,←e2.id,g2])).trans e2)⟩
 have L:∀x,Ew (Cx s.Events) x=Ew (Cx r.Events) x:=fun x=>by
  by_cases I:x∈r.Events.map (·.Id)
  ·exact(aAu J Z q.ok.deep u hs.ok.deep x I).1
  have z:∀{m:A8 AO},x∉m.map (·.Id)->Ew (Cx m) x=none:=fun{m} hm=>by
   rw[jY,aFK];exact fun hq=>hm (Fe.1 (Zv.1 hq))
  rw[z I,z (by rw[j];exact I)]
 have M:GZ s.Events (Cx s.Events)=GZ r.Events (Cx r.Events):=by
  rw[dQ,dQ,j];exact Ud fun x _=>by unfold HY;rw[L]
 refine⟨j,L,?_⟩;rw[hs.ok.state,q.ok.state];exact aLk J Z q.ok.deep u hs.ok.deep (fun x I=>by rw[dQ]at I;exact(Fa.1 I).1) M
def al6 {X:A8 AO} {r s:CJ} {id:BI} (I:VN X id) (z:JU X X r) (hs:JU X X s) (J:r.Waiting=[]) (j:s.Waiting=[]) (hl:r.Events.length<=100) (q:s.Events.length<=100) {x y:Ey} (L:x∈r.Rows) (M:y∈s.Rows) (u:x.Id=y.Id):(x.Status=2↔y.Status=2):=by
 obtain⟨_,O,_⟩:=aSc I z hs J j hl q;rw[(z.ok.stat x L).1,(hs.ok.stat y M).1,u];unfold HY;rw[O]
end
section
set_option maxHeartbeats 1000000
def YI (r:CJ) (id:Int):Option Ey:=r.Rows.find? fun x=>x.Id==id
def adJ {r:CJ} {id:Int} {x:Ey} (h:YI r id=some x):∃m,∃hm:m<r.Rows.length,r.Rows[m]=x/\x.Id=id:=by
 have j:=Wy h;obtain⟨m,hm,e⟩:=Gf j;exact⟨m,hm,e,by simpa using aCV h⟩
def aef {r:CJ} {id:Int} (h:YI r id=none):∀j (q:j<r.Rows.length),r.Rows[j].Id≠id:=fun j q e=>by
 have :=aD0.1 h _ (E5 q);rw[e]at this;simp at this
end
section
set_option maxRecDepth 20000
set_option maxHeartbeats 1000000
def aGd (k:Int) (v:AQ) (x:Int):∀m:A8 (Int×AQ),x∈(EM m k v).map (·.1)↔x=k\/x∈m.map (·.1)
 | []=>by unfold EM;simp
 |p::m=>by
  unfold EM;cases j:k==p.1 with
  |true=>
   rw[Bq,Gv,Gv,EZ,EZ,eq_of_beq j];exact⟨fun h=>h.elim .inl fun h=>.inr (.inr h),fun h=>h.elim .inl fun h=>h.elim .inl .inr⟩
  |false=>
   rw[BH,Gv,Gv,EZ,EZ,aGd k v x m];exact⟨fun h=>h.elim (fun h=>.inr (.inl h)) fun h=>h.elim .inl fun h=>.inr (.inr h),fun h=>h.elim (fun h=>.inr (.inl h)) fun h=>h.elim .inl fun h=>.inr (.inr h)⟩
def aaV (k:Int) (v:AQ):∀m:A8 (Int×AQ),(m.map (·.1)).Nodup->((EM m k v).map (·.1)).Nodup
 | [],_=>by unfold EM;simp
 |p::m,h=>by
  rw[Gv,Iq]at h;unfold EM;cases j:k==p.1 with
  |true=>
   rw[Bq,Gv,Iq,eq_of_beq j];exact h
  |false=>
   rw[BH,Gv,Iq];refine⟨fun hm=>?_,aaV k v m h.2⟩;rcases(aGd k v p.1 m).1 hm with e|e
   ·rw[e,Uy]at j;cases j
   exact h.1 e
def aJ2 (k x:Int):∀m:A8 (Int×AQ),(m.map (·.1)).Nodup->(x∈(KE m k).map (·.1)↔x∈m.map (·.1)/\x≠k)
 | [],_=>by unfold KE;simp
 |p::m,h=>by
  rw[Gv,Iq]at h;unfold KE;cases u:k==p.1 with
  |true=>
   rw[Bq,Gv,EZ,←eq_of_beq u];rw[←eq_of_beq u]at h;exact⟨fun j=>⟨.inr j,fun e=>h.1 (e▸j)⟩,fun⟨j,q⟩=>j.elim (fun e=>absurd e q) id⟩
  |false=>
   rw[BH,Gv,Gv,EZ,EZ,aJ2 k x m h.2];refine⟨fun j=>j.elim (fun e=>⟨.inl e,fun z=>?_⟩) fun⟨a,b⟩=>⟨.inr a,b⟩,fun⟨j,q⟩=>j.elim .inl fun a=>.inr ⟨a,q⟩⟩;rw[←z,e,Uy]at u;cases u
def aQt (k:Int):∀m:A8 (Int×AQ),(m.map (·.1)).Nodup->((KE m k).map (·.1)).Nodup
 | [],_=>by unfold KE;simp
 |p::m,h=>by
  have j:=h;rw[Gv,Iq]at h;unfold KE;cases q:k==p.1 with
  |true=>rw[Bq];exact h.2
  |false=>
   rw[BH,Gv,Iq];exact⟨fun hm=>h.1 ((aJ2 k p.1 m h.2).1 hm).1,aQt k m h.2⟩
def aSV :∀(g:A8 Int) (m:A8 (Int×AQ)),(m.map (·.1)).Nodup->((g.foldl (fun a x=>EM a x true) m).map (·.1)).Nodup/\∀x,x∈(g.foldl (fun a x=>EM a x true) m).map (·.1)↔x∈m.map (·.1)\/x∈g
 | [],m,h=>⟨h,fun x=>BR⟩
 |y::g,m,h=>by
  rw[Gj];obtain⟨j,q⟩:=aSV g (EM m y true) (aaV y true m h);refine⟨j,fun x=>?_⟩;rw[q,aGd,EZ];exact⟨fun h=>h.elim (fun h=>h.elim (fun h=>.inr (.inl h)) .inl) fun h=>.inr (.inr h),fun h=>h.elim (fun h=>.inl (.inr h)) fun h=>h.elim (fun h=>.inl (.inl h)) .inr⟩
def aRq :∀(l:A8 AO) (m:A8 (Int×AQ)),(m.map (·.1)).Nodup->((l.foldl (fun a e=>KE a e.Id) m).map (·.1)).Nodup/\∀x,x∈(l.foldl (fun a e=>KE a e.Id) m).map (·.1)↔x∈m.map (·.1)/\x∉l.map (·.Id)
 | [],m,h=>⟨h,fun x=>BR⟩
 |e::l,m,h=>by
  rw[Gj];obtain⟨j,q⟩:=aRq l (KE m e.Id) (aQt e.Id m h);refine⟨j,fun x=>?_⟩;rw[q,aJ2 _ _ _ h,Gv,EZ];exact⟨fun⟨⟨a,b⟩,c⟩=>⟨a,fun d=>d.elim b c⟩,fun⟨a,b⟩=>⟨⟨a,fun d=>b (.inl d)⟩,fun d=>b (.inr d)⟩⟩
def aQO :∀(m:A8 (Int×AQ)) (r:A8 Int),r.length+m.length<=1000000->List.foldlM au r m=some (r++m.map (·.1))
 | [],r,_=>BR
 |p::m,r,h=>by
  rw[GI]at h
  have e:au r p=some (r++[p.1]):=by
   unfold au;rw[Ep Ic];rfl
  rw[SV,e];show List.foldlM au (r++[p.1]) m=_;rw[aQO m (r++[p.1]) aFe,IX];rfl
def af5 {m:A8 (Int×AQ)} (hm:m.length<=1000000):ZQ m=some (LW (m.map (·.1))):=by
 unfold ZQ
 have j:Ir 8 (0:Int) 0 (m.length:Int)=some []:=by
  unfold Ir;rw[D8 ⟨vK 0,AB,AB⟩];rfl
 rw[j,Ad,aQO m [] V9,Jr,Ad];unfold qc OM;rw[D8 kK];rfl
def af4 {l:A8 Int} (h:l.Nodup):Inc (LW l):=by
 have z:(LW l).Nodup:=(Tm l).nodup_iff.2 h;have hp:(LW l).Pairwise (fun a b=>a<=b):=qg l;unfold Inc;rw[KI]at hp ⊢;intro i j hi u q;have I:=hp i j hi u q;have J:(LW l)[i]≠(LW l)[j]:=KI.1 (qZ.1 z) i j hi u q;omega
def aLU (l:A8 AO) (g:A8 Int) (hl:l.length<=1000) (U:g.length<=1000):ou l g=some (YJ l g):=by
 obtain⟨I,q⟩:=aSV g [] Wu;obtain⟨u,z⟩:=aRq l _ I
 have hlen:((l.foldl (fun a e=>KE a e.Id) (g.foldl (fun a x=>EM a x true) [])).map (·.1)).length<=g.length:=kS u fun x J=>by
  rcases(q x).1 ((z x).1 J).1 with h|h
  ·exact absurd h Ez
  exact h
 rw[Cm]at hlen;have hs:=af5 (m:=l.foldl (fun a e=>KE a e.Id) (g.foldl (fun a x=>EM a x true) [])) (Nat.le_trans hlen (Nat.le_trans U AB))
 have L:LW ((l.foldl (fun a e=>KE a e.Id) (g.foldl (fun a x=>EM a x true) [])).map (·.1))=YJ l g:=GY (af4 u) (acI _ _) fun x=>by
  rw[(Tm _).mem_iff,z,q,aFC]
  have M:bK l x=false↔x∉l.map (·.Id):=by
   rw[←Fe];cases bK l x<;>simp
  rw[M];simp
 rw[L]at hs
 have O:∀m:A8 (Int×AQ),aDW l 0 m=(ZQ (l.foldl (fun a e=>KE a e.Id) m)).bind fun j=>some j:=fun m=>by
  unfold aDW
  exact vN (body:=aB0 l) l AB (fun a e=>KE a e.Id) (fun _ _=>True) (fun a=>(ZQ a).bind fun j=>some j) trivial (fun k a i h _=>⟨trivial,by
   unfold aB0
   rw[DV h]⟩) fun k a _=>by
   unfold aB0;rw[ER,BH]
 unfold ou aRD
 rw[vN (body:=Few g l) g AB (fun a x=>EM a x true) (fun _ _=>True) (fun a=>aDW l 0 a) trivial (fun k a i h _=>⟨trivial,by
    unfold Few
    rw[DV h]⟩) fun k a _=>by
    unfold Few
    rw[ER,BH],O,hs]
 rfl
def aRw {l:A8 AO} {g:A8 Int}:(((YJ l g).length:Int)==0)=g.all (bK l):=by
 rw[Nh,OQ,Dw];constructor
 ·intro h x j;cases q:bK l x with
  |true=>rfl
  |false=>
   have hm:=aFC.2 ⟨j,q⟩;have :=aDJ hm;omega
 intro h;cases u:YJ l g with
 |nil=>rfl
 |cons y t=>
  have z:y∈YJ l g:=by rw[u];exact Fz ..
  obtain⟨a,b⟩:=aFC.1 z;rw[h y a]at b;cases b
def ready_eq (l:A8 AO) (e:AO) (hl:l.length<=1000) (j:EU e):eM l e=some (G5 l e):=by
 have q:=j.prev;have u:=j.auth;unfold eM G5;rw[aLU l _ hl AB,aLU l _ hl AB,Ad,aRw,Ad,aRw];cases e.bV.all (bK l)<;>rfl
def apE {l:A8 AO} (I:Jp l):TJ l (Cx l)=l.map fun e=>bif HY (Cx l) e.Id then 4 else 2:=by
 have :∀m:A8 AO,(∀e∈m,e∈l)->TJ m (Cx l)=m.map fun e=>bif HY (Cx l) e.Id then(4:Int)else 2:=by
  intro m
  induction m with
  |nil=>exact fun _=>rfl
  |cons e m j=>
   intro h;have j:=j fun x u=>h x (Gp _ u);unfold TJ at j ⊢;obtain⟨y,q⟩:=aCB (Fe.2 (Ea.2 ⟨e,h e (Fz ..),rfl⟩));have z:HY (Cx l) e.Id=(y.err==0):=by unfold HY;rw[q]
   rw[Ob,q,JF,Gv,j,z];show(bif !(y.err==0)then(2:Int)else 4)::_=_;cases y.err==0<;>rfl
 exact this l fun _ h=>h
def aLt {l:A8 AO} (O:NM l=some 0) (z:Jp l) (hd:Gw l=0):lD l=some (J3 l:Int):=by
 have hl:=z.len;have hs:=aiz O fun _=>z;rw[dX hd,apE z]at hs;unfold lD;rw[hs,Ad];unfold aRN;refine dU.eq (MJ l.length (fuel_lt AB) (fun i a=>a=(((l.take i).filter (MO l)).length:Int)) rfl (fun i a k hi ha I=>?_) fun a k ha=>?_)
 ·have U:((l.take i).filter (MO l)).length<=i:=EY (LZ ..) xu;have u:i<(l.map fun e=>bif HY (Cx l) e.Id then(4:Int)else 2).length:=aCS
  have J:=Dn u;rw[Nl]at J;have q:=aK5 (p:=MO l) hi;unfold aFy aBW;rw[DV hi,dec_lt u,J];have j:MO l l[i]=(l[i].Kind==1&&HY (Cx l) l[i].Id):=rfl;cases L:l[i].Kind==1 with
  |false=>
   rw[L,wC]at j;rw[j]at q;simp only[BH,Ad];rw[wrap_succ i AB];exact I _ (by rw[ha,q];simp)
  |true=>
   rw[L,Gm]at j;simp only[Bq,Ad];cases M:HY (Cx l) l[i].Id with
   |false=>
    rw[M]at j;rw[j]at q;rw[show((bif false then(4:Int)else 2)==4)=false from rfl,BH,wrap_succ i AB];exact I _ (by rw[ha,q];simp)
   |true=>
    rw[M]at j;rw[j]at q;rw[show((bif true then(4:Int)else 2)==4)=true from rfl,Bq,wrap_succ i AB,ha,wrap_succ _ AB];exact I _ (by rw[q];simp)
 unfold aFy;rw[ER,BH,ha,J7];exact .ret rfl
def ajx {l:A8 AO} (q:NM l=some 0) (j:Jp l) (hd:Gw l=0):sB l=some (KL l (GZ l (Cx l))):=by
 have hl:=j.len;have ha:=agc q fun _=>j;rw[dX hd]at ha;have u:=aAr l (Cx l);unfold sB;rw[ha,Ad,aR6 l _ hl j.small AB];rfl
end
section
set_option maxRecDepth 20000
set_option maxHeartbeats 1000000
def aiX {l:A8 Ey} (h:l.length<=1000000):uq l=some l:=by
 unfold uq;rw[Ep V9];rfl
def aPT {l:A8 AO} {e:AO} (hl:l.length<=1000) (j:∀x∈l,x.Room=e.Room) (q:bK l e.Id=false):Ub l e=some (D9 l e,0):=by
 have u:l.any (fU e)=false:=by
  rw[zC];intro x z;unfold fU;rw[j x z];simp
 rw[aLl hl,u,BH,q,BH]
def aM3 {l:A8 AO} {e:AO} (hl:l.length<=1000) (z:∀x∈l,x.Room=e.Room) (q:bK l e.Id=true) (hs:∀x∈l,EU x) (I:EU e):Ub l e=some (Oe l e,0):=by
 have J:l.any (fU e)=false:=by
  rw[zC];intro x L;unfold fU;rw[z x L];simp
 obtain⟨j,u⟩:=aa4 q;rw[aLl hl,J,BH,q,Bq,(bD I.x).1,Ad,Dn j,u,Ad,(bD (hs _ (Uz q).1).x).1];unfold Oe bW;cases YG e==e.Hash with
 |false=>rfl
 |true=>rfl
def ab3 {l:A8 AO} (hs:FV l) (s:A8 Az):FV (ND l s):=aOl hs _
def aO6 {r:CJ} (h:IY r) (hl:r.Events.length<=50) {e:AO} (hv:JG e=some 0) (hs:EU e) (hr:e.Room=r.Id) (Y:bK r.Events e.Id=false):iU r e=some (H7 r e):=by
 have ha:=h.awJ hl hv hs hr Y;have M:=ha.ok;have j:=ha.ok';have hl':=ha.len';have c0:NM r.Events=some 0:=aJA M.small AB h.set;have hrl:=h.KJ;have Z:=h.next
 have hst:r.State.length<=50:=by
  have hp:=aR8 (l:=r.Events) (c:=0) fun _=>M;rw[dX h.deep]at hp;rw[h.state];exact EY hp.length hl
 unfold iU H7;rw[GK (show ¬(r.Events.length:Int)>=2000 by omega),BH,aPT AB ha.room Y,Ad];show(bif (0:Int) != 0 then _ else(jM (D9 r.Events e)).bind _)=_;rw[YZ,BH,aSt _ AB j.small j.dep,Ad];cases hd:Gw (D9 r.Events e) != 0 with
 |true=>rfl
 |false=>
  have q:Gw (D9 r.Events e)=0:=by simpa using hd
  rw[BH,BH,aLt c0 M h.deep,Ad];show((bif (J3 r.Events:Int)>0 then(lD (D9 r.Events e)).bind _ else _).bind _)=_;rw[aLt ha.prog' j q,Ad]
  have hx:(bif (J3 r.Events:Int)>0 then some (decide ((J3 (D9 r.Events e):Int)>(J3 r.Events:Int)))else some false)=some (decide (0<J3 r.Events)&&MO (D9 r.Events e) e):=by
   rw[ha.made q];by_cases hp:0<J3 r.Events
   ·rw[I4 (show(J3 r.Events:Int)>0 by omega),Bq,I4 hp,Gm];cases MO (D9 r.Events e) e with
    |true=>rw[Bq,I4 AB]
    |false=>rw[BH,GK AB]
   rw[GK (show ¬(J3 r.Events:Int)>0 by omega),BH,GK hp,wC]
  rw[hx,Ad];cases hc:(decide (0<J3 r.Events)&&MO (D9 r.Events e) e)with
  |true=>rfl
  |false=>
   have J:=alW ha.prog' (fun _=>j) e.Id;rw[dX q]at J;have z:=alx ha.prog' fun _=>j;rw[dX q]at z;rw[BH,BH];show(gJ (D9 r.Events e) e.Id).bind _=_;rw[J,Ad];obtain⟨y,hy⟩:=aCB ha.afo;have I:HY (Cx (D9 r.Events e)) e.Id=(y.err==0):=by unfold HY;rw[hy]
   have h2:(aEQ (Cx (D9 r.Events e)) e.Id).2=bif y.err != 0 then 2 else 4:=by unfold aEQ;rw[hy]
   have U:∀v,WL r (D9 r.Events e,0) v=some ({ TI r e with Rows:=r.Rows++[v] },0):=fun v=>by
    unfold WL;rw[aiX AB,Ad,Ep Ic,Ad];show(sB (D9 r.Events e)).bind _=_;rw[ajx ha.prog' j q,Ad];show(pU (D9 r.Events e)).bind _=_;rw[z,Ad]
    have hw:BA (({ r with Rows:=r.Rows++[v] }:CJ).Next+1)=r.Next+1:=by
     show BA (r.Next+1)=r.Next+1;exact Ld AB AB
    rw[hw];rfl
   have hm:∀n,RH r e=n->some ({ TI r e with Rows:=r.Rows++[(⟨r.Next,e.Id,n,false⟩:Ey)] },(0:Int))=some (TI r e,0):=fun n Z=>by
    subst Z;rfl
   rw[h2];cases L:y.err==0 with
   |false=>
    have u:RH r e=2:=by unfold RH;rw[I,L];rfl
    rw[show(y.err != 0)=true by simpa[bne]using L];show WL r (D9 r.Events e,0) _=_;rw[U];exact hm 2 u
   |true=>
    rw[show(y.err != 0)=false by simpa[bne]using L];show(dn r.Events r.State).bind _=_;rw[aP1 _ _ AB AB,Ad,aEK e _ (EY (aIP _ _) AB) (ab3 M.small _) hs,Ad];cases O:MF e (ND r.Events r.State)==0 with
    |true=>
     have u:RH r e=4:=by unfold RH;rw[I,L,O];rfl
     rw[show(MF e (ND r.Events r.State) != 0)=false by simpa[bne]using O];show WL r (D9 r.Events e,0) _=_;rw[U];exact hm 4 u
    |false=>
     have u:RH r e=3:=by unfold RH;rw[I,L,O];rfl
     rw[show(MF e (ND r.Events r.State) != 0)=true by simpa[bne]using O];show WL r (D9 r.Events e,0) _=_;rw[U];exact hm 3 u
def adK (j:A8 (A8 AO)) (hl:j.length<=1000) (h:∀x∈j,x.length<=1000):uU j=some j.flatten:=by
 have u:∀m:A8 (A8 AO),(∀x∈m,x.length<=1000)->m.flatten.length<=m.length*1000:=by
  intro m
  induction m with
  |nil=>exact fun _=>EW _
  |cons x m L=>
   intro hm;have z:=hm x (Fz ..);have I:=L fun y M=>hm y (Gp _ M);rw[List.flatten_cons,EP,GI];omega
 have q:∀{i:Nat} (hi:i<j.length),(j.take (i+1)).flatten=(j.take i).flatten++j[i]:=fun{i} hi=>by
  rw[Td hi,List.flatten_append];simp
 have hlen:∀i,(j.take i).flatten.length<=1000000:=fun i=>by
  have z:=u (j.take i) fun x O=>h x (kQ O);rw[IB]at z;omega
 unfold uU aRO;refine dU.eq (MJ j.length (fuel_lt AB) (fun i a=>a=((j.take i).flatten.length:Int)) rfl (fun i a k hi ha J=>?_) fun a k ha=>?_)
 ·have z:=hlen (i+1);have I:=Bo List.length (q hi);rw[EP]at I;unfold aAw;rw[DV hi,ha,Ld AB AB,GK AB,BH,wrap_succ i AB];exact J _ (by rw[I];omega)
 have z:=hlen j.length
 have U:SPr a=some []:=by
  unfold SPr aEj;rw[D8 ⟨AB,AB⟩]
 unfold aAw;rw[ER,BH,U,Ad];unfold aMd;refine MJ j.length (fuel_lt AB) (fun i a=>a=(j.take i).flatten) rfl (fun i a k hi ha J=>?_) fun a k ha=>?_
 ·have z:=hlen (i+1);have I:=Bo List.length (q hi);rw[EP]at I;unfold aDA;rw[DV hi,ha,Ep AB,Ad,wrap_succ i AB];exact J _ (q hi).symm
 unfold aDA;rw[ER,BH,ha,J7];exact .ret rfl
def aOb :∀(l:A8 AO) (j:Nat) (z:j<l.length),(l.map (·.Id)).Nodup->l.take j++l.drop (j+1)=IW l l[j].Id
 | [],j,z,_=>absurd z (V8 _)
 |x::l,0,_,q=>by
  rw[Gv,Iq]at q;unfold IW
  have L:l.filter (fun y=>y.Id != x.Id)=l:=dV.2 fun y M=>by
   have :y.Id≠x.Id:=fun e=>q.1 (Ea.2 ⟨y,M,e⟩);simpa using this
  show l=(x::l).filter fun y=>y.Id != x.Id;rw[List.filter_cons_of_neg BR,L]
 |x::l,j+1,z,q=>by
  rw[Gv,Iq]at q;have u:j<l.length:=KW
  have J:=aOb l j u q.2;have I:x.Id≠l[j].Id:=fun e=>q.1 (Ea.2 ⟨l[j],E5 u,e.symm⟩);unfold IW at J ⊢;show x::(l.take j++l.drop (j+1))=(x::l).filter fun y=>y.Id != l[j].Id;rw[List.filter_cons_of_pos SA,J]
def adw {l w:A8 AO} {i:Nat} (h:i<w.length):(w.take (i+1)).foldl (Iu l) none=Iu l ((w.take i).foldl (Iu l) none) w[i]:=by
 rw[Td h,bQ];rfl
def aeO {l:A8 AO} {b:AL AO} {e:AO} (j:G5 l e=true) (q:XK b e=true):Iu l b e=some e:=by unfold Iu;rw[j,q];rfl
def abv {l:A8 AO} {b:AL AO} {e:AO} (j:XK b e=false):Iu l b e=b:=by unfold Iu;rw[j,Bool.and_false];rfl
def apA {l:A8 AO} {b:AL AO} {e:AO} (j:G5 l e=false):Iu l b e=b:=by unfold Iu;rw[j,wC];rfl
def adu {r:CJ} (q:r.Waiting.length<=0) (k3:CJ->CJ->AL CJ) (v2:CJ):jh r k3 v2 (-1) 0=some r:=by
 have j:r.Waiting=[]:=Gy AB;unfold jh;refine dU.eq (MJ 0 (fuel_lt AB) (fun _ a=>a= -1) rfl (fun i a k hi=>absurd hi (V8 _)) fun a k ha=>?_);unfold aAl;rw[j,ha,GK (show ¬((0:Nat):Int)<(([]:A8 AO).length:Int) by simp),BH,I4 (show(-1:Int)<0 by omega),Bq];exact .ret rfl
def aep {n:Nat} {k3:CJ->CJ->AL CJ} {v2:CJ} (ih:∀{r:CJ},IY r->r.Waiting.length<=n->r.Events.length+n<=50->k3 r v2=some (IK n r)) {r:CJ} (h:IY r) (hw:r.Waiting.length<=n+1) (hl:r.Events.length+(n+1)<=50):jh r k3 v2 (-1) 0=some (IK (n+1) r):=by
 have hsm:∀e∈r.Waiting,EU e:=fun e he=>(h.vZ.ev e he).2;unfold jh;refine dU.eq (MJ r.Waiting.length (fuel_lt AB) (fun i a=>((r.Waiting.take i).foldl (Iu r.Events) none=none/\a= -1)\/∃j,∃M:j<r.Waiting.length,a=(j:Int)/\(r.Waiting.take i).foldl (Iu r.Events) none=some r.Waiting[j]) (.inl ⟨rfl,rfl⟩) (fun i a k hi ha hk=>?_) fun a k ha=>?_)
 ·have hb:=adw (l:=r.Events) hi;unfold aAl;rw[DV hi,ready_eq _ _ AB (hsm _ (E5 hi)),Ad];cases O:G5 r.Events r.Waiting[i]with
  |false=>
   have hp:(r.Waiting.take (i+1)).foldl (Iu r.Events) none=(r.Waiting.take i).foldl (Iu r.Events) none:=by
    rw[hb,apA O]
   rw[Ko,Bq];unfold ql;rw[wrap_succ i AB];exact hk a (by rw[hp];exact ha)
  |true=>
   have z:XK ((r.Waiting.take i).foldl (Iu r.Events) none) r.Waiting[i]=true->dU (aF k (i:Int) a true) fun x=>x=IK (n+1) r:=fun q=>by
    show dU (k (i:Int) (BA ((i:Int)+1))) _;rw[wrap_succ i AB];exact hk _ (.inr ⟨i,hi,rfl,by rw[hb,aeO O q]⟩)
   have I:XK ((r.Waiting.take i).foldl (Iu r.Events) none) r.Waiting[i]=false->dU (aF k (i:Int) a false) fun x=>x=IK (n+1) r:=fun q=>by
    show dU (k a (BA ((i:Int)+1))) _;rw[wrap_succ i AB];exact hk _ (by rw[hb,abv q];exact ha)
   rw[F6,BH];rcases ha with⟨u,J⟩|⟨j,M,J,u⟩
   ·rw[J,I4 (show(-1:Int)<0 by decide),Bq,←J];exact z (by rw[u];rfl)
   have q:XK ((r.Waiting.take i).foldl (Iu r.Events) none) r.Waiting[i]=Qd r.Waiting[i] r.Waiting[j]:=by rw[u];rfl
   unfold Qd at q;rw[J,GK (show ¬(j:Int)<0 by omega),BH,Dn M,Ad];cases c1:decide (r.Waiting[i].Depth<r.Waiting[j].Depth)with
   |true=>
    rw[c1,zi]at q;rw[Bq,←J];exact z q
   |false=>
    rw[c1,NI]at q;rw[BH,Ad];cases c2:r.Waiting[i].Depth==r.Waiting[j].Depth with
    |false=>
     rw[c2,wC]at q;rw[BH,←J];exact I q
    |true=>
     rw[c2,Gm]at q;rw[Bq,Ad,←J];cases c3:decide (r.Waiting[i].Id<r.Waiting[j].Id)with
     |true=>rw[c3]at q;exact z q
     |false=>rw[c3]at q;exact I q
 rw[J7]at ha;unfold aAl;rw[ER,BH];rcases ha with⟨u,J⟩|⟨j,M,J,u⟩
 ·have u:XF r.Events r.Waiting=none:=u;rw[J,I4 (show(-1:Int)<0 by decide),Bq];refine .ret ?_;unfold IK;rw[u]
 have u:XF r.Events r.Waiting=some r.Waiting[j]:=u;obtain⟨L,b2⟩:=aKs u;have hd:=h.drop AB r.Waiting[j].Id;have hdl:=aHE L;have U:=h.vZ.ev _ L;have hv:=l7 h.aan AB _ L;have Y:=aO6 hd (show r.Events.length<=50 by omega) hv U.2 (h.UM _ L) (h.UN _ L)
 have hg1:KQ r.Waiting 0 (j:Int)=some (r.Waiting.take j):=by
  show KQ r.Waiting ((0:Nat):Int) (j:Int)=_;rw[kW (l:=r.Waiting) (lo:=0) (hi:=j) AB AB];simp
 have hg2:KQ r.Waiting (((j+1:Nat)):Int) (r.Waiting.length:Int)=some (r.Waiting.drop (j+1)):=by
  rw[kW (l:=r.Waiting) (lo:=j+1) (hi:=r.Waiting.length) AB (EW _),Qs (by rw[Ji];omega)]
 have Z:=adK [r.Waiting.take j,r.Waiting.drop (j+1)] BR (by
  intro x hx;rcases EZ.1 hx with rfl|hx
  ·rw[IB];omega
  rw[Ih.1 hx,Ji];omega)
 have hfl:[r.Waiting.take j,r.Waiting.drop (j+1)].flatten=IW r.Waiting r.Waiting[j].Id:=by
  rw[←aOb r.Waiting j M (UC h.vZ.inc)];simp
 rw[hfl]at Z;rw[J,GK (show ¬(j:Int)<0 by omega),BH,Dn M,Ad,hg1,Ad,wrap_succ j AB,hg2,Ad,Z,Ad,Y,Ad]
 have hres:IK (n+1) r=IK n (H7 { r with Waiting:=IW r.Waiting r.Waiting[j].Id } r.Waiting[j]).1:=by
  show(match XF r.Events r.Waiting with
   |none=>r
   |some e=>IK n (H7 { r with Waiting:=IW r.Waiting e.Id } e).1)=_
  rw[u]
 rw[hres];refine .of ?_;rcases cu { r with Waiting:=IW r.Waiting r.Waiting[j].Id } r.Waiting[j]with⟨q1,_⟩|⟨q1,q2,q3⟩
 ·rw[q1];exact ih hd (show(IW r.Waiting r.Waiting[j].Id).length<=n by omega) (show r.Events.length+n<=50 by omega)
 rw[q1]
 have hm:=hd.more (e:=r.Waiting[j]) (show r.Events.length<=50 by omega) hv U.2 (h.UM _ L) (h.UN _ L) (fun x hx=>by
  have :=(Fa.1 hx).2
  simpa using this) b2 q2 q3
 exact ih hm (show(IW r.Waiting r.Waiting[j].Id).length<=n by omega) (show(D9 r.Events r.Waiting[j]).length+n<=50 by rw[QG];omega)
def aR1 :∀(n:Nat) (r:CJ),(IK n r).Events.length<=r.Events.length+n
 |0,r=>EW _
 |n+1,r=>by
  unfold IK;cases XF r.Events r.Waiting with
  |none=>exact Nat.le_add_right _ _
  |some e=>
   show(IK n (H7 { r with Waiting:=IW r.Waiting e.Id } e).1).Events.length<=_;have j:=aR1 n (H7 { r with Waiting:=IW r.Waiting e.Id } e).1
   have q:(H7 { r with Waiting:=IW r.Waiting e.Id } e).1.Events.length<=r.Events.length+1:=by
    rcases cu { r with Waiting:=IW r.Waiting e.Id } e with⟨q1,_⟩|⟨q1,_⟩
    ·rw[q1];exact aDp _
    rw[q1];show(D9 r.Events e).length<=_;rw[QG];omega
   omega
def abw {A B R:Type} (body:(A->B->AL R)->A->B->AL R) (n:Nat) (a:A) (b:B):aU body (n+1) a b=body (aU body n) a b:=rfl
def aeX (k3:CJ->CJ->AL CJ) (r v2:CJ):wO k3 r v2=jh r k3 v2 (-1) 0:=rfl
def aoK (v2:CJ):∀(m n:Nat),n<m->∀(r:CJ),IY r->r.Waiting.length<=n->r.Events.length+n<=50->aU wO m r v2=some (IK n r):=by
 intro m
 induction m with
 |zero=>exact fun n hm=>absurd hm (V8 _)
 |succ m q=>
  intro n hm r h j hl;rw[abw,aeX];cases n with
  |zero=>exact adu j (aU wO m) v2
  |succ n=>exact aep (k3:=aU wO m) (v2:=v2) (fun{r} u z I=>q n AB r u z I) h j hl
def amJ {r:CJ} (h:IY r) (hl:r.Events.length+r.Waiting.length<=50):pI r=some (IK r.Waiting.length r):=by
 unfold pI aLY;exact aoK Ia Aw r.Waiting.length (fuel_lt AB) r h (EW _) hl
def aTq (r:CJ) (id:Int):∀(n:Nat) (a:Int) (b:Ey),aU (U8 r id) n a b=bI (fun k i=>U8 r id (fun j _=>k j) i OA) n a
 |0,_,_=>rfl
 |n+1,a,b=>by
  have q:aU (U8 r id) n=fun j _=>bI (fun k i=>U8 r id (fun j _=>k j) i OA) n j:=funext fun a=>funext fun b=>aTq r id n a b;show U8 r id (aU (U8 r id) n) a b=U8 r id (fun j _=>bI (fun k i=>U8 r id (fun j _=>k j) i OA) n j) a OA;rw[q];rfl
def UF (r:CJ) (id:Int):Ey×AQ:=match YI r id with
 |some x=>(x,true)
 |none=>(OA,false)
def aBg (r:CJ) (id:Int) (hl:r.Rows.length<=1000000):YW r id=some (UF r id):=by
 unfold YW aPH;rw[aTq,SG r.Rows (fuel_lt AB) (fun x=>x.Id==id) (fun i=>match r.Rows[i]? with |some x=>some (x,true)|none=>none) (some (OA,false))]
 ·unfold UF YI;rw[Q7];by_cases h:r.Rows.findIdx (fun x=>x.Id==id)<r.Rows.length
  ·rw[D8 h,E9 h]
  rw[DU h,LD AB]
 ·intro k i h;unfold U8;rw[DV h,E9 h]
 intro k;unfold U8;rw[ER,BH]
def aN1 (r:CJ) (id:Int):(UF r id).1.Status=aCe r id:=by
 unfold UF aCe YI;cases r.Rows.find? fun x=>x.Id==id<;>rfl
def aN7 {r:CJ} {e z:AO} {v:Int} (h:TT e=some (z,v)) (j:v≠0):dw r e=some (r,0,v):=by
 unfold dw;rw[h,Ad];show(bif v != 0 then _ else _)=_;rw[show(v != 0)=true by simpa using j];rfl
def afx {r:CJ} (h:IY r) (hl:r.Events.length+r.Waiting.length<=48) {e x:AO} (u:aAA r x) (he:TT e=some (x,0)):dw r e=some (LU r x):=by
 have ho:=h.facts.ok AB;have hrl:=h.KJ;have M:∀y∈r.Events,EU y:=ho.small;have O:∀y∈r.Waiting,EU y:=fun y z=>(h.vZ.ev y z).2;unfold dw LU;rw[he,Ad];show(bif (0:Int) != 0 then _ else(bif (!(x.Room.toList==r.Id.toList))then _ else(Kt r.Events x.Id).bind _))=_;rw[YZ,BH,show(x.Room.toList==r.Id.toList)=decide (x.Room=r.Id)from PX];cases j:decide (x.Room=r.Id)with
 |false=>rfl
 |true=>
 have j:=QV j;have U:∀y∈r.Events,y.Room=x.Room:=fun y z=>by rw[h.own y z,j]
 have J:∀y∈r.Waiting,y.Room=x.Room:=fun y z=>by rw[h.UM y z,j]
 rw[F6,BH,BH,Ns r.Events _ AB,Ad,Uf];show(bif bK r.Events x.Id then _ else _)=_;cases Y:bK r.Events x.Id with
 |true=>
  rw[Bq,Bq];show(YW r x.Id).bind _=_;rw[aBg r _ AB,Ad];show(Ub r.Events x).bind _=_;rw[aM3 AB U Y M u.small,Ad];show some ({ r with Events:=Oe r.Events x },(UF r x.Id).1.Status,(0:Int))=_;rw[aN1]
 |false=>
 rw[BH,BH];show(Kt r.Waiting x.Id).bind _=_;rw[Ns r.Waiting _ AB,Ad,Uf];rw[show(ET r.Waiting x.Id).isSome=bK r.Waiting x.Id from rfl];show((bif (!bK r.Waiting x.Id)then(eM r.Events x).bind fun I=>some I else some false).bind _)=_;rw[ready_eq _ _ AB u.small];have hx:(bif (!bK r.Waiting x.Id)then(some (G5 r.Events x)).bind fun I=>some I else some false)=some (!bK r.Waiting x.Id&&G5 r.Events x):=by cases bK r.Waiting x.Id<;>rfl
 rw[hx,Ad];cases Z:(!bK r.Waiting x.Id&&G5 r.Events x)with
 |true=>
  rw[D5]at Z;have q:bK r.Waiting x.Id=false:=by simpa using Z.1
  rw[Bq,Bq];show(iU r x).bind _=_;rw[aO6 h AB u.ver u.small j Y,Ad];rcases cu r x with⟨q1,q2⟩|⟨q1,q2,q3⟩
  ·rw[show((H7 r x).2 != 0)=true by simpa using q2];rfl
  have hm:=h.more AB u.ver u.small j Y (fun y z hyx=>by
   have :=Fe.2 (Ea.2 ⟨y,z,hyx⟩)
   rw[q]at this;cases this) Z.2 q2 q3
  have L:(D9 r.Events x).length+r.Waiting.length<=50:=by rw[QG];omega
  have hs:=amJ hm L;have hg:=aDP r.Waiting.length hm (EW _) L
  have hgl:(IK r.Waiting.length (TI r x)).Rows.length<=1000000:=by
   have h1:=hg.1.KJ;have h2:=aR1 r.Waiting.length (TI r x);have h3:(TI r x).Events.length=r.Events.length+1:=QG _ _;omega
  rw[q1];show(bif (0:Int) != 0 then _ else(pI (TI r x)).bind _)=_;rw[YZ,BH,hs,Ad];show(YW (IK r.Waiting.length (TI r x)) x.Id).bind _=_;rw[aBg _ _ hgl,Ad,aN1];rfl
 |false=>
 rw[BH,BH]
 have hx2:(bif (!bK r.Waiting x.Id)then some (decide ((r.Waiting.length:Int)>=200))else some false)=some (!bK r.Waiting x.Id&&(200<=r.Waiting.length)):=by
  have :decide ((r.Waiting.length:Int)>=200)=decide (200<=r.Waiting.length):=by
   by_cases h:200<=r.Waiting.length
   ·rw[I4 h,I4 AB]
   rw[GK h,GK AB]
  rw[this];cases bK r.Waiting x.Id<;>rfl
 rw[hx2,Ad];cases hfull:(!bK r.Waiting x.Id&&(200<=r.Waiting.length))with
 |true=>rfl
 |false=>
 rw[BH,BH];show(Ub r.Waiting x).bind _=_;cases q:bK r.Waiting x.Id with
 |true=>
  rw[aM3 AB J q O u.small];rfl
 |false=>
  rw[aPT AB J q];rfl
end
section
set_option maxRecDepth 20000
set_option maxHeartbeats 1000000
def aky (l:A8 AO):dU (aBb l 10) (fun b=>b=false->l.length<=10/\∀e∈l,EU e):=by
 have O:Aw=9223372036854775808:=rfl;unfold aBb;refine dU.bif (fun _=>.ret fun h=>Gz) fun I=>?_;have I:=Nv I;unfold aNs;refine qL l.length AB (fun i=>∀j,(q:j<i)->(hl:j<l.length)->EU l[j]) (fun j q=>AB) ?_ ?_
 ·intro i k hi u J;unfold aF0;rw[DV hi,wrap_succ i AB];refine(agp l[i]).bind fun b L=>dU.bif (fun _=>.ret fun h=>Gz) fun e=>J fun j q z=>?_;by_cases M:j=i
  ·subst M;exact L e
  exact u j AB z
 intro k u;unfold aF0;rw[En];exact .ret fun _=>⟨AB,aKx fun j q=>u j q q⟩
def aFW {e:AO} (j:EU e):∃y v,TT e=some (y,v)/\(v=0->JG y=some 0/\EU y/\FD e y):=by
 have q:∀x,EU x->FD e x->∃y v,qw x=some (y,v)/\(v=0->JG y=some 0/\EU y/\FD e y):=fun x u hs=>by
  obtain⟨c,I,J,M⟩:=wX u.wide;unfold qw;rw[I,Ad];cases z:c != 0 with
  |true=>exact⟨_,_,rfl,fun h=>by subst h;cases z⟩
  |false=>
   have L:c=0:=KW
   exact⟨_,_,rfl,fun _=>⟨by rw[J,L],u,hs⟩⟩
 unfold TT;rw[(bD j.x).1,Ad];cases YG e==e.Hash with
 |true=>exact q e j (.refl e)
 |false=>
  rw[Ko,Bq,(aLI j.x).1,Ad];exact q _ (aLh j) (ajV e)
def acj {a b:AO} (ha:EU a):∃r,Zd a b=some r:=by
 have j:=ha.prev;have q:=ha.auth;unfold Zd;rw[aEo _ _ AB,aEo _ _ AB,aJH _ ha.content];simp only[KA,Ad,Ut];exact⟨_,rfl⟩
def acT {a b:AO} (ha:EU a) (z:EU b):dU (aBX a b) (fun t=>t=false->FD a b):=by
 have hp:=ha.prev;have u:=ha.auth;obtain⟨r,I,j⟩:=amn (a:=a) (b:=b) (aLh ha).content AB AB;obtain⟨q,u⟩:=acj (b:=b) ha;unfold aBX;rw[aPN,aPN,Ad,Ad,I,Ad];cases r with
 |false=>exact .ret fun h=>Gz
 |true=>
  rw[F6,BH,(bD ha.x).2,Ad];refine dU.bif (fun _=>?_) fun _=>.ret fun _=>(j rfl).2;rw[(bD z.x).2,Ad];refine dU.bif (fun _=>?_) fun _=>.ret fun _=>(j rfl).2;rw[u,Ad];exact .ret fun _=>(j rfl).2
def Rj (x y:AO):Prop:=x.Room=y.Room/\(x.Id=y.Id->FD x y)/\(x.Kind=1->y.Kind=1->x.Id=y.Id)
def apG {l:A8 AO} (hl:l.length<=100) (hs:∀e∈l,EU e):dU (zO l) (fun b=>b=true->∀i k (hi:i<l.length) (q:k<i),Rj l[i] l[k]):=by
 unfold zO aSS;refine qL l.length (fuel_lt AB) (fun n=>∀i k (hi:i<l.length) (q:k<i),i<n->Rj l[i] l[k]) (fun i k hi q h=>absurd h (V8 _)) (fun i f hi Y hf=>?_) fun f Y=>?_
 ·unfold aFZ;rw[dec_lt hi,Bq];unfold aNv;refine qL i (fuel_lt AB) (fun n=>∀k (q:k<i),k<n->Rj l[i] l[k]) (fun k q h=>absurd h (V8 _)) (fun j g hj Z hg=>?_) fun g Z=>?_
  ·have O:j<l.length:=AB
   have z:dU (OO g (j:Int) true) (fun b=>b=true->∀i k (hi:i<l.length) (q:k<i),Rj l[i] l[k]):=by
    unfold OO;exact .ret fun h=>Gz
   have L:Rj l[i] l[j]->dU (OO g (j:Int) false) (fun b=>b=true->∀i k (hi:i<l.length) (q:k<i),Rj l[i] l[k]):=fun hP=>by
    unfold OO;rw[BH,wrap_succ j AB];refine hg fun k q hkj=>?_;by_cases e:k=j
    ·subst e;exact hP
    exact Z k q AB
   unfold aIM;rw[dec_lt hj,Bq,Dn hi,Dn O];simp only[Ad];refine dU.bif (fun _=>z) fun c1=>?_;have u:l[i].Room=l[j].Room:=toList_inj (by simpa using c1)
   have I:(l[i].Id=l[j].Id->FD l[i] l[j])->dU (bif l[i].Id != l[j].Id then bif l[i].Kind==1 then OO g (j:Int) (l[j].Kind==1)else OO g (j:Int) false else OO g (j:Int) false) (fun b=>b=true->∀i k (hi:i<l.length) (q:k<i),Rj l[i] l[k]):=fun J=>by
    refine dU.bif (fun M=>dU.bif (fun U=>?_) fun U=>L ⟨u,J,fun h=>by rw[h]at U;cases U⟩) fun M=>L ⟨u,J,fun _ _=>jy⟩;cases c4:l[j].Kind==1 with
    |true=>exact z
    |false=>exact L ⟨u,J,fun _ h=>by rw[h]at c4;cases c4⟩
   refine dU.bif (fun M=>?_) fun M=>I fun h=>by rw[h]at M;simp at M
   exact(acT (hs _ (E5 hi)) (hs _ (E5 O))).bind fun t ht=>dU.bif (fun _=>z) fun U=>I fun _=>ht U
  unfold aIM;rw[GK (show ¬(i:Int)<(i:Int) by omega),BH,wrap_succ i AB];refine hf fun a k ha q hai=>?_;by_cases e:a=i
  ·subst e;exact Z k q q
  exact Y a k ha q AB
 unfold aFZ;rw[ER,BH];exact .ret fun _ i k hi q=>Y i k hi q hi
def akv {l:A8 AO} (h:∀i k (hi:i<l.length) (q:k<i),Rj l[i] l[k]):∀x∈l,∀y∈l,Rj x y:=fun x u y z=>by
 obtain⟨i,hi,rfl⟩:=Gf u;obtain⟨k,q,rfl⟩:=Gf z;rcases lH i k with j|j|j
 ·obtain⟨a,b,c⟩:=h k i q j;exact⟨a.symm,fun e=>(b e.symm).symm,fun I J=>(c J I).symm⟩
 ·subst j;exact⟨rfl,fun _=>.refl _,fun _ _=>rfl⟩
 exact h i k hi j
def Qp (e:AO):AL AO:=match TT e with
 |some (y,v)=>bif v==0 then some y else none
 |none=>none
def aTd {e y:AO} (h:TT e=some (y,0)):Qp e=some y:=by unfold Qp;rw[h];rfl
def aS7 {e y:AO}:Qp e=some y↔TT e=some (y,0):=by
 refine⟨fun h=>?_,aTd⟩;unfold Qp at h;cases q:TT e with
 |none=>rw[q]at h;cases h
 |some p=>
  obtain⟨z,v⟩:=p;rw[q]at h;have h:(bif v==0 then some z else none)=some y:=h;cases j:v==0 with
  |false=>rw[j]at h;cases h
  |true=>
   rw[j]at h;rw[eq_of_beq j,Ch h]
def aMU {l:A8 AO} (hs:∀e∈l,EU e) (U:∀x∈l,∀y∈l,Rj x y) {id:BI} (u:∀e∈l,e.Room=id):VN (l.filterMap Qp) id:=by
 have key:∀y∈l.filterMap Qp,∃e∈l,JG y=some 0/\EU y/\FD e y:=fun y j=>by
  obtain⟨e,q,h⟩:=QW.1 j;obtain⟨z,v,I,J⟩:=aFW (hs e q);rw[aS7,I]at h;obtain⟨rfl,rfl⟩:=Prod.mk.inj (Ch h);exact⟨e,q,J rfl⟩
 refine⟨fun y j=>(key y j).elim fun e h=>h.2.1,fun y j=>(key y j).elim fun e h=>h.2.2.1,fun y j=>?_,fun y j z L M=>?_,fun y j z L I J=>?_⟩
 ·obtain⟨e,q,_,_,h⟩:=key y j;rw[h.room];exact u e q
 ·obtain⟨e,q,_,_,h⟩:=key y j;obtain⟨f,O,_,_,g⟩:=key z L;exact h.symm.trans (((U e q f O).2.1 (by rw[←h.id,←g.id];exact M)).trans g)
 obtain⟨e,q,_,_,h⟩:=key y j;obtain⟨f,O,_,_,g⟩:=key z L;rw[h.id,g.id];exact(U e q f O).2.2 (by rw[←h.kind];exact I) (by rw[←g.kind];exact J)
def aoz {X S:A8 AO} {r:CJ} {id:BI} (u:VN X id) (h:JU X S r) {x:AO} (I:x∈X):aAA r x:=
 ⟨u.ver x I,u.small x I,fun y J q=>by
  obtain⟨z,L,j⟩:=h.ev y J;exact j.symm.trans (u.sim z L x I (by rw[←j.id,q])),fun y J q=>by
  obtain⟨z,L,j⟩:=h.Zy y J
  exact j.symm.trans (u.sim z L x I (by rw[←j.id,q]))⟩
def ac3 {id:BI} (j:MC id=0) (X:A8 AO):JU X [] { Ia with Id:=id }/\TB { Ia with Id:=id }:=by
 have q:Md []:=⟨fun _ h=>absurd h Ez,fun _ h=>absurd h Ez,.nil⟩
 refine⟨⟨⟨j,rfl,q,fun _ h=>absurd h Ez,rfl,rfl,rfl,Ec _,fun i h=>absurd h (V8 _),Wu,fun _ h=>absurd h Ez,fun i h=>absurd h (V8 _),fun _ h=>absurd h Ez,rfl,q,fun _ h=>absurd h Ez,fun _ h=>absurd h Ez,Ec _,rfl,(aIC []).symm⟩,
  fun _ h=>absurd h Ez,fun _ h=>absurd h Ez,fun _ h=>absurd h Ez⟩,fun _ h=>absurd h Ez⟩
def aQa {l m:A8 AO} (hl:l.length<=20) (hm:m.length<=20) (h0:m≠[]) (hs:∀e∈l,EU e) (hF:∀x∈l,∀y∈l,Rj x y) {id:BI} (O:∀e∈l,e.Room=id) (u:∀e∈m,e∈l) (hlm:∀e∈l,e∈m):
 dU (nJ m) (fun a=>(MC id≠0/\a=Ia)\/(JU (l.filterMap Qp) (l.filterMap Qp) a/\a.Id=id/\a.Events.length<=20/\MC id=0)):=by
 have hX:=aMU hs hF O;have I:0<m.length:=gZ.2 h0;have q:m[0].Room=id:=O _ (u _ (E5 I))
 have hne:((m.length:Int)==0)=false:=by
  cases hq:(m.length:Int)==0 with
  |false=>rfl
  |true=>have :=eq_of_beq hq;omega
 have hw:∀y∈l.filterMap Qp,y.Room=id:=hX.room;have hsz:id.size<=2000:=by rw[←q];exact(hs _ (u _ (E5 I))).room
 unfold nJ;rw[hne,BH,show BF m 0=some m[0]from Dn I,Ad,q];unfold aJq;rw[(lV (s:=id) AB).1,Ad];cases M:MC id != 0 with
 |true=>
  have J:MC id≠0:=jy
  rw[Bq,Ad];unfold aIJ;refine X3 (body:=Zx m) (fun n a b=>∃i:Nat,a=i/\i+n=m.length/\b=Ia) ?_ Aw m.length 0 Ia (fuel_lt AB) ⟨0,rfl,AB,rfl⟩;rintro n a b k ⟨i,rfl,hn,rfl⟩ hk;by_cases hi:i<m.length
  ·obtain⟨y,v,U,h2⟩:=aFW (hs _ (u _ (E5 hi)))
   have Z:v≠0:=fun h=>by
    obtain⟨g1,g2,g3⟩:=h2 h;have :=(aCt g2 g1).room;rw[g3.room,O _ (u _ (E5 hi))]at this;exact J (by unfold MC;rw[this];rfl)
   unfold Zx;rw[DV hi,aN7 U Z,Ad,wrap_succ i AB];exact hk (n-1) _ _ AB ⟨i+1,rfl,AB,rfl⟩
  have :i=m.length:=AB
  subst this;unfold Zx;rw[ER,BH];exact .ret (.inl ⟨J,rfl⟩)
 |false=>
  have L:MC id=0:=jy
  rw[BH,Ad];unfold aIJ;obtain⟨n1,n2⟩:=ac3 L (l.filterMap Qp);refine X3 (body:=Zx m) (fun n a b=>∃i:Nat,a=i/\i+n=m.length/\∃S,(∀x∈S,x∈l.filterMap Qp)/\JU (l.filterMap Qp) S b/\b.Id=id/\TB b/\b.Events.length+b.Waiting.length<=i/\∀e∈m.take i,∀y,TT e=some (y,0)->y∈S) ?_ Aw m.length 0 { Ia with Id:=id } (fuel_lt AB) ⟨0,rfl,AB,[],fun _ h=>absurd h Ez,n1,rfl,n2,EW _,fun _ h=>absurd h Ez⟩;rintro n a b k ⟨i,rfl,hn,S,s1,s2,s3,s4,s5,s6⟩ hk;by_cases hi:i<m.length
  ·have hel:=u _ (E5 hi);obtain⟨y,v,U,h2⟩:=aFW (hs _ hel)
   have htk:∀e∈m.take (i+1),e∈m.take i\/e=m[i]:=fun e j=>by
    rw[Td hi]at j;rcases Gx.1 j with j|j
    ·exact .inl j
    exact .inr (Ih.1 j)
   unfold Zx;rw[DV hi];by_cases Z:v=0
   ·subst Z;have hy:y∈l.filterMap Qp:=QW.2 ⟨_,hel,aTd U⟩;obtain⟨t1,t2,t3,t4⟩:=abq hX s1 s2 s3 s4 AB hy;have hi2:i<20:=AB
    rw[afx s2.ok (EY s5 AB) (aoz hX s2 hy) U,Ad,wrap_succ i AB];refine hk (n-1) _ _ AB ⟨i+1,rfl,AB,y::S,fun x hx=>?_,t1,t2,t3,EY t4 (Nat.add_le_add_right s5 1),fun e j z Y=>?_⟩
    ·rcases EZ.1 hx with rfl|hx
     ·exact hy
     exact s1 x hx
    rcases htk e j with j|rfl
    ·exact Gp _ (s6 e j z Y)
    rw[U]at Y;rw[(Prod.mk.inj (Ch Y)).1];exact Fz ..
   rw[aN7 U Z,Ad,wrap_succ i AB];refine hk (n-1) _ _ AB ⟨i+1,rfl,AB,S,s1,s2,s3,s4,Nat.le_succ_of_le s5,fun e j z Y=>?_⟩;rcases htk e j with j|rfl
   ·exact s6 e j z Y
   rw[U]at Y;exact absurd (Prod.mk.inj (Ch Y)).2 Z
  have :i=m.length:=AB
  subst this;unfold Zx;rw[ER,BH];refine .ret (.inr ⟨s2.mono fun x hx=>?_,s3,AB,L⟩);obtain⟨e,j,h⟩:=QW.1 hx;exact s6 e (by rw[J7];exact hlm e j) x (aS7.1 h)
end
end Go.Proofs.YtfmoknlmaldmlaaGreat
