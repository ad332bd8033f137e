/- Part 7 of the laws' proofs (short forms by wip/shrink2.py). -/
import Derived.Test.YtfmoknlmaldmlaaGreatDa6
set_option linter.defProp false
set_option linter.unnecessarySimpa false
set_option linter.unusedSectionVars false
set_option linter.unusedVariables false
set_option linter.unusedSimpArgs false
namespace Go.Proofs.YtfmoknlmaldmlaaGreat
open Go.RowKit Go.Proofs.Tryz
section
set_option maxRecDepth 20000
set_option maxHeartbeats 1000000
structure ng (r s:CJ):Prop where
 id:s.Id=r.Id
 ids:s.Events.map (·.Id)=r.Events.map (·.Id)
 ver:∀x∈r.Events.map (·.Id),XJ s x=XJ r x
 state:s.State=r.State
structure aHF (r:CJ):Prop where
 id:r.Id.size<=2000
 events:r.Events.length<=100
 rows:r.Rows.length<=1000
 state:r.State.length<=1000
 keys:∀x∈r.State,x.Key.size<=2000
def akf {r:CJ} (h:r.Rows.length<=1000) (id:Int):∃v,XJ r id=some v:=by
 unfold XJ;rw[aBg r id AB,Ad];cases(!(UF r id).2)with
 |true=>exact⟨_,rfl⟩
 |false=>
  rw[BH];cases(UF r id).1.Status==3 with
  |true=>exact⟨_,rfl⟩
  |false=>
   rw[BH];cases(UF r id).1.Status==4<;>exact⟨_,rfl⟩
def aga {r:CJ} (h:aHF r):∃n,PZ r=some n:=by
 have u:=h.keys;have h1:=h.events;have h2:=h.state;have z:=h.id
 have key:dU (PZ r) (fun _=>True):=by
  unfold PZ;refine(aOg (b:=[]) (k:=0) (EW _) AB 2000 z AB).bind fun b1 g1=>?_;refine(kN (k:=2010) AB AB _).bind fun b2 I=>?_;unfold aJu;refine MJ r.Events.length (fuel_lt AB) (fun i b=>b.length<=2020+20*i) I (fun i b k hi q j=>?_) fun b k q=>?_
  ·unfold jF;rw[DV hi];refine(kN (k:=2020+20*i) q AB _).bind fun b3 J=>?_;obtain⟨v,L⟩:=akf h.rows r.Events[i].Id;rw[L,Ad];refine(kN (k:=2020+20*i+10) J AB _).bind fun M g4=>?_;rw[wrap_succ i AB];exact j M AB
  unfold jF;rw[ER,BH];refine(kN (k:=2020+20*r.Events.length) q AB _).bind fun b5 g5=>?_;unfold wM;refine MJ r.State.length (fuel_lt AB) (fun i b=>b.length<=10000+3000*i) AB (fun i b k hi q j=>?_) fun b k q=>?_
  ·unfold lZ;rw[DV hi];refine(kN (k:=10000+3000*i) q AB _).bind fun b6 O=>?_;refine(aOg (k:=10000+3000*i+10) O AB 2000 (u _ (E5 hi)) AB).bind fun b7 U=>?_;refine(kN (k:=10000+3000*i+10+2000+10) U AB _).bind fun Y g8=>?_;rw[wrap_succ i AB];exact j Y AB
  unfold lZ;rw[ER,BH];exact(akB b AB).bind fun x _=>.ret trivial
 obtain⟨n,Z,_⟩:=key;exact⟨n,Z⟩
def alU {α β R:Type} {f:α->β} {l m:A8 α} (h:l.map f=m.map f) (g z:α->AL R) (v:Int) (J:∀x∈l,∀y∈m,f x=f y->g x=z y):(BF l v).bind g=(BF m v).bind z:=by
 unfold BF;have hl:l.length=m.length:=by have :=Bo List.length h;rwa [Cm,Cm]at this
 by_cases q:0<=v
 ·rw[D8 q,D8 q];by_cases u:v.toNat<l.length
  ·have j:v.toNat<m.length:=AB
   rw[E9 u,E9 j,Ad,Ad];refine J _ (E5 u) _ (E5 j) ?_;have I:(l.map f)[v.toNat]? =(m.map f)[v.toNat]? :=by rw[h]
   rw[JI,JI,E9 u,E9 j]at I;simpa using I
  rw[LD AB,LD AB];rfl
 rw[DU q,DU q];rfl
def al2 {r s:CJ} (h:ng r s):PZ s=PZ r:=by
 have hl:s.Events.length=r.Events.length:=by have :=Bo List.length h.ids;rwa [Cm,Cm]at this
 have q:lZ s=lZ r:=by unfold lZ;rw[h.state]
 have u:wM s=wM r:=by unfold wM;rw[q]
 have z:jF s=jF r:=by
  funext k a v;unfold jF;rw[hl,h.state,u];congr 1;refine alU (f:=fun e:AO=>e.Id) h.ids _ _ v fun x J y I j=>?_;have j:x.Id=y.Id:=j;rw[j,h.ver y.Id (Ea.2 ⟨y,I,rfl⟩)]
 unfold PZ aJu;rw[h.id,hl,z]
def aPt {r:CJ} (h:r.Events.length<=100):Wn r=some (Fq (r.Events.map (·.Id))):=by
 unfold Wn aRj;refine dU.eq (MJ r.Events.length (fuel_lt AB) (fun i a=>a=(r.Events.take i).map (·.Id)) rfl (fun i a k hi ha j=>?_) fun a k ha=>?_)
 ·have q:a.length<=i:=aJI
  unfold aGD;rw[DV hi,Ep Ic,Ad,wrap_succ i AB];exact j _ (by rw[ha];exact(map_take (f:=fun e:AO=>e.Id) hi).symm)
 unfold aGD;rw[ER,BH,ha,J7,VL _ kK];exact .ret rfl
def agV (l:A8 Int):PO l l=[]:=by
 cases j:PO l l with
 |nil=>rfl
 |cons x t=>
  have :x∈PO l l:=by rw[j];exact Fz ..
  obtain⟨a,b⟩:=aI6.1 this;exact absurd a b
def ap1 {r s:CJ} (h:ng r s) (q:r.Events.length<=100) (hs:s.Events.length<=100):bF r s=some true/\ZJ r s=some 0:=by
 have u:=aPt q;have j:=aPt hs;rw[h.ids]at j;have z:(Fq (r.Events.map (·.Id))).length<=100:=EY (Rq _) (by rw[Cm];exact q);have hm:=aR3 (Fq (r.Events.map (·.Id))) (Fq (r.Events.map (·.Id))) AB AB;rw[agV]at hm
 have I:aAd [] []=some []:=by
  unfold aAd kL;rw[Ep BR,Ad];show(Dc 8 ([]:A8 Int) []).bind _=_;rw[Ep BR,Ad];show(Qa []).bind _=_;rw[VL _ BR];rfl
 constructor
 ·unfold bF aEe;rw[u,j,Ad,Ad,hm,Ad,Ad,I];rfl
 unfold ZJ;rw[u,j,Ad,Ad,hm];rfl
def aPf {r:CJ} (hl:r.Rows.length<=1000) {id:Int} {x:Ey} (h:YI r id=some x) (hs:x.Status=2\/x.Status=3\/x.Status=4):XJ r id=some (bif x.Status==2 then 2 else 4):=by
 unfold XJ;have hp:UF r id=(x,true):=by unfold UF;rw[h]
 rw[aBg r id AB,hp,Ad];show(bif x.Status==3 then wK else(bif x.Status==4 then wK else some x.Status))=_;rcases hs with h|h|h<;>rw[h]<;>rfl
def alZ {X:A8 AO} {r:CJ} {id:BI} (h:JU X X r) (hl:r.Events.length<=20) (j:r.Id=id) (u:id.size<=2000):aHF r:=by
 have q:=h.ok.facts.ok AB;have hp:=aR8 (l:=r.Events) (c:=0) fun _=>q;rw[dX h.ok.deep,←h.ok.state]at hp;have z:=hp.length;have I:=h.ok.KJ;refine⟨by rw[j];exact u,AB,AB,AB,fun x J=>?_⟩;obtain⟨a,_,_,b⟩:=hp.named x J;rw[←b];exact(q.small _ (Uz a).1).key
def afU {X:A8 AO} {r s:CJ} {id:BI} (hX:VN X id) (q:JU X X r) (hs:JU X X s) (J:r.Id=id) (L:s.Id=id) (hw:r.Waiting=[]) (u:s.Waiting=[]) (hl:r.Events.length<=20) (hl':s.Events.length<=20):ng r s:=by
 obtain⟨h1,h2,h3⟩:=aSc hX q hs hw u AB AB;have hrr:=q.ok.KJ;have hsr:=hs.ok.KJ;refine⟨L.trans J.symm,h1,fun x hx=>?_,h3⟩
 have I:∀{t:CJ},IY t->x∈t.Events.map (·.Id)->∃y∈t.Rows,YI t x=some y/\y.Id=x:=fun{t} ht M=>by
  obtain⟨j,hj,O⟩:=ht.rowOf (Fe.2 M);cases hq:YI t x with
  |none=>exact absurd O (aef hq j hj)
  |some y=>
   obtain⟨m,hm,rfl,e⟩:=adJ hq;exact⟨_,E5 hm,rfl,e⟩
 obtain⟨y,hy,U,Y⟩:=I q.ok hx;obtain⟨z,hz,Z,hz2⟩:=I hs.ok (by rw[h1];exact hx);rw[aPf AB U (q.ok.stat y hy).2,aPf AB Z (hs.ok.stat z hz).2];have hst:=al6 hX q hs hw u AB AB hy hz (Y.trans hz2.symm)
 have :(z.Status==2)=(y.Status==2):=by
  rw[Nh,OQ,OQ];exact hst.symm
 rw[this]
def aP7 :Ty=some true:=AA
def aoO (r:CJ):ng r r:=⟨rfl,rfl,fun _ _=>rfl,rfl⟩
def anY (l:A8 AO) (first:Int) (h0:0<=first) (aE7:first<=255):aEJ l first=some true:=by
 have u:((Ty).bind fun x=>some x)=some true:=by rw[aP7];rfl
 unfold aEJ;refine dU.eq ((aky l).bind fun g hg=>?_);refine dU.bind (P:=fun b=>b=false->(l.length<=10/\∀e∈l,EU e)/\l≠[]) ?_ fun b hb=>?_
 ·cases g with
  |true=>exact .ret fun h=>Gz
  |false=>exact .ret fun h=>⟨hg rfl,fun e=>by rw[e]at h;cases h⟩
 refine dU.bind (P:=fun b=>b=false->(l.length<=10/\∀e∈l,EU e)/\l≠[]/\∀x∈l,∀y∈l,Rj x y) ?_ fun b' hb'=>dU.bif (fun _=>.of u) fun e=>?_
 ·cases b with
  |true=>exact .ret fun h=>Gz
  |false=>
   obtain⟨⟨U,O⟩,q3⟩:=hb rfl;exact(apG AB O).bind fun t ht=>.ret fun h=>⟨⟨U,O⟩,q3,akv (ht LC)⟩
 obtain⟨⟨hl,hs⟩,Y,hF⟩:=hb' e;have q:0<l.length:=gZ.2 Y;have J:∀e∈l,e.Room=l[0].Room:=fun e he=>(hF e he _ (E5 q)).1
 have Z:Oj (BA first) (l.length:Int)=some (((first.toNat % l.length:Nat)):Int):=by
  unfold Oj;rw[Ld AB AB,DU AB];congr 1;rw[aEl h0,Int.natCast_emod,aGq h0]
 rw[Z,Ad];have hk:first.toNat % l.length<l.length:=YN _ q;generalize first.toNat % l.length=k at hk;have L:∀i,i<l.length->(k+l.length-i) % l.length<l.length:=fun i _=>YN _ q;unfold aRL;refine MJ l.length (fuel_lt AB) (fun i a=>a.length=i/\(∀x∈a,x∈l)/\∀j,j<i->∀x,l[(k+l.length-j) % l.length]? =some x->x∈a) ⟨rfl,fun _ h=>absurd h Ez,fun j h=>absurd h (V8 _)⟩ (fun i a f hi ha hf=>?_) fun a f ha=>?_
 ·obtain⟨a1,a2,a3⟩:=ha;have hm:=L i hi
  have hr2:Oj (BA ((BA ((k:Int)+(l.length:Int)))-(i:Int))) (l.length:Int)=some (((k+l.length-i) % l.length:Nat):Int):=by
   unfold Oj;rw[Ld (x:=(k:Int)+(l.length:Int)) AB AB,Ld AB AB,DU AB];congr 1;rw[aEl AB,Int.natCast_emod];congr 1;omega
  unfold aL8;rw[dec_lt hi,Bq,hr2,Ad,Dn hm,Ad,Ep Ic,Ad,wrap_succ i AB];refine hf _ ⟨by rw[EP,Om,a1],fun x z=>?_,fun j hj x z=>?_⟩
  ·rcases Gx.1 z with z|z
   ·exact a2 x z
   rw[Ih.1 z];exact E5 hm
  by_cases hji:j=i
  ·subst hji;rw[E9 hm]at z;exact Gx.2 (.inr (by rw[←Ch z];exact Ih.2 rfl))
  exact Gx.2 (.inl (a3 j AB x z))
 obtain⟨a1,a2,a3⟩:=ha
 have hall:∀x∈l,x∈a:=fun x z=>by
  obtain⟨j,hj,rfl⟩:=Gf z;by_cases hjk:j<=k
  ·refine a3 (k-j) AB _ ?_
   have :(k+l.length-(k-j)) % l.length=j:=by
    rw[show k+l.length-(k-j)=j+l.length by omega,Nat.add_mod_right,aEw hj]
   rw[this,E9 hj]
  refine a3 (k+l.length-j) AB _ ?_
  have :(k+l.length-(k+l.length-j)) % l.length=j:=by
   rw[show k+l.length-(k+l.length-j)=j by omega,aEw hj]
  rw[this,E9 hj]
 have ha0:a≠[]:=fun h=>by rw[h]at a1;simp at a1;omega
 have hX:=aMU hs hF J;have hz:l[0].Room.size<=2000:=(hs _ (E5 q)).room;unfold aL8;rw[ER,BH];refine(aQa (m:=l) AB AB Y hs hF J (fun _ h=>h) fun _ h=>h).bind fun r hr=>?_;refine(aQa (m:=a) AB AB ha0 hs hF J a2 hall).bind fun s hs'=>?_
 have I:ng r s->aHF r->s.Events.length<=100->dU ((PZ r).bind fun x25=>(PZ s).bind fun Gs=>(bif (x25==Gs)then(bF r s).bind fun x28=>(bif x28 then(ZJ r s).bind fun TK=>(bif (TK==0)then(Ty).bind fun M=>V6 M else V6 false)else V6 false)else V6 false)) (fun b=>b=true):=fun hL hf hsl=>by
  obtain⟨n,hn⟩:=aga hf;obtain⟨g1,g2⟩:=ap1 hL hf.events hsl;rw[al2 hL,hn,Ad,Ad,Uy,Bq,g1,Ad,Bq,g2,Ad];show dU ((Ty).bind fun M=>V6 M) _;rw[aP7];exact .ret rfl
 refine dU.bind (P:=fun b=>b=false->r.Waiting=[]/\s.Waiting=[]) ?_ fun w hw=>dU.bif (fun _=>.of u) fun e=>?_
 ·refine dU.bif (fun _=>.ret fun h=>Gz) fun c1=>.ret fun c2=>?_;have c1:=JV c1;have c2:=JV c2;exact⟨Gy AB,Gy AB⟩
 obtain⟨w1,w2⟩:=hw e;rcases hr with⟨U,rfl⟩|⟨t1,t2,t3,U⟩
 ·rcases hs' with⟨_,rfl⟩|⟨_,_,_,O⟩
  ·exact I (aoO _) ⟨Ec _,Ec _,Ec _,Ec _,fun _ h=>absurd h Ez⟩ (Ec _)
  exact absurd O U
 rcases hs' with⟨O,_⟩|⟨u1,u2,u3,_⟩
 ·exact absurd U O
 exact I (afU hX t1 u1 t2 u2 w1 w2 t3 u3) (alZ t1 t3 t2 hz) AB
def akX (l:A8 AO) (first:Int) {P:Prop} (_:P) (h:IntKind.u8.min<=first/\first<=IntKind.u8.max):aEJ l first=some true:=anY l first h.1 h.2
end
end Go.Proofs.YtfmoknlmaldmlaaGreat
