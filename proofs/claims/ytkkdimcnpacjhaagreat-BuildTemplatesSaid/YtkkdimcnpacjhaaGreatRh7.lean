/- Part 7 of the laws' proofs (short forms by wip/shrink2.py). -/
import Derived.Test.YtkkdimcnpacjhaaGreatRh6
set_option linter.defProp false
set_option linter.unnecessarySimpa false
set_option linter.unusedSectionVars false
set_option linter.unusedVariables false
set_option linter.unusedSimpArgs false
namespace Go.Proofs.YtkkdimcnpacjhaaGreat
open Go.RowKit Go.Proofs.Tryz
section
def jY (named:A8 AV) (k:BJ):AV×AZ:=match named.find? (FV k)with |some x=>(x,true)|none=>(DI,false)
def jq (l:A8 AV) (s:A8 BJ) (e:AV) (k:BJ):AV×AZ:=bif (IY s k.Kind k.Key).2 then He l (IY s k.Kind k.Key).1 else jY (ofIds l e.bQ) k
def U0 (l:A8 AV) (s:A8 BJ) (e:AV) (k:BJ):A8 AV:=bif (jq l s e k).2 then[(jq l s e k).1]else[]
def Vl (l:A8 AV) (s:A8 BJ) (e:AV):A8 AV:=(keysOf e).flatMap (U0 l s e)
def aHM (l:A8 AV) (s:A8 BJ) (e:AV) (k:BJ):(U0 l s e k).length<=1:=by
 unfold U0;cases(jq l s e k).2<;>simp
def aSH (l:A8 AV) (s:A8 BJ) (e:AV):(Vl l s e).length<=5:=by
 have j:=flat_length (f:=U0 l s e) (n:=1) (aHM l s e) (keysOf e);have q:=RS e;unfold Vl;omega
def afV {l:A8 AV} {s:A8 BJ} {e x:AV} (h:x∈Vl l s e):x∈l:=by
 obtain⟨k,_,h⟩:=Vy.1 h;unfold U0 jq jY at h;cases q:(IY s k.Kind k.Key).2 with
 |true=>
  rw[q]at h;simp only[Bz]at h;cases hp:Ef l (IY s k.Kind k.Key).1 with
  |none=>rw[SI hp]at h;exact absurd h G5
  |some y=>rw[OE hp]at h;rw[Md.1 h];exact NW hp
 |false=>
  rw[q]at h;simp only[BX]at h;cases j:(ofIds l e.bQ).find? (FV k)with
  |none=>rw[j]at h;exact absurd h G5
  |some y=>rw[j]at h;rw[Md.1 h];exact a0J (ZY j)
def E9.base {l:A8 AV} (h:E9 l) (s:A8 BJ) (e:AV):E9 (Vl l s e):=fun x j=>h x (afV j)
def aZG (named:A8 AV) (k:BJ) (j:named.length<=1000):aA6 named k=some (jY named k):=by
 unfold aA6;rw[aJ3 named AB (fun a0=>uJ a0 k) (FV k) fun e=>by unfold uJ FV;rw[Ir];cases e.Kind==k.Kind<;>rfl];exact found_eq named (FV k) rfl
def afA (named:A8 AV) (k:BJ) (j:named.length<=1000):aB7 named k.Kind k.Key=some (jY named k):=by
 unfold aB7 aQH;rw[aNM named (fuel_lt AB) (FV k) (fun i=>some (match named[i]? with |some x=>(x,true)|none=>(DI,false))) (some (DI,false))]
 ·exact aMx named _
 ·intro k2 i h;unfold aKu;rw[DR h,Cx h,EL h];simp only[Ad];rw[Ir];unfold FV;cases named[i].Kind==k.Kind<;>cases decide (named[i].Key=k.Key)<;>rfl
 intro k2;unfold aKu;rw[EF]
def agK (l:A8 AV) (s:A8 BJ) (e:AV) (hl:l.length<=1000) (q:e.bQ.length<=40) (hs:KE s) (j:s.length<=1000000):aAg l s e=some (Vl l s e):=by
 unfold aAg;have u:=Z8 l e.bQ;have z:=RS e;have hm:Iw 376 DI 0 5=some []:=by unfold Iw;rw[Di aFS];rfl
 rw[aUb l _ hl AB,hm,aPs];simp only[Ad];unfold aQ3;rw[IZ (keysOf e) AB (fun r k=>r++U0 l s e k) (fun i r=>r.length<=i) (fun r=>some r) (EZ _)]
 ·rw[foldl_append (U0 l s e),Iq];rfl
 ·intro k r i h I;have hp:=aHM l s e (keysOf e)[i];refine⟨La,?_⟩;unfold aKh aBz aCn;rw[DR h,aZG _ _ AB,aJT s _ _ j hs];simp only[Ad];rw[PY l _ AB,EC GZ];simp only[Ad];rw[EC GZ];unfold U0 jq;cases(IY s (keysOf e)[i].Kind (keysOf e)[i].Key).2 with
  |true=>
   simp only[Bz];cases(He l (IY s (keysOf e)[i].Kind (keysOf e)[i].Key).1).2 with
   |true=>rfl
   |false=>simp
  |false=>
   simp only[BX];cases(jY (ofIds l e.bQ) (keysOf e)[i]).2 with
   |true=>rfl
   |false=>simp
 intro k r _;unfold aKh;rw[EF]
def akZ (l:A8 AV) (s:A8 BJ) (e:AV) (hl:l.length<=1000) (q:e.bQ.length<=40) (j:s.length<=1000000):aAZ l s e=some (Vl l s e):=by
 unfold aAZ;have u:=Z8 l e.bQ;have z:=RS e;rw[aD4,aIV l _ hl AB];simp only[Ad];unfold aXW;rw[IZ (a0:=[]) (keysOf e) AB (fun r k=>r++U0 l s e k) (fun i r=>r.length<=i) (fun r=>some r) (EZ _)]
 ·rw[foldl_append (U0 l s e),Iq];rfl
 ·intro k r i h I;have hp:=aHM l s e (keysOf e)[i];refine⟨La,?_⟩;unfold aHU a07 aBm;rw[dec_lt h,Cx h];simp only[Bz,Ad];rw[afA _ _ AB,aLS s _ _ j];simp only[Ad];rw[Lc l _ AB,EC GZ];simp only[Ad];rw[EC GZ];unfold U0 jq;cases(IY s (keysOf e)[i].Kind (keysOf e)[i].Key).2 with
  |true=>
   simp only[Bz];cases(He l (IY s (keysOf e)[i].Kind (keysOf e)[i].Key).1).2 with
   |true=>rfl
   |false=>simp
  |false=>
   simp only[BX];cases(jY (ofIds l e.bQ) (keysOf e)[i]).2 with
   |true=>rfl
   |false=>simp
 intro k r _;unfold aHU;rw[Dy];rfl
def YV (l:A8 AV) (s:A8 BJ) (id:Int):AZ:=dQ l id&&(I7 (ev l id).Kind&&NR (ev l id) (Vl l s (ev l id))==0)
def Rt (l:A8 AV) (s:A8 BJ) (id:Int):A8 BJ:=bif YV l s id then Gm s (ev l id).Kind (ev l id).Key (ev l id).Id else s
def Rw (l:A8 AV) (s:A8 BJ) (ids:A8 Int):A8 BJ:=ids.foldl (Rt l) s
def aQ8 {l:A8 AV} {s:A8 BJ} (h:KE s) (id:Int):KE (Rt l s id):=by
 unfold Rt;cases YV l s id with
 |true=>exact X6 h _ _ _
 |false=>exact h
def aIX {l:A8 AV}:∀{ids:A8 Int} {s:A8 BJ},KE s->KE (Rw l s ids)
 | [],_,h=>h
 |id::ids,s,h=>aIX (ids:=ids) (aQ8 h id)
def aLe (l:A8 AV) (s:A8 BJ) (id:Int):(Rt l s id).length<=s.length+1:=by
 unfold Rt;cases YV l s id with
 |true=>exact QH _ _ _ _
 |false=>exact Nat.le_succ _
def aFi (l:A8 AV):∀(ids:A8 Int) (s:A8 BJ),(Rw l s ids).length<=s.length+ids.length
 | [],s=>EZ _
 |id::ids,s=>by
  have j:=aFi l ids (Rt l s id);have q:=aLe l s id;show(Rw l (Rt l s id) ids).length<=_;rw[HY];omega
def aWK {l:A8 AV} (hs:E9 l) {id:Int} (h:dQ l id=true):FD (ev l id):=hs _ (NW (OL h).1)
def aaK (l:A8 AV) (s:A8 BJ) (id:Int) (hl:l.length<=1000) (hs:E9 l) (z:KE s) (q:s.length<=1000000):aBV l s id=some (Rt l s id):=by
 unfold aBV aNU yK Rt YV;have j:a0c s (.error (.iface 331 (.agg #[])):Except Au (A8 BJ))=some s:=rfl;rw[PY l _ AB];simp only[Ad];rw[Pn];cases J:(Ef l id).isSome with
 |false=>rw[show dQ l id=false from J];exact j
 |true=>
  have u:dQ l id=true:=J;have L:=aWK hs u;have I:(He l id).1=ev l id:=rfl;rw[u,I,aKb];simp only[Ad,FB,BX,Gw];cases I7 (ev l id).Kind with
  |false=>exact j
  |true=>
   have M:=aSH l s (ev l id);rw[agK l s _ hl L.auth z q];simp only[Ad,FB,BX,Gw];rw[aBE _ _ AB (hs.base s _) L];simp only[Ad];rw[Yd s _ _ _ q];unfold bne;cases NR (ev l id) (Vl l s (ev l id))==0 with
   |true=>rfl
   |false=>exact j
def aS7 (l:A8 AV) (s:A8 BJ) (ids:A8 Int) (hl:l.length<=1000) (hs:E9 l) (j:KE s) (u:s.length+ids.length<=1000000):cZ l s ids=some (Rw l s ids):=by
 unfold cZ Fn2;rw[EC VO];simp only[Ad,Iq];unfold aWB;rw[IZ ids AB (Rt l) (fun i r=>KE r/\r.length<=s.length+i) (fun r=>some r) ⟨j,EZ _⟩]
 ·rfl
 ·intro k r i h q;have z:=aLe l r ids[i];refine⟨⟨aQ8 q.1 _,AB⟩,?_⟩;unfold aL3;rw[DR h,aaK l r _ hl hs q.1 AB];rfl
 intro k r _;unfold aL3;rw[EF]
def aSG (l:A8 AV) (s:A8 BJ) (ids:A8 Int) (hl:l.length<=1000) (hs:E9 l) (I:s.length+ids.length<=1000000):dV l s ids=some (Rw l s ids):=by
 unfold dV;rw[EC VO];simp only[Ad,Iq];unfold aXJ;rw[IZ ids AB (Rt l) (fun i r=>r.length<=s.length+i) (fun r=>some r) (EZ _)]
 ·rfl
 ·intro k r i h J;have L:=aLe l r ids[i];refine⟨AB,?_⟩;unfold aNa zx aDL Rt YV;rw[DR h,Lc l _ AB];simp only[Ad];rw[Pn];cases u:(Ef l ids[i]).isSome with
  |false=>rw[show dQ l ids[i]=false from u];rfl
  |true=>
   have j:dQ l ids[i]=true:=u;have z:=aWK hs j;have q:(He l ids[i]).1=ev l ids[i]:=rfl;rw[j,q,yV];simp only[Ad,Bz,Gw];cases I7 (ev l ids[i]).Kind with
   |false=>rfl
   |true=>
    have M:=aSH l r (ev l ids[i]);rw[akZ l r _ hl z.auth AB];simp only[Ad,Bz,Gw];rw[aEe _ _ AB (hs.base r _) z];simp only[Ad];rw[aJo r _ _ _ AB];cases NR (ev l ids[i]) (Vl l r (ev l ids[i]))==0<;>rfl
 intro k r _;unfold aNa;rw[EF]
def O5 (l:A8 AV) (bH:A8 (A8 BJ)):A8 Int:=YK l (MK l bH)
def OY (l:A8 AV) (bH:A8 (A8 BJ)):A8 Int:=Oi l (G8 l (O5 l bH)).length (G8 l (O5 l bH))
def JW (l:A8 AV) (bH:A8 (A8 BJ)):A8 BJ:=Rw l (Ih bH) (OY l bH)
def ZL (l:A8 AV) (bH:A8 (A8 BJ)):A8 Int:=bif (IY (JW l bH) 3 CS).2 then nE l (IY (JW l bH) 3 CS).1 else[]
def OA (l:A8 AV) (bH:A8 (A8 BJ)):A8 Int:=VX l (ZL l bH) (Pe (MK l bH) (O5 l bH))
def tq (s a:A8 BJ):A8 BJ:=a.foldl (fun s x=>Gm s x.Kind x.Key x.Id) s
def lastOf (l:A8 AV) (bH:A8 (A8 BJ)):A8 BJ:=tq (Rw l (JW l bH) (OA l bH)) (Ih bH)
structure OJ (l:List AV) (bH:List (List BJ)):Prop where
 len:l.length<=100
 small:E9 l
 states:OU bH
def o9 {l:A8 AV} {bH:A8 (A8 BJ)} (h:OJ l bH):(MK l bH).length<=40000:=by
 have z:=h.len;have I:=aEm h.states;have J:=MG (TA bH);have j:=aDI l bH [] fun s hs=>(h.states.2 s hs).1;have q:=h.states.1;have u:=Jr (fun x=>KU l bH x<bH.length) (allOf l bH);have L:bH.length*(100+l.length)<=100*200:=a0R q AB;have M:=aJL (Ee (TA bH)) (TP l bH)
 have O:(TP l bH).length<=20000:=by
  unfold TP;unfold allOf at u ⊢;simp only[NM]at j;omega
 unfold MK;omega
def adu {l:A8 AV} {bH:A8 (A8 BJ)} (h:OJ l bH):(PI l (MK l bH)).length<=40000:=FC (Jr _ _) (o9 h)
def aH4 {l:A8 AV} {bH:A8 (A8 BJ)} (h:OJ l bH):(OY l bH).length<=100:=by
 have q:=aX2 l (G8 l (O5 l bH)).length (G8 l (O5 l bH));have u:(G8 l (O5 l bH)).length<=l.length:=kY (dK _ _) fun x j=>(O1.1 j).2;have z:=h.len;unfold OY;omega
def aDQ {l:A8 AV} {bH:A8 (A8 BJ)} (h:OJ l bH):(JW l bH).length<=200:=by
 have j:=aFi l (OY l bH) (Ih bH);have q:=aH4 h;have u:=aj h.states;unfold JW;omega
def aGU {l:A8 AV} {bH:A8 (A8 BJ)} (h:OJ l bH):KE (JW l bH):=aIX (aUU h.states)
def aWY {l:A8 AV} {bH:A8 (A8 BJ)} (h:OJ l bH):(ZL l bH).length<=100:=by
 have j:=aTC l (IY (JW l bH) 3 CS).1;have q:=h.len;unfold ZL;cases(IY (JW l bH) 3 CS).2 with
 |true=>simp only[Bz];omega
 |false=>exact Ea _
def aS1 {l:A8 AV} {bH:A8 (A8 BJ)} (h:OJ l bH):(OA l bH).length<=40000:=by
 have j:=ank l (ZL l bH) (Pe (MK l bH) (O5 l bH));have q:=aGp (MK l bH) (O5 l bH);have u:=o9 h;unfold OA;omega
def agY {l:A8 AV} {bH:A8 (A8 BJ)} (h:OJ l bH):uI (MK l bH) (O5 l bH) l (JW l bH,OY l bH) (Ih bH,Ee (TA bH)) (ZL l bH)=some ⟨lastOf l bH,OY l bH,OA l bH⟩:=by
 have u:=h.len;have z:=o9 h;have I:=aFk l (MK l bH);have J:=aWY h;have L:=aGp (MK l bH) (O5 l bH);have M:=aDQ h;have O:=aS1 h;have U:=aj h.states;unfold uI aN6 aKr;rw[ani _ _ AB (by unfold O5;omega)];simp only[Ad];rw[anX l _ _ AB h.small AB AB (VQ (aJb _ _))];simp only[Ad];show((cZ l (JW l bH) (OA l bH)).bind _).bind _=_;rw[aS7 l _ _ AB h.small (aGU h) AB];simp only[Ad];unfold aXO;have Y:=aFi l (OA l bH) (JW l bH);show aU _ Ap 0 (⟨Rw l (JW l bH) (OA l bH),OY l bH,OA l bH⟩:Oh)=_;rw[jA (Ih bH) AB (fun v x=>({ v with Ej:=Gm v.Ej x.Kind x.Key x.Id }:Oh)) (fun i v=>v.Ej.length<=(Rw l (JW l bH) (OA l bH)).length+i) (fun v=>some v) (EZ _)]
 ·congr 1;unfold lastOf tq
  have key:∀(a:A8 BJ) (v:Oh),a.foldl (fun v x=>({ v with Ej:=Gm v.Ej x.Kind x.Key x.Id }:Oh)) v=⟨a.foldl (fun s x=>Gm s x.Kind x.Key x.Id) v.Ej,v.akn,v.atB⟩:=by
   intro a
   induction a with
   |nil=>intro v;rfl
   |cons x a j=>intro v;rw[Gt,j];rfl
  rw[key]
 ·intro k v i hi Z;have q:=QH v.Ej (Ih bH)[i].Kind (Ih bH)[i].Key (Ih bH)[i].Id;refine⟨by show(Gm _ _ _ _).length<=_;omega,?_⟩;unfold aIE;rw[DR hi,Yd _ _ _ _ AB];rfl
 intro k v _;unfold aIE;rw[EF]
def aYr {l:A8 AV} {bH:A8 (A8 BJ)} (h:OJ l bH):Res l bH=some ⟨lastOf l bH,OY l bH,OA l bH⟩:=by
 have q:=h.len;have u:=o9 h;have z:=aFk l (MK l bH);have I:=adu h;have J:=aDQ h;have L:=aH4 h;have M:=aj h.states;have ht:=agY h;unfold Res;rw[aUY bH h.states,aZD l bH AB h.small.akx h.states];simp only[Ad];rw[ak2 l _ AB h.small AB AB];simp only[Ad];unfold aLZ aNC;rw[alf l _ AB h.small AB];simp only[Ad];have ha:cZ l (Ih bH) (OY l bH)=some (JW l bH):=aS7 l _ _ AB h.small (aUU h.states) AB;unfold OY O5 at ha;rw[ha];simp only[Ad];rw[aJT _ _ _ AB (aGU h)];simp only[Ad];rw[aZ2 l _ AB h.small];unfold ZL at ht;cases j:(IY (JW l bH) 3 CS).2 with
 |true=>rw[j]at ht;exact ht
 |false=>rw[j]at ht;exact ht
def adX {l:A8 AV} {bH:A8 (A8 BJ)} (h:OJ l bH):qU (MK l bH) (O5 l bH) l (Ih bH,Ee (TA bH)) (OY l bH) (JW l bH) (ZL l bH)=some ⟨Ih bH,OY l bH,JW l bH,OA l bH,lastOf l bH⟩:=by
 have z:=h.len;have I:=o9 h;have J:=aFk l (MK l bH);have L:=aWY h;have M:=aGp (MK l bH) (O5 l bH);have O:=aDQ h;have U:=aS1 h;have Y:=aj h.states;unfold qU;rw[aBK _ _ AB (by unfold O5;omega)];simp only[Ad];rw[ae4 l _ _ AB h.small AB AB (VQ (aJb _ _))];simp only[Ad];show(dV l (JW l bH) (OA l bH)).bind _=_;rw[aSG l _ _ AB h.small AB];simp only[Ad];unfold aRk;have Z:=aFi l (OA l bH) (JW l bH);show aU _ Ap 0 (⟨Ih bH,OY l bH,JW l bH,OA l bH,Rw l (JW l bH) (OA l bH)⟩:Oz)=_;rw[jA (Ih bH) AB (fun v x=>({ v with Last:=Gm v.Last x.Kind x.Key x.Id }:Oz)) (fun i v=>v.Same=Ih bH/\v.Last.length<=(Rw l (JW l bH) (OA l bH)).length+i) (fun v=>some v) ⟨rfl,EZ _⟩]
 ·congr 1;unfold lastOf tq
  have key:∀(a:A8 BJ) (v:Oz),a.foldl (fun v x=>({ v with Last:=Gm v.Last x.Kind x.Key x.Id }:Oz)) v=⟨v.Same,v.Power,v.First,v.Others,a.foldl (fun s x=>Gm s x.Kind x.Key x.Id) v.Last⟩:=by
   intro a
   induction a with
   |nil=>intro v;rfl
   |cons x a q=>intro v;rw[Gt,q];rfl
  rw[key]
 ·intro k v i hi j;have u:=QH v.Last (Ih bH)[i].Kind (Ih bH)[i].Key (Ih bH)[i].Id;refine⟨⟨j.1,by show(Gm _ _ _ _).length<=_;omega⟩,?_⟩;unfold aLp;rw[j.1,dec_lt hi,Cx hi];simp only[Bz,Ad];rw[aJo _ _ _ _ AB];rfl
 intro k v j;unfold aLp;rw[j.1,Dy];rfl
def agk {l:A8 AV} {bH:A8 (A8 BJ)} (h:OJ l bH):aFK l bH=some ⟨Ih bH,OY l bH,JW l bH,OA l bH,lastOf l bH⟩:=by
 have q:=h.len;have u:=o9 h;have z:=aFk l (MK l bH);have I:=aDQ h;have J:=aH4 h;have L:=aj h.states;have ht:=adX h;unfold aFK;rw[aYB bH h.states,aeL l bH AB h.small.akx h.states];simp only[Ad];rw[aZi l _ AB h.small AB];simp only[Ad];rw[abv l _ AB h.small AB];simp only[Ad];have ha:dV l (Ih bH) (OY l bH)=some (JW l bH):=aSG l _ _ AB h.small AB;unfold OY O5 at ha;rw[ha];simp only[Ad];rw[aLS _ _ _ AB];simp only[Ad];rw[aVh l _ AB h.small];unfold ZL at ht;cases j:(IY (JW l bH) 3 CS).2 with
 |true=>rw[j]at ht;exact ht
 |false=>rw[j]at ht;exact ht
def sQ (l:A8 AV) (bH:A8 (A8 BJ)):A8 BJ:=match bH with
 | []=>[]
 | [s]=>s
 |_=>lastOf l bH
def aUS {l:A8 AV} {bH:A8 (A8 BJ)} (h:OJ l bH):mW l bH=some (sQ l bH):=by
 match bH,h with
 | [],_=>rfl
 | [s],h=>
   have hs:=(h.states.2 s (H8 ..)).1;have j:Ak [s] 0=some s:=rfl;show((Ak [s] 0).bind fun q=>(DU 32 [] q).bind fun u=>some u)=some s;rw[j];simp only[Ad];rw[EC VO];rfl
 |s::t::bH,h=>
  unfold mW;have j:(((s::t::bH).length:Int)==0)=false:=aBe
  have z:(((s::t::bH).length:Int)==1)=false:=aBe
  rw[j,z,aYr h];rfl
def aSb {l:A8 AV} {bH:A8 (A8 BJ)} (h:OJ l bH):yG l bH=some (sQ l bH):=by
 match bH,h with
 | [],_=>rfl
 | [s],_=>rfl
 |s::t::bH,h=>
  unfold yG;have j:(((s::t::bH).length:Int)==0)=false:=aBe
  have q:(((s::t::bH).length:Int)==1)=false:=aBe
  rw[j,q,agk h];rfl
def aZF (l:A8 AV):eP (aE2 l 14) (fun b=>b=false->l.length<=14/\E9 l):=by
 unfold aE2;refine eP.bif (fun _=>.ret fun h=>Ib) fun e=>?_;have hl:l.length<=14:=by have :=KI e;omega
 unfold aTA;refine kR l.length (fuel_lt AB) (fun i=>∀j,(u:j<i)->(z:j<l.length)->FD l[j]) (fun j u=>AB) ?_ ?_
 ·intro i k hi q I;unfold aKq;rw[DR hi,wrap_succ i AB];refine(aRK l[i]).bind fun b J=>eP.bif (fun _=>.ret fun h=>Ib) fun L=>I fun j u z=>?_;by_cases M:j=i
  ·subst M;exact J L
  exact q j AB z
 intro k q;unfold aKq;rw[EF];exact .ret fun _=>⟨hl,aNg fun j h=>q j h h⟩
def aYY {x:BJ}:∀(a s:A8 BJ),x∈tq s a->x∈a\/x∈s
 | [],_,h=>.inr h
 |y::a,s,h=>by
  rcases aYY a _ h with h|h
  ·exact .inl (IG _ h)
  rcases Ud h with h|h
  ·left;rw[h];cases y;exact H8 ..
  exact .inr h
def aVc (l:A8 AV) (ids:A8 Int) (x:BJ):Prop:=∃id∈ids,dQ l id=true/\I7 (ev l id).Kind=true/\x=⟨(ev l id).Kind,(ev l id).Key,(ev l id).Id⟩
def aJg {l:A8 AV} {x:BJ}:∀(ids:A8 Int) (s:A8 BJ),x∈Rw l s ids->x∈s\/aVc l ids x
 | [],_,h=>.inl h
 |id::ids,s,h=>by
  rcases aJg ids _ h with h|⟨j,u,h⟩
  ·have q:x∈bif YV l s id then Gm s (ev l id).Kind (ev l id).Key (ev l id).Id else s:=h
   cases hm:YV l s id with
   |false=>rw[hm]at q;exact .inl q
   |true=>
    rw[hm]at q;rcases Ud q with q|q
    ·unfold YV at hm;simp only[Du]at hm;exact .inr ⟨id,H8 ..,hm.1,hm.2.1,q⟩
    exact .inl q
  exact .inr ⟨j,IG _ u,h⟩
def anR {l:A8 AV} {bH:A8 (A8 BJ)} {x:Int} (h:x∈O5 l bH):x∈MK l bH:=(aLt.1 h).1
def aZM {l:A8 AV} {bH:A8 (A8 BJ)} {x:BJ} (h:x∈lastOf l bH):x∈Ih bH\/aVc l (MK l bH) x:=by
 unfold lastOf at h;rcases aYY _ _ h with h|h
 ·exact .inl h
 rcases aJg _ _ h with h|⟨j,q,h⟩
 ·unfold JW at h;rcases aJg _ _ h with h|⟨j,q,h⟩
  ·exact .inl h
  exact .inr ⟨j,anR (O1.1 (aRr _ _ _ q)).1,h⟩
 exact .inr ⟨j,(aRz.1 (acg.1 q).1).1,h⟩
def aVX :∀(a s:A8 BJ),KE s->KE (tq s a)
 | [],_,h=>h
 |x::a,s,h=>aVX a _ (X6 h x.Kind x.Key x.Id)
def alK {l:A8 AV} {bH:A8 (A8 BJ)} (h:OJ l bH):KE (lastOf l bH):=aVX _ _ (aIX (aGU h))
structure JU (l:List AV) (s:List BJ):Prop where
 sorted:KE s
 named:∀x∈s,dQ l x.Id=true/\I7 x.Kind=true/\(ev l x.Id).Kind=x.Kind/\(ev l x.Id).Key=x.Key
def JU.nil (l:A8 AV):JU l []:=⟨List.Pairwise.nil,fun _ h=>absurd h G5⟩
def JU.nodup {l:A8 AV} {s:A8 BJ} (h:JU l s):(s.map (·.Id)).Nodup:=by
 rw[a1i,cD];refine List.Pairwise.imp_of_mem ?_ h.sorted;intro a b ha j hp e;obtain⟨_,_,q,k2⟩:=h.named a ha;obtain⟨_,_,u,z⟩:=h.named b j;have I:a.Kind=b.Kind:=by rw[←q,←u,e]
 have J:a.Key=b.Key:=by rw[←k2,←z,e]
 rw[yR (Vw.2 ⟨I,J⟩)]at hp;cases hp
def JU.length {l:A8 AV} {s:A8 BJ} (h:JU l s):s.length<=l.length:=by
 have :VK l (s.map (·.Id)):=⟨h.nodup,fun x j=>by
  obtain⟨y,q,rfl⟩:=Fh.1 j
  exact(h.named y q).1⟩
 have :=this.length
 rwa [Dc]at this
def JU.okay {l:A8 AV} {bH:A8 (A8 BJ)} (hl:l.length<=100) (hs:E9 l) (j:bH.length<=100) (h:∀s∈bH,JU l s):OJ l bH:=
 ⟨hl,hs,j,fun s hm=>⟨FC (h s hm).length hl,(h s hm).sorted⟩⟩
def JU.resolve {l:A8 AV} {bH:A8 (A8 BJ)} (j:OJ l bH) (h:∀s∈bH,JU l s):JU l (sQ l bH):=by
 match bH,j,h with
 | [],_,_=>exact .nil l
 | [s],_,h=>exact h s (H8 ..)
 |s::t::bH,j,h=>
  refine⟨alK j,fun x I=>?_⟩;rcases aZM I with hm|⟨id,_,z,hst,q⟩
  ·exact(h s (H8 ..)).named x ((aaS j.states (List.cons_ne_nil _ _)).1 hm s (H8 ..))
  have u:=OL z;have J:x.Id=id:=by rw[q];exact u.2
  rw[J];exact⟨z,by rw[q];exact hst,by rw[q],by rw[q]⟩
def JU.set {l:A8 AV} {s:A8 BJ} (h:JU l s) {e:AV} (u:dQ l e.Id=true) (q:ev l e.Id=e) (hst:I7 e.Kind=true):JU l (Gm s e.Kind e.Key e.Id):=
 ⟨X6 h.sorted _ _ _,fun x j=>by
  rcases Ud j with rfl|j
  ·exact⟨u,hst,by rw[q],by rw[q]⟩
  exact h.named x j⟩
def Va (l:A8 AV) (e:AV):AZ:=e.bI.all (dQ l)&&e.bQ.all (dQ l)
def Wi (l:A8 AV):AZ:=l.all (Va l)
def Zc {α:Type} {l:A8 α} {p:α->AZ} {x:α} (h:x∈l) (j:p x=false):l.all p=false:=by
 rw[←Pm,El];exact fun q=>by rw[q x h]at j;cases j
def all_good {α:Type} {l:A8 α} {p:α->AZ} (h:∀j,(hj:j<l.length)->p l[j]=true):l.all p=true:=El.2 (aNg h)
def aU6 (j:A8 Int) (l:A8 AV) (m:A8 (Int×Int)) (h:YT l m) (q:j.length<=1000):wY j m=some (j.all (dQ l)):=by
 unfold wY aUj;rw[Hz j (fuel_lt AB) (fun x=> !dQ l x) false (some true)]
 ·rw[List.all_eq_not_any_not];cases(j.any fun x=> !dQ l x)<;>rfl
 ·intro k i hi;unfold aL2;rw[DR hi,h.isSome]
 intro k;unfold aL2;rw[EF]
def ajx (l:A8 AV) (hl:l.length<=100) (hs:E9 l):a0A l=some (Wi l):=by
 refine eP.eq ?_;unfold a0A;refine(wK l AB).bind fun m hm=>?_;unfold aP0;refine Yr (body:=aJt l) (Q:=fun b=>b=Wi l) (fun n a b=>∃i:Nat,a=i/\i+n=l.length/\b=m/\∀j,(q:j<i)->(hl:j<l.length)->Va l l[j]=true) ?_ Ap l.length 0 m (fuel_lt AB) ⟨0,rfl,AB,rfl,fun j q=>AB⟩;rintro n a b k ⟨i,rfl,L,rfl,z⟩ J;unfold aJt;by_cases hi:i<l.length
 ·have I:=hs l[i] (Ew hi);have M:=I.prev;have O:=I.auth;rw[DR hi,aU6 _ l b hm AB,Ad,Cx hi,Ad,aU6 _ l b hm AB];cases hp:l[i].bI.all (dQ l)with
  |false=>exact .ret (Zc (Ew hi) (by unfold Va;rw[hp];rfl)).symm
  |true=>
   cases ha:l[i].bQ.all (dQ l)with
   |false=>exact .ret (Zc (Ew hi) (by unfold Va;rw[hp,ha];rfl)).symm
   |true=>
    refine J (n-1) _ _ AB ⟨i+1,wrap_succ i AB,AB,rfl,fun j q u=>?_⟩;by_cases e:j=i
    ·subst e;unfold Va;rw[hp,ha];rfl
    exact z j AB u
 have :i=l.length:=AB
 subst this;rw[EF];exact .ret (all_good fun j q=>z j q q).symm
def dJ (l:A8 AV):A8 Int:=l.foldl (fun r e=>e.bQ.foldl put (e.bI.foldl put r)) []
def amq {l:A8 AV} {i:Nat} (hi:i<l.length) (q:A8 Int->Int->AL (A8 Int)) (v:A8 Int) (I:Inc v) (hl:v.length<=900000) (ha:l[i].bQ.length<=40):
 aCr l (i:Int) q v 0=q (l[i].bQ.foldl put v) (Aw ((i:Int)+1)):=by
 unfold aCr;rw[IZ l[i].bQ AB put (fun j a=>Inc a/\a.length<=v.length+j) (fun a=>q a (Aw ((i:Int)+1))) ⟨I,AB⟩]
 ·intro k a j u z;have hp:=iG a l[i].bQ[j];refine⟨⟨SN z.1,AB⟩,?_⟩;unfold aMr;rw[Cx hi,Ad,dec_lt u,Bz,Ad,Cx u,Ad,aGI a _ z.1 AB,Ad]
 intro k a _;unfold aMr;rw[Cx hi,Ad,Dy];rfl
def aeW {l:A8 AV} {i:Nat} (hi:i<l.length) (q:A8 Int->Int->AL (A8 Int)) (v:A8 Int) (u:Inc v) (hl:v.length<=800000) (hp:l[i].bI.length<=40) (ha:l[i].bQ.length<=40):
 aLj l (i:Int) q v 0=q (l[i].bQ.foldl put (l[i].bI.foldl put v)) (Aw ((i:Int)+1)):=by
 unfold aLj;rw[IZ l[i].bI AB put (fun j a=>Inc a/\a.length<=v.length+j) (fun a=>aCr l (i:Int) q a 0) ⟨u,AB⟩]
 ·have h:=jQ l[i].bI v;exact amq hi q _ (aE5 u) AB ha
 ·intro k a j z I;have hp:=iG a l[i].bI[j];refine⟨⟨SN I.1,AB⟩,?_⟩;unfold aMz;rw[Cx hi,Ad,dec_lt z,Bz,Ad,Cx z,Ad,aGI a _ I.1 AB,Ad]
 intro k a _;unfold aMz;rw[Cx hi,Ad,Dy];rfl
def aDz :∀(l:A8 AV) (r:A8 Int),Inc r->(∀e∈l,e.bI.length<=40/\e.bQ.length<=40)->
 Inc (l.foldl (fun r e=>e.bQ.foldl put (e.bI.foldl put r)) r)/\(l.foldl (fun r e=>e.bQ.foldl put (e.bI.foldl put r)) r).length<=r.length+l.length*80/\
 ∀x,x∈l.foldl (fun r e=>e.bQ.foldl put (e.bI.foldl put r)) r↔x∈r\/∃e∈l,x∈e.bI\/x∈e.bQ
 | [],r,h,_=>⟨h,Bh,fun x=>Bh⟩
 |e::l,r,h,hs=>by
  have I:=hs e (H8 ..);obtain⟨q,J,u⟩:=aDz l (e.bQ.foldl put (e.bI.foldl put r)) (aE5 (aE5 h)) fun x z=>hs x (IG _ z);have L:=jQ e.bI r;have M:=jQ e.bQ (e.bI.foldl put r);rw[Gt];refine⟨q,by rw[HY];omega,fun x=>(u x).trans ?_⟩;rw[aJX,aJX];constructor
  ·rintro(((h|h)|h)|⟨y,j,h⟩)
   ·exact .inl h
   ·exact .inr ⟨e,H8 ..,.inl h⟩
   ·exact .inr ⟨e,H8 ..,.inr h⟩
   exact .inr ⟨y,IG _ j,h⟩
  rintro(h|⟨y,j,h⟩)
  ·exact .inl (.inl (.inl h))
  rcases FK.1 j with rfl|j
  ·exact h.elim (fun h=>.inl (.inl (.inr h))) fun h=>.inl (.inr h)
  exact .inr ⟨y,j,h⟩
def E9.lists {l:A8 AV} (hs:E9 l):∀e∈l,e.bI.length<=40/\e.bQ.length<=40:=fun e j=>⟨(hs e j).prev,(hs e j).auth⟩
def aiY {l:A8 AV} {i:Nat} (h:i<l.length):(l.take (i+1)).foldl (fun r e=>e.bQ.foldl put (e.bI.foldl put r)) ([]:A8 Int)=l[i].bQ.foldl put (l[i].bI.foldl put ((l.take i).foldl (fun r e=>e.bQ.foldl put (e.bI.foldl put r)) [])):=by
 rw[UG,EL h,RD,Ve];rfl
def alF (l:A8 AV) (hl:l.length<=1000) (hs:E9 l):a0G l=some (dJ l):=by
 unfold a0G aT0;refine eP.eq (JX l.length (fuel_lt AB) (fun i a=>a=(l.take i).foldl (fun r e=>e.bQ.foldl put (e.bI.foldl put r)) []) rfl (fun i a k hi ha q=>?_) fun a k ha=>?_)
 ·subst ha;obtain⟨u,j,_⟩:=aDz (l.take i) [] .nil fun e z=>hs.lists e (lN z);have hp:=hs.lists l[i] (Ew hi);unfold aII;rw[dec_lt hi,Bz,aeW hi k _ u (by rw[GK]at j;simp only[NM]at j;omega) hp.1 hp.2,wrap_succ i AB];exact q _ (aiY hi).symm
 unfold aII;rw[Dy];refine .ret ?_;rw[ha,Gg];rfl
def aiu {l:A8 AV} (hs:E9 l):(dJ l).length<=l.length*80:=by
 have :=(aDz l [] .nil hs.lists).2.1;unfold dJ;simpa using this
def aOm {l:A8 AV} (hs:E9 l) {x:Int}:x∈dJ l↔∃e∈l,x∈e.bI\/x∈e.bQ:=by
 have :=(aDz l [] .nil hs.lists).2.2 x;unfold dJ;rw[this];simp
def aju {l:A8 AV}:Wi l=true↔∀e∈l,(∀x∈e.bI,dQ l x=true)/\∀x∈e.bQ,dQ l x=true:=by
 unfold Wi Va;simp only[El,Du]
def agw (l:A8 AV) (hl:l.length<=1000) (hs:E9 l):aER l=some (Wi l):=by
 have M:=aiu hs;unfold aER;rw[alF l hl hs,Ad,aGN l _ hl AB,Ad];refine BK some ?_;rw[Ph,aju];constructor
 ·intro h e q;have u:Yf l (dJ l)=[]:=Hg aNP
  have key:∀x,x∈e.bI\/x∈e.bQ->dQ l x=true:=fun x j=>by
   cases I:dQ l x with
   |true=>rfl
   |false=>have :=aK4.2 ⟨(aOm hs).2 ⟨e,q,j⟩,I⟩;rw[u]at this;cases this
  exact⟨fun x j=>key x (.inl j),fun x j=>key x (.inr j)⟩
 intro h
 have u:Yf l (dJ l)=[]:=List.eq_nil_iff_forall_not_mem.2 fun x j=>by
  obtain⟨J,z⟩:=aK4.1 j;obtain⟨e,q,L⟩:=(aOm hs).1 J;rw[L.elim ((h e q).1 x) ((h e q).2 x)]at z;cases z
 rw[u];rfl
def ji (l:A8 AV):Prop:=∀e∈l,1<=e.Depth/\e.Depth<=100000
def Hr (l:A8 AV) (x:Int):Int:=(He l x).1.Depth
def Sm (l:A8 AV) (e:AV):AZ:=e.bQ.all (fun x=>Hr l x<e.Depth)&&bif (e.bI.length:Int)==0 then e.Depth==1 else e.bI.all (fun x=>Hr l x<e.Depth)&&e.bI.any fun x=>Hr l x==e.Depth-1
def KG (l:A8 AV):Int:=bif Wi l then bif l.all (Sm l)then 0 else 15 else 14
def aXK {l:A8 AV} (h:ji l) (x:Int):0<=Hr l x/\Hr l x<=100000:=by
 unfold Hr He;cases j:Ef l x with
 |none=>exact⟨Yi 0,Bj⟩
 |some e=>have :=h e (NW j);exact⟨by show 0<=e.Depth;omega,this.2⟩
def aK1 (a b:Int):decide (a>=b)= !decide (a<b):=by by_cases h:a<b<;>simp[h];omega
def uj {α:Type} (l:A8 α) (p:α->AZ):l.any (fun x=> !p x)= !l.all p:=by rw[List.all_eq_not_any_not,rU]
def ahR (l:A8 AV) (e:AV) (hl:l.length<=1000) (M:FD e) (hd:ji l) (O:1<=e.Depth/\e.Depth<=100000):xZ l e=some (Sm l e):=by
 have h1:=M.prev;have h2:=M.auth;have w:Aw (e.Depth-1)=e.Depth-1:=O8 AB AB
 have z:a1E e l ((e.bI.length:Int)==0) 0=some (bif (e.bI.length:Int)==0 then true else e.bI.all (fun x=>Hr l x<e.Depth)&&e.bI.any fun x=>Hr l x==e.Depth-1):=by
  unfold a1E;refine eP.eq (JX e.bI.length (fuel_lt AB) (fun i a=>(∀j,(u:j<i)->(hl:j<e.bI.length)->decide (Hr l e.bI[j]<e.Depth)=true)/\a=(((e.bI.length:Int)==0)||(e.bI.take i).any fun x=>Hr l x==e.Depth-1)) ⟨fun j u=>AB,Bh⟩ (fun i a k hi ha U=>?_) fun a k ha=>?_)
  ·have Y:((e.bI.length:Int)==0)=false:=by simp;intro Z;rw[Z]at hi;simp at hi
   unfold a0V;rw[DR hi,Lc l _ AB,Ad,aK1];refine eP.bif (fun q=>.ret ?_) fun q=>?_
   ·have q:decide (Hr l e.bI[i]<e.Depth)=false:=by unfold Hr;simpa using q
    rw[Y,Zc (Ew hi) q];rfl
   have q:decide (Hr l e.bI[i]<e.Depth)=true:=by unfold Hr;simpa using q
   rw[show(bif a then some true else some ((He l e.bI[i]).1.Depth==Aw (e.Depth-1)))=some (a||(Hr l e.bI[i]==e.Depth-1)) by rw[w];cases a<;>rfl,Ad,wrap_succ i AB];refine U _ ⟨fun j u I=>?_,?_⟩
   ·by_cases ej:j=i
    ·subst ej;exact q
    exact ha.1 j AB I
   rw[ha.2,UG,EL hi,RD,aGh,Bool.or_assoc];simp
  unfold a0V;rw[EF];refine .ret ?_;rw[ha.2,Gg,all_good fun j u=>ha.1 j u u];cases((e.bI.length:Int)==0)<;>simp
 unfold xZ
 have J:aOH e l 0=some (e.bQ.all (fun x=>Hr l x<e.Depth)&&(bif (e.bI.length:Int)==0 then true else e.bI.all (fun x=>Hr l x<e.Depth)&&e.bI.any fun x=>Hr l x==e.Depth-1)):=by
  unfold aOH;rw[Hz e.bQ (fuel_lt AB) (fun x=> !decide (Hr l x<e.Depth)) false (a1E e l ((e.bI.length:Int)==0) 0)]
  ·rw[z,uj];cases e.bQ.all (fun x=>Hr l x<e.Depth)<;>rfl
  ·intro k i hi;unfold aCL;rw[DR hi,Lc l _ AB,Ad,aK1];rfl
  intro k;unfold aCL;rw[EF]
 rw[J];unfold Sm;have L:(e.Depth != 1)= !(e.Depth==1):=rfl;rw[L];cases((e.bI.length:Int)==0)<;>cases(e.Depth==1)<;>cases e.bQ.all (fun x=>Hr l x<e.Depth)<;>rfl
def aI9 {l:A8 AV} {m:A8 (Int×Int)} (h:YT l m) {x:Int} (j:dQ l x=true):∃e,Ak l ((DX m x).getD 0)=some e/\e.Depth=Hr l x:=⟨_,h.get (OL j).1,rfl⟩
def akP (p:A8 Int) (f:Int->Int) (d a:Int) (j:∃y∈p,f y=a) (ha:∀y∈p,f y<=a):(p.all (fun x=>f x<d)&&p.any fun x=>f x==d-1)=bif d>a then d-a==1 else false:=by
 obtain⟨y,j,e⟩:=j;by_cases h:d>a
 ·have z:p.all (fun x=>f x<d)=true:=El.2 fun x q=>by have :=ha x q;simp;omega
  rw[z,Gw,JG h,Bz,Ph,Iu];constructor
  ·rintro⟨x,q,u⟩;have :=ha x q;have :=eq_of_beq u;simp;omega
  intro u;have :=eq_of_beq u;exact⟨y,j,EW⟩
 rw[JK h,BX,Zc j EW];rfl
def ac8 (l:A8 AV) (m:A8 (Int×Int)) (e:AV) (hm:YT l m) (U:FD e) (J:Va l e=true) (hd:ji l) (Y:1<=e.Depth/\e.Depth<=100000):aAy l m e=some (Sm l e,m):=by
 have h1:=U.prev;have h2:=U.auth;unfold Va at J;simp only[Du,El]at J;unfold aAy aVv;rw[Hz e.bQ (fuel_lt AB) (fun x=> !decide (Hr l x<e.Depth)) (false,m) (some ((bif (e.bI.length:Int)==0 then e.Depth==1 else e.bI.all (fun x=>Hr l x<e.Depth)&&e.bI.any fun x=>Hr l x==e.Depth-1),m))]
 ·rw[uj];unfold Sm;cases e.bQ.all (fun x=>Hr l x<e.Depth)<;>rfl
 ·intro k i hi;unfold aJ8;obtain⟨x,O,q⟩:=aI9 hm (J.2 _ (Ew hi));rw[DR hi,O,Ad,aK1,q]
 intro k;unfold aJ8;rw[EF];cases u:((e.bI.length:Int)==0)with
 |true=>rfl
 |false=>
  have hp:0<e.bI.length:=by
   rcases XP e.bI.length with h|h
   ·rw[h]at u;cases u
   exact h
  obtain⟨x,O,q⟩:=aI9 hm (J.1 _ (Ew hp));have Z:Ak e.bI 0=some e.bI[0]:=Cx (i:=0) hp;rw[BX,BX,Z,Ad,O,Ad,q];unfold aSV;refine eP.eq (JX e.bI.length (fuel_lt AB) (fun i a=>(0<=a/\a<=100000)/\(∃y∈e.bI,Hr l y=a)/\∀y∈e.bI.take i,Hr l y<=a) ⟨aXK hd _,⟨_,Ew hp,rfl⟩,fun y L=>by simp at L⟩ (fun i a k2 hi ha hk=>?_) fun a k2 ha=>?_)
  ·unfold aHj;obtain⟨y,L,I⟩:=aI9 hm (J.1 _ (Ew hi));have hb:=aXK hd e.bI[i];rw[DR hi,L,Ad,wrap_succ i AB,I]
   have M:Pv a (Hr l e.bI[i])=a/\Hr l e.bI[i]<=a\/Pv a (Hr l e.bI[i])=Hr l e.bI[i]/\a<=Hr l e.bI[i]:=by
    unfold Pv;by_cases h:Hr l e.bI[i]>a
    ·rw[JG h];exact .inr ⟨rfl,AB⟩
    rw[JK h];exact .inl ⟨rfl,AB⟩
   refine hk _ ⟨AB,?_,fun z u=>?_⟩
   ·rcases M with h|h
    ·rw[h.1];exact ha.2.1
    rw[h.1];exact⟨_,Ew hi,rfl⟩
   rw[UG,EL hi,RD,Iy,Md]at u;rcases u with u|rfl
   ·have :=ha.2.2 z u;omega
   omega
  obtain⟨hb,⟨y,L,I⟩,j⟩:=ha;rw[Gg]at j;unfold aHj;rw[EF,O8 AB AB,akP e.bI (Hr l) e.Depth a ⟨y,L,I⟩ j];cases decide (e.Depth>a)<;>exact .ret rfl
def adK (l:A8 AV) (hl:l.length<=100) (hs:E9 l) (hd:ji l):aAm l=some (KG l):=by
 unfold aAm KG;rw[ajx l hl hs,Ad];cases L:Wi l with
 |false=>rfl
 |true=>
  have M:∀e∈l,Va l e=true:=El.1 L;refine eP.eq ((wK l AB).bind fun m hm=>?_);unfold aVk;refine Yr (body:=aLG l) (Q:=fun b=>b=bif l.all (Sm l)then 0 else 15) (fun n a b=>∃i:Nat,a=i/\i+n=l.length/\b=m/\∀j,(u:j<i)->(hl:j<l.length)->Sm l l[j]=true) ?_ Ap l.length 0 m (fuel_lt AB) ⟨0,rfl,AB,rfl,fun j u=>AB⟩;rintro n a b k ⟨i,rfl,U,rfl,I⟩ O;unfold aLG;by_cases hi:i<l.length
  ·have q:=Ew hi;rw[DR hi,ac8 l b l[i] hm (hs _ q) (M _ q) hd (hd _ q),Ad];cases J:Sm l l[i]with
   |false=>exact .ret (by rw[Zc q J];rfl)
   |true=>
    refine O (n-1) _ _ AB ⟨i+1,wrap_succ i AB,AB,rfl,fun j u z=>?_⟩;by_cases e:j=i
    ·subst e;exact J
    exact I j AB z
  have :i=l.length:=AB
  subst this;rw[EF];exact .ret (by rw[all_good fun j u=>I j u u];rfl)
def aWb (l:A8 AV) (hl:l.length<=100) (hs:E9 l) (hd:ji l):aFj l=some (KG l):=by
 unfold aFj KG;rw[agw l AB hs,Ad];cases M:Wi l with
 |false=>rfl
 |true=>
  show aFp l 0=_;unfold aFp;refine eP.eq (kR l.length (fuel_lt AB) (fun i=>∀j,(u:j<i)->(hl:j<l.length)->Sm l l[j]=true) (fun j u=>AB) (fun i k hi z L=>?_) fun k z=>?_)
  ·have q:=Ew hi;unfold aGx;rw[DR hi,ahR l l[i] AB (hs _ q) hd (hd _ q),Ad,wrap_succ i AB];cases J:Sm l l[i]with
   |false=>exact .ret (by rw[Zc q J];rfl)
   |true=>
    refine L fun j u I=>?_;by_cases e:j=i
    ·subst e;exact J
    exact z j AB I
  unfold aGx;rw[Dy];exact .ret (by rw[all_good fun j u=>z j u u];rfl)
section
variable {α β R:Type} {lt:α->α->AZ}
def LW (lt:α->α->AZ) (A:A8 α) (x:α):A8 α:=(A.reverse.dropWhile (lt x)).reverse++x::(A.reverse.takeWhile (lt x)).reverse
def anZ {A:A8 α} {a x:α} (h:lt x a=true):LW lt (A++[a]) x=LW lt A x++[a]:=by
 unfold LW;rw[aGw,List.reverse_singleton,List.singleton_append,aOz h,List.takeWhile_cons_of_pos h,List.reverse_cons,Jd];rfl
def agI {A:A8 α} {a x:α} (h:lt x a=false):LW lt (A++[a]) x=A++a::[x]:=by
 have h':¬lt x a=true:=by rw[h];simp
 unfold LW;rw[aGw,List.reverse_singleton,List.singleton_append,aVp h',List.takeWhile_cons_of_neg h'];simp
def ac4 (A:A8 α) (x:α):(LW lt A x).length=A.length+1:=by
 unfold LW;have :=BK List.length (vI (p:=lt x) (l:=A.reverse));simp only[En,List.length_reverse,HY]at this ⊢;omega
def agc (A:A8 α) (x:α):(LW lt A x).Perm (x::A):=by
 unfold LW;refine aEi.trans (List.Perm.cons x ?_);rw[←aGw,vI,List.reverse_reverse]
def agM {lt':β->β->AZ} {f:α->β} (h:∀x a,lt x a=lt' (f x) (f a)) (A:A8 α) (x:α):(LW lt A x).map f=LW lt' (A.map f) (f x):=by
 have e:lt x=lt' (f x)∘f:=funext fun a=>h x a;unfold LW;have j:(A.map f).reverse=A.reverse.map f:=aNH.symm;rw[j,List.dropWhile_map,List.takeWhile_map,LP,JR,aNH,aNH,e]
def aTd {lt':β->β->AZ} {f:α->β} (h:∀x a,lt x a=lt' (f x) (f a)):∀(l A:A8 α),(l.foldl (LW lt) A).map f=(l.map f).foldl (LW lt') (A.map f)
 | [],A=>rfl
 |x::l,A=>by rw[Gt,aTd h l,JR,Gt,agM h]
def aC0 :∀(l A:A8 α),(l.foldl (LW lt) A).length=A.length+l.length
 | [],A=>rfl
 |x::l,A=>by rw[Gt,aC0 l,ac4,HY];omega
def aTe :∀(l A:A8 α),(l.foldl (LW lt) A).Perm (A++l)
 | [],A=>by rw[PK];exact .refl _
 |x::l,A=>by
  rw[Gt];exact(aTe l (LW lt A x)).trans (((agc A x).append_right l).trans (aEi (l₁:=A) (l₂:=l) (a:=x)).symm)
def a1b (A:A8 α) (x:α) (B:A8 α):Ak (A++x::B) (A.length:Int)=some x:=by rw[a0U];simp
def aNW (A:A8 α) (a x:α) (B:A8 α):Ak (A++a::x::B) ((A.length+1:Nat):Int)=some x:=by rw[a0U];simp
def set_mid (A:A8 α) (x y:α) (B:A8 α):(A++x::B).set A.length y=A++y::B:=Bh
def aSR (A:A8 α) (a x y:α) (B:A8 α):(A++a::x::B).set (A.length+1) y=A++a::y::B:=by
 have :=set_mid (A++[a]) x y B;simpa using this
def bubble {body:(Int->A8 α->AL R)->Int->A8 α->AL R} (j:A8 α->AL R) (N:Nat) (U:∀k x B,(x::B).length=N->body k 0 (x::B)=j (x::B))
 (hs:∀k A a x B,(A++a::x::B).length=N->body k ((A.length+1:Nat):Int) (A++a::x::B)=bif lt x a then k (A.length:Int) (A++x::a::B)else j (A++a::x::B)):
 ∀n (A:A8 α) (x:α) (B:A8 α),A.length=n->(A++x::B).length=N->∀m,n<m->aU body m (A.length:Int) (A++x::B)=j (LW lt A x++B):=by
 intro n
 induction n with
 |zero=>
  intro A x B I J m hm;obtain⟨m,rfl⟩:∃L,m=L+1:=⟨m-1,AB⟩
  obtain rfl:=Hg I;exact U _ x B J
 |succ n Y=>
  intro A x B I J m hm;obtain⟨m,rfl⟩:∃L,m=L+1:=⟨m-1,AB⟩
  have q:A≠[]:=fun e=>by subst e;cases I
  obtain⟨A',a,rfl⟩:∃A' a,A=A'++[a]:=⟨A.dropLast,A.getLast q,(List.dropLast_concat_getLast q).symm⟩
  have M:A'.length=n:=UR
  have O:A'++[a]++x::B=A'++a::x::B:=Bh
  have u:(A'++a::x::B).length=N:=by rw[←O];exact J
  have Z:(A'++[a]).length=A'.length+1:=Bh
  rw[O,Z];show body (aU body m) _ _=_;rw[hs _ A' a x B u];cases z:lt x a with
  |true=>
   rw[Bz,Y A' x (a::B) M (by simp at u ⊢;omega) m AB,anZ z];simp
  |false=>rw[BX,agI z];simp
end
def Ii (a b:AV):AZ:=decide (a.Depth<b.Depth)||((a.Depth==b.Depth)&&(a.Id<b.Id))
def ig (l:A8 AV):A8 AV:=l.foldl (LW Ii) []
def Qd (l:A8 AV):A8 Int:=(ig l).map (·.Id)
def aMF (l:A8 AV):(ig l).length=l.length:=by unfold ig;rw[aC0];simp
def aiN (l:A8 AV):(ig l).Perm l:=by have :=aTe (lt:=Ii) l [];rwa [Iq]at this
def abY (a b:AV):aEw a b=some (Ii a b):=by
 unfold aEw Ii;cases decide (a.Depth<b.Depth)<;>cases(a.Depth==b.Depth)<;>rfl
def aW2 {α β:Type} {f:β->α->β} {b:β} {l:A8 α} {i:Nat} (h:i<l.length):(l.take (i+1)).foldl f b=f ((l.take i).foldl f b) l[i]:=by
 rw[UG,EL h,RD,Ve];rfl
def map_take {α β:Type} {f:α->β} {l:A8 α} {i:Nat} (h:i<l.length):(l.take (i+1)).map f=(l.take i).map f++[f l[i]]:=by
 rw[UG,EL h,RD,LP];rfl
def ak9 (l:A8 AV) (hl:l.length<=1000000):aAR l=some (l.map (·.Id)):=by
 unfold aAR aWk;refine eP.eq (JX l.length (fuel_lt AB) (fun i a=>a=(l.take i).map (·.Id)) rfl (fun i a k hi ha j=>?_) fun a k ha=>?_)
 ·unfold aGn;have hlen:a.length<=i:=jP
  rw[DR hi,EC GZ,Ad,wrap_succ i AB];exact j _ xw
 unfold aGn;rw[EF];exact .ret dA
def ahF (l:A8 AV) (hl:l.length<=1000):aDj l=some (Qd l):=by
 unfold aDj aXv;refine eP.eq (JX l.length (fuel_lt AB) (fun i a=>a=(l.take i).foldl (LW Ii) []) rfl (fun i a k hi ha u=>?_) fun a k ha=>?_)
 ·have hlen:a.length=i:=by rw[ha,aC0,GK];simp;omega
  unfold aKW;rw[DR hi,EC GZ,Ad];unfold aV9;have j:=bubble (lt:=Ii) (body:=aAA k (i:Int)) (fun v=>k v ((i+1:Nat):Int)) (i+1) (fun k2 x B q=>?_) (fun k2 A b x B q=>?_) i a l[i] [] hlen EW Ap (fuel_lt AB)
  ·rw[hlen]at j;rw[j,PK];exact u _ (by rw[aW2 hi,ha])
  ·unfold aAA su;rw[wrap_succ i AB];rfl
  have hA:A.length+2<=i+1:=by rw[←q];simp
  have z:Aw (((A.length+1:Nat):Int)-1)=(A.length:Int):=YQ
  unfold aAA su;rw[JG (show((A.length+1:Nat):Int)>0 by omega),Bz,aNW,Ad,z,a1b,Ad,abY,Ad,wrap_succ i AB];cases Ii x b with
  |false=>rfl
  |true=>
   simp only[Bz,Ad,ZX];rw[aSR,a1b,Ad,set_mid]
 unfold aKW;rw[Dy,BX];have e:a=ig l:=by rw[ha,Gg];rfl
 rw[e,ak9 _ (by rw[aMF];omega)];exact .ret rfl
def wI (e:AV):Sz:=⟨e.Depth,e.Id⟩
def kF (a b:Sz):AZ:=decide (a.o7<b.o7)||((a.o7==b.o7)&&(a.ng<b.ng))
def adG (a x:Sz):(bif a.o7<x.o7 then some true else(bif (a.o7==x.o7)then some (decide (a.ng<=x.ng))else some false).bind fun j=>some j)=some (!kF x a):=by
 unfold kF;by_cases q:a.o7<x.o7
 ·rw[JG q,Bz,JK AB,show(x.o7==a.o7)=false by simp;omega];rfl
 rw[JK q,BX];by_cases u:a.o7=x.o7
 ·rw[u,JK (show ¬x.o7<x.o7 by omega)];simp only[TW,Bz,Ad,Nr,Gw];by_cases z:a.ng<=x.ng
  ·rw[JG z,JK AB];rfl
  rw[JK z,JG AB];rfl
 rw[show(a.o7==x.o7)=false by simpa using u,JG (show x.o7<a.o7 by omega)];rfl
def alX (l:A8 AV) (hl:l.length<=1000):aBB l=some (Qd l):=by
 have J:Iw 16 aBb 0 (l.length:Int)=some []:=aSQ
 unfold aBB;rw[J,Ad];unfold aSq;refine eP.eq (JX l.length (fuel_lt AB) (fun i a=>a=((l.take i).map wI).foldl (LW kF) []) rfl (fun i a k hi ha L=>?_) fun a k ha=>?_)
 ·have hlen:a.length=i:=by rw[ha,aC0,Dc,GK];simp;omega
  unfold aIo;rw[DR hi,Cx hi,Ad,EC GZ,Ad];unfold aWr;have M:Aw (((a++[(⟨l[i].Depth,l[i].Id⟩:Sz)]).length:Int)-1)=(a.length:Int):=aKg
  rw[M];have O:=bubble (lt:=kF) (body:=wU k (i:Int)) (fun v=>k v ((i+1:Nat):Int)) (i+1) (fun k2 x B u=>?_) (fun k2 A b x B u=>?_) i a (wI l[i]) [] hlen EW Ap (fuel_lt AB)
  ·show eP (aU (wU k (i:Int)) Ap (a.length:Int) (a++[wI l[i]])) _;rw[O,PK];exact L _ (by rw[map_take hi,Ve,ha];rfl)
  ·unfold wU vM;rw[wrap_succ i AB];rfl
  have hA:A.length+2<=i+1:=by rw[←u];simp
  have U:Aw (((A.length+1:Nat):Int)-1)=(A.length:Int):=YQ
  unfold wU vM;rw[JG (show((A.length+1:Nat):Int)>0 by omega),Bz,U,a1b,Ad,aNW,Ad,adG,Ad,wrap_succ i AB];cases kF x b with
  |false=>rfl
  |true=>
   simp only[FB,BX,Bz,Ad,ZX];rw[set_mid,aNW,Ad,aSR]
 unfold aIo;rw[EF];have e:a=(ig l).map wI:=by rw[ha,Gg];exact(aTd (lt:=Ii) (lt':=kF) (f:=wI) (fun _ _=>rfl) l []).symm
 have Y:a.length=l.length:=by rw[e,Dc,aMF]
 have Z:Iw 8 0 (a.length:Int) (a.length:Int)=some (List.replicate a.length (0:Int)):=by unfold Iw;rw[Di ⟨AB,Yi _,AB⟩];simp
 have e2:Qd l=a.map (·.ng):=by rw[e,Yx];rfl
 rw[Z,Ad,e2];unfold aOt;refine Qr (body:=aIA a) (Q:=fun r=>r=a.map (·.ng)) (fun n (x:Int) (o:A8 Int) (p:A8 Sz)=>∃i:Nat,x=i/\i+n=a.length/\o=(a.take i).map (·.ng)++List.replicate (a.length-i) 0/\p=a) ?_ Ap a.length 0 (List.replicate a.length 0) a (fuel_lt AB) ⟨0,rfl,AB,Bh,rfl⟩;rintro n x o p k2 ⟨i,rfl,hn,I,rfl⟩ q;unfold aIA;by_cases hi:i<p.length
 ·have hm:((p.take i).map (·.ng)).length=i:=by rw[Dc,GK];omega
  obtain⟨z,hz⟩:∃z,p.length-i=z+1:=⟨p.length-i-1,AB⟩
  have j:o=(p.take i).map (·.ng)++0::List.replicate z 0:=by rw[I,hz,List.replicate_succ]
  have g2:Ak o (i:Int)=some 0:=by have :=a1b ((p.take i).map (·.ng)) 0 (List.replicate z 0);rw[hm]at this;rw[j];exact this
  have s2:o.set i p[i].ng=(p.take i).map (·.ng)++p[i].ng::List.replicate z 0:=by have :=set_mid ((p.take i).map (·.ng)) 0 p[i].ng (List.replicate z 0);rw[hm]at this;rw[j];exact this
  rw[DR hi,g2,Ad];refine q (n-1) _ _ _ AB ⟨i+1,wrap_succ i AB,AB,?_,rfl⟩;rw[ZX,s2,map_take hi,show p.length-(i+1)=z by omega];simp
 have :i=p.length:=AB
 subst this;rw[EF];exact .ret (by rw[I];simp)
def JF (l:A8 AV) (x y:Int):AZ:=dQ l y&&(y != x&&ER (ev l y).bI x)
def IU (l:A8 AV) (ids:A8 Int):A8 Int:=(Ee ids).filter fun x=> !ids.any (JF l x)
def aeK {α:Type} {a b:A8 α} (p:α->AZ) (h:∀x,x∈a↔x∈b):a.any p=b.any p:=by
 rw[Ph,Iu,Iu];exact⟨fun⟨x,j,k⟩=>⟨x,(h x).1 j,k⟩,fun⟨x,j,k⟩=>⟨x,(h x).2 j,k⟩⟩
def ajO (ids:A8 Int) (p:Int->AZ):Ee (ids.filter p)=(Ee ids).filter p:=
 Ci (KW _) ((KW ids).sublist Qo) fun x=>by rw[KN,Hy,Hy,KN]
def nN (l:A8 AV) (ids:A8 Int):(IU l ids).length<=ids.length:=FC (Jr _ _) (MG ids)
def uM {α:Type} {p:α->AZ} {l:A8 α} {i:Nat} (h:i<l.length):(l.take (i+1)).filter p=(l.take i).filter p++bif p l[i]then[l[i]]else[]:=by
 rw[UG,EL h,RD,Py];cases hp:p l[i]<;>simp[hp]
def zT {α:Type} {p:α->AZ} {l:A8 α} {i:Nat} (h:i<l.length):(l.take (i+1)).any p=((l.take i).any p||p l[i]):=by
 rw[UG,EL h,RD,aGh];simp
def aQJ (l:A8 AV) (ids:A8 Int) (hl:l.length<=100) (hs:E9 l) (hi0:ids.length<=1000):zL l ids=some (IU l ids):=by
 unfold zL;refine eP.eq ((wK l AB).bind fun m hm=>?_);unfold aYK;refine Qr (body:=aLE ids l) (Q:=fun r=>r=IU l ids) (fun n a b c=>∃i:Nat,a=i/\i+n=ids.length/\b=m/\∀x,(DX c x).getD false=(ids.take i).any (JF l x)) ?_ Ap ids.length 0 m [] (fuel_lt AB) ⟨0,rfl,AB,rfl,fun x=>rfl⟩;rintro n a b c k ⟨i,rfl,hn,rfl,M⟩ O;unfold aLE;by_cases hi:i<ids.length
 ·have hj:∀Y,(∀x,(DX Y x).getD false=((ids.take i).any (JF l x)||JF l x ids[i]))->eP (aEJ k (i:Int) b Y) (fun r=>r=IU l ids):=fun Y h8=>O (n-1) _ _ _ AB ⟨i+1,wrap_succ i AB,AB,rfl,fun x=>by rw[h8,zT hi]⟩;rw[DR hi,hm.isSome];cases q:dQ l ids[i]with
  |false=>exact hj c fun x=>by rw[M];unfold JF;rw[q];simp
  |true=>
   obtain⟨hg,_⟩:=OL q;rw[hm.get hg,Ad];have hp:=(hs _ (NW hg)).prev;simp only[FB,BX];unfold aXo;refine Qr (body:=aFr (ev l ids[i]) ids[i] k (i:Int)) (Q:=fun r=>r=IU l ids) (fun U a2 b2 c2=>∃j:Nat,a2=j/\j+U=(ev l ids[i]).bI.length/\b2=b/\∀x,(DX c2 x).getD false=((ids.take i).any (JF l x)||(ids[i] != x&&ER ((ev l ids[i]).bI.take j) x))) ?_ Ap (ev l ids[i]).bI.length 0 b c (fuel_lt AB) ⟨0,rfl,AB,rfl,fun x=>by rw[M,qV];unfold ER;simp⟩;rintro U a2 b2 c2 k2 ⟨j,rfl,hn2,rfl,u⟩ z;unfold aFr;by_cases I:j<(ev l ids[i]).bI.length
   ·have J:∀x,ER ((ev l ids[i]).bI.take (j+1)) x=(ER ((ev l ids[i]).bI.take j) x||(x==(ev l ids[i]).bI[j])):=fun x=>by
     rw[Ph,ZN,LZ,LZ,UG,EL I,RD,Iy,Md,PU]
    rw[DR I];cases L:(ev l ids[i]).bI[j] != ids[i]with
    |true=>
     refine z (U-1) _ _ _ AB ⟨j+1,wrap_succ j AB,AB,rfl,fun x=>?_⟩;rw[Ql,J];cases Z:x==(ev l ids[i]).bI[j]with
     |true=>
      have e:=eq_of_beq Z;subst e;rw[show(ids[i] != (ev l ids[i]).bI[j])=true by rw[bne_comm];exact L];simp
     |false=>rw[BX,u,ML]
    |false=>
     refine z (U-1) _ _ _ AB ⟨j+1,wrap_succ j AB,AB,rfl,fun x=>?_⟩;rw[J,u];have e:(ev l ids[i]).bI[j]=ids[i]:=YM
     rw[e];cases Z:x==ids[i]with
     |false=>simp
     |true=>have e2:=eq_of_beq Z;subst e2;simp
   have :j=(ev l ids[i]).bI.length:=AB
   subst this;rw[EF];exact hj _ fun x=>by rw[u,Gg];unfold JF;rw[q];rfl
 have :i=ids.length:=AB
 subst this;rw[EF];unfold aOL;rw[Gg]at M;refine JX ids.length (fuel_lt AB) (fun i a=>a=(ids.take i).filter fun x=> !ids.any (JF l x)) rfl (fun i a k2 hi ha O=>?_) fun a k2 ha=>?_
 ·have hal:a.length<=i:=aKp
  unfold aLk aAt;rw[DR hi,wrap_succ i AB,M];have hf:=uM (p:=fun x=> !ids.any (JF l x)) hi;cases hb:ids.any (JF l ids[i])with
  |true=>exact O _ (by rw[hf,ha,hb];simp)
  |false=>
   simp only[JC,Bz];rw[EC GZ,Ad];exact O _ (by rw[hf,ha,hb];rfl)
 have hal:a.length<=ids.length:=aKp
 unfold aLk;rw[EF,ZM _ AB];exact .ret (by rw[ha,Gg,ajO];rfl)
def aZN {l:A8 Int} (h:Inc l) {i j:Nat} (hi:i<l.length) (u:j<l.length) (e:l[i]=l[j]):i=j:=by
 rcases aC6 i j with q|q|q
 ·have :=KC.1 h i j hi u q;omega
 ·exact q
 have :=KC.1 h j i u hi q;omega
def aOP (l:A8 AV) (ids:A8 Int) (hl:l.length<=1000) (hs:E9 l) (hi0:ids.length<=1000):a1z l ids=some (IU l ids):=by
 have I:=KW ids;have hlen:=MG ids;have J:∀x,(Ee ids).any (JF l x)=ids.any (JF l x):=fun x=>aeK _ fun _=>KN;unfold a1z IU;rw[aKf _ AB,Ad];have q:(fun x=> !ids.any (JF l x))=fun x=> !(Ee ids).any (JF l x):=funext fun x=>by rw[J]
 rw[q];generalize Ee ids=S at I hlen;clear J q;unfold aXN;refine eP.eq (JX S.length (fuel_lt AB) (fun i a=>a=(S.take i).filter fun x=> !S.any (JF l x)) rfl (fun i a k hi ha hk=>?_) fun a k ha=>?_)
 ·have hal:a.length<=i:=aKp
  have hf:=uM (p:=fun x=> !S.any (JF l x)) hi;unfold aI8;rw[dec_lt hi,Bz];unfold aPx;refine Qr (body:=aGi S l (i:Int) k) (Q:=_) (fun n b x c=>∃j:Nat,x=j/\j+n=S.length/\c=a/\b= !(S.take j).any (JF l S[i])) ?_ Ap S.length true 0 a (fuel_lt AB) ⟨0,rfl,AB,rfl,Bh⟩;rintro n b x c k2 ⟨j,rfl,hn,rfl,M⟩ O;unfold aGi;by_cases U:j<S.length
  ·have u:∀Y,Y=(!((S.take j).any (JF l S[i])||JF l S[i] S[j]))->eP (aBJ k2 (j:Int) Y c) (fun x=>x=(S.filter fun x=> !S.any (JF l x))):=fun Y h'=>O (n-1) _ _ _ AB ⟨j+1,wrap_succ j AB,AB,rfl,by rw[zT U];exact h'⟩;rw[DR U,Lc l _ AB,Ad,Pn]
   have Z:(((j:Int) != (i:Int)))=(S[j] != S[i]):=by
    rw[Ph];simp only[Uz,ne_eq];constructor
    ·intro h e;exact h (by rw[aZN I U hi e])
    intro h e;have :j=i:=AB
    subst this;exact h rfl
   rw[Z];cases z:(Ef l S[j]).isSome with
   |false=>
    unfold cG;exact u b (by rw[M];unfold JF dQ;rw[z];simp)
   |true=>
    cases hq:S[j] != S[i]with
    |false=>
     unfold cG;exact u b (by rw[M];unfold JF;rw[hq];simp)
    |true=>
     simp only[Bz]
     have hpl:(He l S[j]).1.bI.length<=40:=by
      obtain⟨e,he⟩:=SP.1 z;rw[OE he];exact(hs e (NW he)).prev
     rw[Cx hi,Ad,Vt _ _ AB,Ad];unfold cG;cases hh:ER (He l S[j]).1.bI S[i]with
     |true=>exact u false (by unfold JF dQ ev;rw[z,hq,hh];simp)
     |false=>exact u b (by rw[M];unfold JF dQ ev;rw[z,hq,hh];simp)
  have :j=S.length:=AB
  subst this;rw[EF,M,Gg];unfold a0S;rw[wrap_succ i AB];cases L:S.any (JF l S[i])with
  |true=>exact hk _ (by rw[hf,ha,L];simp)
  |false=>
   simp only[JC,Bz];rw[Cx hi,Ad,EC GZ,Ad];exact hk _ (by rw[hf,ha,L];rfl)
 unfold aI8;rw[Dy];exact .ret dA
def nJ (x y:AV):AZ:=y.Kind==x.Kind&&(y.Key=x.Key)
def MC (q:A8 BJ):A8 AV->A8 AV->AZ
 |_,[]=>true
 |j,x::xs=>(q.any fun k=>FV k x)&& !j.any (nJ x)&&MC q (j++[x]) xs
def Qn (x:AV):AZ:=x.Kind==1&&(x.Key=CS)
def TU (l:A8 AV) (e:AV):Int:=
 bif !e.bQ.all (dQ l)then 14 else bif !(ofIds l e.bQ).all (fun x=>x.Room=e.Room)then 13
 else bif MC (keysOf e) [] (ofIds l e.bQ)&&(e.Kind==1||(ofIds l e.bQ).any Qn)then 0 else 16
def eL {k:BJ} {x:AV}:FV k x=true↔x.Kind=k.Kind/\x.Key=k.Key:=by unfold FV;simp
def aXV {x y:AV}:nJ x y=true↔y.Kind=x.Kind/\y.Key=x.Key:=by unfold nJ;simp
def aVs {j:A8 BJ} {X:A8 AV} {i:Nat} (h:i<X.length):MC j (X.take i) (X.drop i)=((j.any fun k=>FV k X[i])&& !(X.take i).any (nJ X[i])&&MC j (X.take (i+1)) (X.drop (i+1))):=by
 rw[Lh h,UG,EL h];rfl
def aQh {j:A8 BJ} (X:A8 AV):MC j (X.take X.length) (X.drop X.length)=true:=by rw[PZ];rfl
def aRh (X:A8 AV) (k:Int) (key:BD) (h:X.length<=1000):YO (X.map fun x=>(⟨x.Kind,x.Key,0⟩:BJ)) k key=some (X.any fun y=>y.Kind==k&&(y.Key=key)):=by
 unfold YO aNt;rw[Hz (X.map fun x=>(⟨x.Kind,x.Key,0⟩:BJ)) (fuel_lt WL) (fun y=>y.Kind==k&&(y.Key=key)) true (some false)]
 ·rw[List.any_map];show(bif X.any (fun y=>y.Kind==k&&(y.Key=key))then some true else some false)=_;cases X.any (fun y=>y.Kind==k&&(y.Key=key))<;>rfl
 ·intro q i hi;unfold zl;rw[DR hi,Cx hi,Ad,Ir];cases((X.map fun x=>(⟨x.Kind,x.Key,0⟩:BJ))[i].Kind==k)<;>rfl
 intro q;unfold zl;rw[Dy];rfl
def aZY (j:A8 BJ) (x:AV) (h:j.length<=1000):YO j x.Kind x.Key=some (j.any fun k=>FV k x):=by
 unfold YO aNt;rw[Hz j (fuel_lt AB) (fun k=>FV k x) true (some false)]
 ·cases j.any (fun k=>FV k x)<;>rfl
 ·intro q i hi;unfold zl;rw[DR hi,Cx hi,Ad,Ir];have u:(j[i].Kind==x.Kind)=(x.Kind==j[i].Kind):=by rw[Ph,PU,PU];exact eq_comm
  have z:decide (j[i].Key=x.Key)=decide (x.Key=j[i].Key):=jU.2 eq_comm;unfold FV;rw[u,z];cases(x.Kind==j[i].Kind)<;>rfl
 intro q;unfold zl;rw[Dy];rfl
def abN (X:A8 AV) (e:AV) (O:X.length<=40):aL9 X (keysOf e) e [] 0=some (bif MC (keysOf e) [] X&&(e.Kind==1||X.any Qn)then 0 else 16):=by
 have I:=RS e;unfold aL9;refine eP.eq (JX X.length (fuel_lt AB) (fun i a=>a=(X.take i).map (fun x=>(⟨x.Kind,x.Key,0⟩:BJ))/\MC (keysOf e) [] X=MC (keysOf e) (X.take i) (X.drop i)) ⟨rfl,rfl⟩ (fun i a k hi ha J=>?_) fun a k ha=>?_)
 ·obtain⟨rfl,j⟩:=ha;unfold aNh;rw[DR hi,Cx hi,Ad,aZY _ _ AB,Ad];rw[aVs hi]at j
  have u:∀b,MC (keysOf e) [] X=(!b&&MC (keysOf e) (X.take (i+1)) (X.drop (i+1)))->eP (vT X (i:Int) ((X.take i).map fun x=>(⟨x.Kind,x.Key,0⟩:BJ)) k b) (· =bif MC (keysOf e) [] X&&(e.Kind==1||X.any Qn)then 0 else 16):=fun b z=>by
   unfold vT;cases b with
   |true=>exact .ret rV
   |false=>
    simp only[BX];rw[Cx hi,Ad,Ad,EC (by simp only[QO,Dc,GK];omega),Ad,wrap_succ i AB];exact J _ ⟨by rw[map_take hi],rV⟩
  cases hm:(keysOf e).any fun k=>FV k X[i]with
  |false=>
   rw[JC,Bz];exact u true (by rw[j,hm];rfl)
  |true=>
   rw[FB,BX];have L:(fun y:AV=>y.Kind==X[i].Kind&&(y.Key=X[i].Key))=nJ X[i]:=rfl;rw[Ad,Ad,aRh _ _ _ aYk,Ad,L];exact u _ (by rw[j,hm,Gw])
 obtain⟨rfl,j⟩:=ha;rw[aQh]at j;unfold aNh;rw[Dy,BX,Gg,j,aRh _ _ _ AB];have M:(X.any fun y=>y.Kind==1&&(y.Key=CS))=X.any Qn:=rfl;rw[M];have q:(e.Kind != 1)= !(e.Kind==1):=rfl;rw[q];cases e.Kind==1<;>cases X.any Qn<;>exact .ret rfl
def aiH (X:A8 AV) (e:AV) (j:X.length<=40):aK6 X e 0=some (bif !X.all (fun x=>x.Room=e.Room)then 13 else bif MC (keysOf e) [] X&&(e.Kind==1||X.any Qn)then 0 else 16):=by
 unfold aK6;rw[Hz X (fuel_lt AB) (fun x=> !decide (x.Room=e.Room)) 13 (some (bif MC (keysOf e) [] X&&(e.Kind==1||X.any Qn)then 0 else 16))]
 ·rw[uj];cases X.all (fun x=>x.Room=e.Room)<;>rfl
 ·intro k i hi;unfold aNE;rw[DR hi,Ir]
 intro k;unfold aNE;rw[EF,aD4,Ad,abN X e j]
def aZZ (l:A8 AV) (e:AV) (hl:l.length<=100) (j:FD e):aD7 l e=some (TU l e):=by
 have q:=j.auth;have u:=Z8 l e.bQ;unfold aD7 aPE TU;rw[Hz e.bQ (fuel_lt AB) (fun x=> !dQ l x) 14 (some (bif !(ofIds l e.bQ).all (fun x=>x.Room=e.Room)then 13 else bif MC (keysOf e) [] (ofIds l e.bQ)&&(e.Kind==1||(ofIds l e.bQ).any Qn)then 0 else 16))]
 ·rw[uj];cases e.bQ.all (dQ l)<;>rfl
 ·intro k i hi;unfold aNx;rw[DR hi,Lc l _ AB,Ad,Pn];rfl
 intro k;unfold aNx;rw[Dy,BX,aIV l _ AB AB,Ad,aiH _ e AB]
def aiI (k:BJ) (e:AV):Xg (J3 k) e=some (FV k e):=by
 unfold Xg FV J3;cases h:(e.Kind==k.Kind)with
 |false=>rfl
 |true=>show some (e.Key.toList==k.Key.toList)=_;rw[Ir,Gw]
def abS (j:A8 BJ) (x:AV) (h:j.length<=100):aC3 (j.map J3) x=some (if j.findIdx (fun k=>FV k x)<j.length then((j.findIdx (fun k=>FV k x):Nat):Int)else -1):=by
 unfold aC3 aXn
 have u:∀k (i:Nat),i<j.length->aB9 (j.map J3) x k (i:Int)=bif FV (j.getD i ⟨0,CS,0⟩) x then some (i:Int)else k (Aw ((i:Int)+1)):=fun k i hi=>by
  unfold aB9;have q:i<(j.map J3).length:=aOJ
  rw[DR q,TV];show((Xg (J3 j[i]) x).bind _)=_;rw[aiI,Ad];simp[List.getD,hi]
 rw[Kv j (fuel_lt AB) (fun k=>FV k x) (fun i=>some (i:Int)) (some (-1))]
 ·split<;>rfl
 ·intro k i hi;rw[u k i hi];simp[List.getD,hi]
 intro k;unfold aB9;rw[show((j.map J3).length:Int)=(j.length:Int) by rw[Dc],Dy];rfl
def aRj {α:Type} {p:α->AZ}:∀l:A8 α,l.Pairwise (fun a b=>¬(p a=true/\p b=true))->l.findIdx p<l.length->l.filter (fun x=> !p x)=l.take (l.findIdx p)++l.drop (l.findIdx p+1)
 | [],_,h=>absurd h (Nat.not_lt_zero _)
 |a::l,hp,h=>by
  obtain⟨j,q⟩:=Pj.1 hp;rw[Tj]at h ⊢;cases ha:p a with
  |true=>
   rw[List.filter_cons_of_neg (by simp[ha]),nC.2 fun b u=>by
    cases z:p b with
    |false=>rfl
    |true=>exact absurd ⟨ha,z⟩ (j b u)]
   rfl
  |false=>
   rw[ha]at h;rw[List.filter_cons_of_pos (by simp[ha]),aRj l q KY];rfl
def aW9 {α:Type} {p:α->AZ}:∀l:A8 α,decide (l.findIdx p<l.length)=l.any p
 | []=>rfl
 |a::l=>by
  have j:=aW9 (p:=p) l;rw[Tj,Zm,←j];cases p a<;>simp
def amG (e:AV):KE (keysOf e):=by
 have z:KE (MX e):=X6 (X6 (X6 List.Pairwise.nil _ _ _) _ _ _) _ _ _;unfold keysOf;cases e.Kind==1<;>cases e.Kind==2<;>cases(e.Content.N==3||e.Content.N==1||e.Content.N==2)<;>simp only[Bz,BX]
 ·exact z
 ·exact z
 ·exact X6 z _ _ _
 ·exact X6 (X6 z _ _ _) _ _ _
 all_goals exact List.Pairwise.nil
def aZA {e:AV} {k:BJ} (h:k∈keysOf e) (q:k.Kind=1):k.Key=CS:=by
 have z:∀x∈MX e,x.Kind=1->x.Key=CS:=fun x j I=>by
  unfold MX at j;rcases Ud j with rfl|j
  ·cases I
  rcases Ud j with rfl|j
  ·cases I
  rcases Ud j with rfl|j
  ·rfl
  cases j
 unfold keysOf at h;cases u:e.Kind==1 with
 |true=>rw[u]at h;cases h
 |false=>
  cases J:e.Kind==2 with
  |false=>rw[u,J]at h;exact z k h q
  |true=>
   rw[u,J]at h;cases L:(e.Content.N==3||e.Content.N==1||e.Content.N==2)with
   |true=>
    rw[L]at h;rcases Ud h with rfl|h
    ·cases q
    rcases Ud h with rfl|h
    ·cases q
    exact z k h q
   |false=>
    rw[L]at h;rcases Ud h with rfl|h
    ·cases q
    exact z k h q
def aQl {u:A8 BJ}:∀(X j:A8 AV),MC u j X=true->∀x∈X,∃k∈u,FV k x=true
 | [],_,_,_,h=>absurd h G5
 |y::X,j,h,x,q=>by
  unfold MC at h;simp only[Du]at h;rcases FK.1 q with rfl|q
  ·obtain⟨k,z,hm⟩:=Iu.1 h.1.1;exact⟨k,z,hm⟩
  exact aQl X _ h.2 x q
def any_congr {α:Type} {l:A8 α} {p q:α->AZ} (h:∀x∈l,p x=q x):l.any p=l.any q:=by
 rw[Ph,Iu,Iu];exact⟨fun⟨x,j,k⟩=>⟨x,j,by rw[←h x j];exact k⟩,fun⟨x,j,k⟩=>⟨x,j,by rw[h x j];exact k⟩⟩
def akf (l:A8 AV) (e:AV) (hl:l.length<=100) (he:FD e):vW l e=some (TU l e):=by
 have h1:=he.auth;have hk5:=RS e;have hsk:=amG e;unfold vW aOr;refine eP.eq (JX e.bQ.length (fuel_lt AB) (fun i a=>a=ofIds l (e.bQ.take i)/\∀x∈e.bQ.take i,dQ l x=true) ⟨rfl,fun x U=>by simp at U⟩ (fun i a k hi ha J=>?_) fun a k ha=>?_)
 ·obtain⟨rfl,u⟩:=ha;have hal:=Z8 l (e.bQ.take i);rw[GK]at hal;unfold aB2;rw[DR hi,PY l _ AB,Ad,wrap_succ i AB];cases Y:Ef l e.bQ[i]with
  |none=>
   rw[SI Y];refine .ret ?_;unfold TU;rw[Zc (Ew hi) (show dQ l e.bQ[i]=false by unfold dQ;rw[Y];rfl)];rfl
  |some x=>
   rw[OE Y];simp only[FB,BX];rw[EC GZ,Ad];refine J _ ⟨?_,fun y I=>?_⟩
   ·unfold ofIds;rw[UG,EL hi,RD,Zw,QM,Y];rfl
   rw[UG,EL hi,RD,Iy,Md]at I;rcases I with I|rfl
   ·exact u y I
   unfold dQ;rw[Y];rfl
 obtain⟨rfl,u⟩:=ha;rw[Gg]at u ⊢;have U:=Z8 l e.bQ;have Z:e.bQ.all (dQ l)=true:=El.2 u;unfold aB2;rw[EF];unfold TU;rw[Z];simp only[FB,BX];generalize ofIds l e.bQ=X at U;unfold aQL;rw[Hz X (fuel_lt AB) (fun x=> !decide (x.Room=e.Room)) 13 (some (bif MC (keysOf e) [] X&&(e.Kind==1||X.any Qn)then 0 else 16))]
 ·rw[uj];cases X.all (fun x=>x.Room=e.Room)<;>exact .ret rfl
 ·intro k2 i hi;unfold aBP;rw[DR hi,Ir]
 intro k2;unfold aBP;rw[EF,aND,Ad];unfold aUf;refine eP.eq (Qr (body:=a0o X) (Q:=(· =bif MC (keysOf e) [] X&&(e.Kind==1||X.any Qn)then 0 else 16)) (fun n b ks x=>∃i:Nat,x=i/\i+n=X.length/\ks=((keysOf e).filter fun k=> !(X.take i).any (FV k)).map J3/\b=(e.Kind==1||(X.take i).any fun x=>x.Kind==1)/\MC (keysOf e) [] X=MC (keysOf e) (X.take i) (X.drop i)) ?_ Ap X.length (e.Kind==1) ((keysOf e).map J3) 0 (fuel_lt AB) ⟨0,rfl,AB,by rw[qV];exact BK (List.map J3) (nC.2 fun _ _=>rfl).symm,Bh,rfl⟩);rintro n b ks x k3 ⟨i,rfl,hn,hks,hb,z⟩ hk3;unfold a0o;by_cases hi:i<X.length
 ·rw[aVs hi]at z;have hlk:((keysOf e).filter fun k=> !(X.take i).any (FV k)).length<=5:=FC (Jr _ _) hk5;rw[DR hi,hks,abS _ _ AB,Ad];have L:=aW9 (p:=fun k=>FV k X[i]) ((keysOf e).filter fun k=> !(X.take i).any (FV k))
  have M:(((keysOf e).filter fun k=> !(X.take i).any (FV k)).any fun k=>FV k X[i])=((keysOf e).any (fun k=>FV k X[i])&& !(X.take i).any (nJ X[i])):=by
   rw[Ph,Iu,Du,Iu,ND,←Pm,Iu];constructor
   ·rintro⟨k,J,hm⟩;obtain⟨hk1,hk2⟩:=Hy.1 J;refine⟨⟨k,hk1,hm⟩,?_⟩;rintro⟨y,I,hs⟩;obtain⟨m1,m2⟩:=eL.1 hm;obtain⟨s1,s2⟩:=aXV.1 hs;rw[Iu.2 ⟨y,I,eL.2 ⟨s1.trans m1,s2.trans m2⟩⟩]at hk2;cases hk2
   rintro⟨⟨k,J,hm⟩,hno⟩;refine⟨k,Hy.2 ⟨J,?_⟩,hm⟩;rw[ND,←Pm,Iu];rintro⟨y,I,hs⟩;obtain⟨m1,m2⟩:=eL.1 hm;obtain⟨s1,s2⟩:=eL.1 hs;exact hno ⟨y,I,aXV.2 ⟨s1.trans m1.symm,s2.trans m2.symm⟩⟩
  rw[←M,←L]at z;by_cases q:((keysOf e).filter fun k=> !(X.take i).any (FV k)).findIdx (fun k=>FV k X[i])<((keysOf e).filter fun k=> !(X.take i).any (FV k)).length
  ·rw[Di q,JK AB,BX];rw[JG q,Gw]at z;have hlm:(((keysOf e).filter fun k=> !(X.take i).any (FV k)).map J3).length=((keysOf e).filter fun k=> !(X.take i).any (FV k)).length:=Dc ..
   have hpw:((keysOf e).filter fun k=> !(X.take i).any (FV k)).Pairwise (fun a b=>¬(FV a X[i]=true/\FV b X[i]=true)):=by
    refine(List.Pairwise.sublist Qo hsk).imp fun{a b} hab h=>?_;obtain⟨a1,a2⟩:=eL.1 h.1;obtain⟨b1,b2⟩:=eL.1 h.2;rw[yR (Vw.2 ⟨a1.symm.trans b1,a2.symm.trans b2⟩)]at hab;cases hab
   have hd:=aRj _ hpw q
   have O:((keysOf e).filter fun k=> !(X.take i).any (FV k)).filter (fun k=> !FV k X[i])=(keysOf e).filter fun k=> !(X.take (i+1)).any (FV k):=by
    rw[List.filter_filter];refine List.filter_congr fun k _=>?_;rw[zT hi];cases(X.take i).any (FV k)<;>cases FV k X[i]<;>rfl
   rw[O]at hd;generalize((keysOf e).filter fun k=> !(X.take i).any (FV k))=K at q hd hlm hlk;generalize K.findIdx (fun k=>FV k X[i])=j at q hd;have s1:IB (K.map J3) 0 (j:Int)=some (((K.map J3).drop 0).take (j-0)):=jF (lo:=0) (Ea _) AB;have s2:IB (K.map J3) (Aw ((j:Int)+1)) ((K.map J3).length:Int)=some (((K.map J3).drop (j+1)).take ((K.map J3).length-(j+1))):=by rw[wrap_succ j AB];exact jF AB (EZ _)
   rw[s1,Ad,s2,Ad,EC (by simp only[GK,L6];omega),Ad];have hb3:(bif b then some true else(Ak X (i:Int)).bind fun x28=>some (x28.Kind==1))=some (b||X[i].Kind==1):=by rw[Cx hi];cases b<;>rfl
   rw[hb3,Ad];refine hk3 (n-1) _ _ _ AB ⟨i+1,wrap_succ i AB,AB,?_,?_,z⟩
   ·rw[hd,LP,aK,iC,Nat.sub_zero,lg,Qj (l:=(K.map J3).drop (j+1)) a1j]
   rw[zT hi,hb,Bool.or_assoc]
  rw[Dp q];rw[JK q,aLC]at z;exact .ret rV
 have :i=X.length:=AB
 subst this;rw[aQh]at z;rw[EF,z,hb,Gg,Gw]
 have hc:(X.any fun x=>x.Kind==1)=X.any Qn:=any_congr fun x U=>by
  obtain⟨k,J,hm⟩:=aQl X [] z x U;obtain⟨m1,m2⟩:=eL.1 hm;unfold Qn;cases hq:x.Kind==1 with
  |false=>rfl
  |true=>rw[m2,aZA J (by rw[←m1];exact eq_of_beq hq)];simp
 rw[hc];cases(e.Kind==1||X.any Qn)<;>exact .ret rfl
def KJ (l:A8 AV) (s:A8 BJ):A8 AV:=ofIds l (s.map (·.Id))
def yX (l:A8 AV) (s:A8 BJ):(KJ l s).length<=s.length:=by have :=Z8 l (s.map (·.Id));rwa [Dc]at this
def aN1 {l:A8 AV} (hs:E9 l) (ids:A8 Int):E9 (ofIds l ids):=fun x j=>hs x (a0J j)
def aCU {l:A8 AV} {s:A8 BJ} {i:Nat} (h:i<s.length):KJ l (s.take (i+1))=KJ l (s.take i)++(Ef l s[i].Id).toList:=by
 unfold KJ ofIds;rw[map_take h,Zw,QM,aLT];cases Ef l s[i].Id<;>rfl
def aSS (l:A8 AV) (s:A8 BJ) (hl:l.length<=100) (h:s.length<=1000):jr l s=some (KJ l s):=by
 unfold jr yS;rw[Ad];unfold aT9;refine eP.eq (aLO (body:=aIj s) (Q:=(· =KJ l s)) (fun n a b c _ _=>∃i:Nat,b=i/\i+n=s.length/\c=l/\a=KJ l (s.take i)) ?_ Ap s.length [] 0 l [] [] (fuel_lt AB) ⟨0,rfl,AB,rfl,rfl⟩);rintro n a b c d f k ⟨i,rfl,z,rfl,ha⟩ u;unfold aIj;by_cases hi:i<s.length
 ·have q:=yX c (s.take i);rw[GK]at q;rw[DR hi,PY c _ AB,Ad,wrap_succ i AB];cases j:Ef c s[i].Id with
  |none=>rw[SI j];exact u (n-1) _ _ _ _ _ AB ⟨i+1,rfl,AB,rfl,by rw[aCU hi,j,ha];simp⟩
  |some x=>
   rw[OE j];simp only[Bz];rw[EC (by rw[ha];simp only[QO];omega),Ad];exact u (n-1) _ _ _ _ _ AB ⟨i+1,rfl,AB,rfl,by rw[aCU hi,j,ha];rfl⟩
 have :i=s.length:=AB
 subst this;rw[EF];exact .ret dA
def aUu (l:A8 AV) (s:A8 BJ) (hl:l.length<=100) (h:s.length<=1000):yC l s=some (KJ l s):=by
 unfold yC aUQ;refine eP.eq (JX s.length (fuel_lt AB) (fun i a=>a=KJ l (s.take i)) rfl (fun i a k hi ha u=>?_) fun a k ha=>?_)
 ·have q:=yX l (s.take i);rw[GK]at q;unfold aNA a0B;rw[DR hi,Lc l _ AB,Ad,wrap_succ i AB];cases j:Ef l s[i].Id with
  |none=>rw[SI j];exact u _ (by rw[aCU hi,j,ha];simp)
  |some x=>
   rw[OE j];simp only[Bz];rw[EC (by rw[ha];simp only[QO];omega),Ad];exact u _ (by rw[aCU hi,j,ha];rfl)
 unfold aNA;rw[Dy];exact .ret dA
structure F6 where
 id:Int
 before:List BJ
 after:List BJ
 err:Int
def Iz (t:A8 F6) (x:Int):Option F6:=t.find? fun y=>y.id==x
def QD (t:A8 F6) (x:Int):A8 BJ:=((Iz t x).map (·.after)).getD []
def errOf (t:A8 F6) (x:Int):Int:=((Iz t x).map (·.err)).getD 0
def Src (l:A8 AV) (e:AV):Int:=bif TU l e != 0 then TU l e else NR e (WU l e)
def TS (l:A8 AV) (t:A8 F6) (e:AV) (s:A8 BJ):Int:=
 bif Src l e != 0 then Src l e else bif e.bQ.any (fun x=>errOf t x != 0)then 16 else NR e (KJ l s)
def stB (l:A8 AV) (t:A8 F6) (e:AV):A8 BJ:=sQ l (e.bI.map (QD t))
def dP (e:AV) (s:A8 BJ) (r:Int):F6:=⟨e.Id,s,bif r==0&&I7 e.Kind then Gm s e.Kind e.Key e.Id else s,r⟩
def V3 (l:A8 AV) (t:A8 F6) (e:AV):F6:=dP e (stB l t e) (TS l t e (stB l t e))
def NV (l:A8 AV) (ids:A8 Int):A8 F6:=ids.foldl (fun t id=>t++[V3 l t (ev l id)]) []
def Fa (l:A8 AV):A8 F6:=NV l (Qd l)
def aUo (l:A8 AV) {ids:A8 Int} {i:Nat} (h:i<ids.length):NV l (ids.take (i+1))=NV l (ids.take i)++[V3 l (NV l (ids.take i)) (ev l ids[i])]:=aW2 h
def aUE {t:A8 F6} {x:Int}:Iz t x=none↔x∉t.map (·.id):=by
 unfold Iz;rw[aAW,Fh];exact⟨fun h ⟨y,j,e⟩=>h y j SH,fun h y j e=>h ⟨y,j,SH⟩⟩
def aNs {t:A8 F6} {y:F6} (h:Iz t y.id=none) (x:Int):Iz (t++[y]) x=bif x==y.id then some y else Iz t x:=by
 unfold Iz at h ⊢;rw[Zt];cases j:x==y.id with
 |true=>
  have e:=eq_of_beq j;subst e;rw[h];simp
 |false=>
  have :(y.id==x)=false:=by rw[←j,Ph,PU,PU];exact eq_comm
  simp[this]
def aGX (l:A8 AV):∀(ids:A8 Int) (t:A8 F6),(∀x∈ids,dQ l x=true)->(ids.foldl (fun t id=>t++[V3 l t (ev l id)]) t).map (·.id)=t.map (·.id)++ids
 | [],t,_=>Bh
 |x::ids,t,h=>by
  have j:(V3 l t (ev l x)).id=x:=(OL (h x (H8 ..))).2;rw[Gt,aGX l ids _ fun y q=>h y (IG _ q),LP,JR,List.map_nil,j,Jd];rfl
def N9 (l:A8 AV) (t:A8 F6):Prop:=∀y∈t,JU l y.before/\JU l y.after
def N9.after {l:A8 AV} {t:A8 F6} (h:N9 l t) (x:Int):JU l (QD t x):=by
 unfold QD;cases hl:Iz t x with
 |none=>exact .nil l
 |some y=>exact(h y (ZY hl)).2
def N9.states {l:A8 AV} {t:A8 F6} (h:N9 l t) (ids:A8 Int):∀s∈ids.map (QD t),JU l s:=fun s hs=>by
 obtain⟨x,_,rfl⟩:=Fh.1 hs;exact h.after x
def N9.okay {l:A8 AV} {t:A8 F6} (h:N9 l t) (hl:l.length<=100) (hs:E9 l) (ids:A8 Int) (hi:ids.length<=100):OJ l (ids.map (QD t)):=JU.okay hl hs aOJ (h.states ids)
def N9.stB {l:A8 AV} {t:A8 F6} (h:N9 l t) (hl:l.length<=100) (hs:E9 l) {e:AV} (j:e.bI.length<=40):JU l (stB l t e):=JU.resolve (h.okay hl hs _ AB) (h.states _)
def N9.line {l:A8 AV} {t:A8 F6} (h:N9 l t) (hl:l.length<=100) (hs:E9 l) {e:AV} (u:e.bI.length<=40) (z:I7 e.Kind=true->dQ l e.Id=true/\ev l e.Id=e):N9 l (t++[V3 l t e]):=fun y j=>by
 rcases Iy.1 j with j|j
 ·exact h y j
 rw[Md.1 j];have hp:=h.stB hl hs u;refine⟨hp,?_⟩;show JU l (bif TS l t e (Go.Proofs.YtkkdimcnpacjhaaGreat.stB l t e)==0&&I7 e.Kind then Gm _ e.Kind e.Key e.Id else _);cases q:(TS l t e (Go.Proofs.YtkkdimcnpacjhaaGreat.stB l t e)==0&&I7 e.Kind)with
 |false=>exact hp
 |true=>
  have hst:I7 e.Kind=true:=by rw[Du]at q;exact q.2
  obtain⟨I,k2⟩:=z hst;exact hp.set I k2 hst
def aiD {l:A8 AV} {id:Int} (h:I7 (ev l id).Kind=true):dQ l (ev l id).Id=true/\ev l (ev l id).Id=ev l id:=by
 cases j:Ef l id with
 |none=>unfold ev at h;rw[SI j]at h;exact absurd h Bj
 |some e=>
  have q:dQ l id=true:=by unfold dQ;rw[j];rfl
  have :=(OL q).2;rw[this];exact⟨q,rfl⟩
def aL5 :FD DI:=⟨Ea _,Ea _,Ea _,Ea _,Ea _,Ea _,Ea _,Ea _,Ea _,Ea _,Ea _,Ea _,fun _ h=>absurd h G5,fun _ h=>absurd h G5,fun _ h=>absurd h G5⟩
def aOI {l:A8 AV} (hs:E9 l) (id:Int):FD (ev l id):=by
 unfold ev He;cases h:Ef l id with
 |none=>exact aL5
 |some e=>exact hs e (NW h)
def aBO {l:A8 AV} (hl:l.length<=100) (hs:E9 l):∀(ids:A8 Int) (t:A8 F6),N9 l t->N9 l (ids.foldl (fun t id=>t++[V3 l t (ev l id)]) t)
 | [],t,h=>h
 |x::ids,t,h=>by rw[Gt];exact aBO hl hs ids _ (h.line hl hs (aOI hs x).prev aiD)
structure Px (t:List F6) (m1 m2:List (Int×List BJ)) (m3:List (Int×Int)):Prop where
 b:∀x,DX m1 x=(Iz t x).map (·.before)
 a:∀x,DX m2 x=(Iz t x).map (·.after)
 r:∀x,DX m3 x=(Iz t x).map (·.err)
def Px.after {t:A8 F6} {q j:A8 (Int×A8 BJ)} {u:A8 (Int×Int)} (h:Px t q j u) (x:Int):(DX j x).getD []=QD t x:=by rw[h.a];rfl
def Px.err {t:A8 F6} {q u:A8 (Int×A8 BJ)} {j:A8 (Int×Int)} (h:Px t q u j) (x:Int):(DX j x).getD 0=errOf t x:=by rw[h.r];rfl
def ahx {t:A8 F6} {q u:A8 (Int×A8 BJ)} {z:A8 (Int×Int)} (h:Px t q u z) (l:A8 AV) (e:AV) (s:A8 BJ) (hl:l.length<=100) (hs:E9 l) (j:FD e) (I:s.length<=100):
 a0x q u z l e s=some (TS l t e s):=by
 have L:=j.auth;have M:=yX l s;unfold a0x TS Src;rw[akf l e hl j,Ad];cases J:TU l e != 0 with
 |true=>simp only[Bz];rw[J];rfl
 |false=>
  simp only[BX];rw[aPu l e AB AB,Ad,aBE e _ (FC (aD0 l e) AB) (hs.from e) j,Ad];cases ha:NR e (WU l e) != 0 with
  |true=>rfl
  |false=>
   simp only[BX];unfold aTu;rw[Hz e.bQ (fuel_lt AB) (fun x=>errOf t x != 0) 16 (some (NR e (KJ l s)))]
   ·cases e.bQ.any (fun x=>errOf t x != 0)<;>rfl
   ·intro k i hi;unfold aNz;rw[DR hi,h.err]
   intro k;unfold aNz;rw[EF,aSS l s hl AB,Ad,aBE e (KJ l s) AB (aN1 hs _) j];rfl
def Px.snoc {t:A8 F6} {I J j q:A8 (Int×A8 BJ)} {L u:A8 (Int×Int)} (h:Px t I J L) {y:F6} (z:Iz t y.id=none)
 (M:∀x,DX j x=bif x==y.id then some y.before else DX I x) (O:∀x,DX q x=bif x==y.id then some y.after else DX J x) (U:∀x,DX u x=bif x==y.id then some y.err else DX L x):Px (t++[y]) j q u:=by
 refine⟨fun x=>?_,fun x=>?_,fun x=>?_⟩
 ·rw[M,aNs z,h.b];cases x==y.id<;>rfl
 ·rw[O,aNs z,h.a];cases x==y.id<;>rfl
 rw[U,aNs z,h.r];cases x==y.id<;>rfl
def add_eq {t:A8 F6} {z I:A8 (Int×A8 BJ)} {J:A8 (Int×Int)} (h:Px t z I J) (l:A8 AV) (e:AV) (hl:l.length<=100) (hs:E9 l) (L:FD e) (ht:N9 l t) (M:Iz t e.Id=none):
 eP (aCN z I J l e) (fun r=>Px (t++[V3 l t e]) r.1 r.2.1 r.2.2):=by
 have O:=L.prev;unfold aCN aY2;refine JX e.bI.length (fuel_lt AB) (fun i a=>a=(e.bI.take i).map (QD t)) rfl (fun i a k hi ha U=>?_) fun a k ha=>?_
 ·have Y:a.length<=i:=jP
  unfold aIa;rw[DR hi,EC GZ,Ad,wrap_succ i AB,h.after];exact U _ xw
 rw[Gg]at ha;subst ha;unfold aIa;have hp:JU l (stB l t e):=ht.stB hl hs O;have Z:=hp.length;have u:mW l (e.bI.map (QD t))=some (stB l t e):=aUS (ht.okay hl hs _ AB);rw[EF,u,Ad,ahx h l e _ hl hs L AB,Ad];have j:V3 l t e=dP e (stB l t e) (TS l t e (stB l t e)):=rfl;rw[j];generalize TS l t e (stB l t e)=r;have q:∀(c d f:AZ) {R:Type} (g:AZ->AL R),((bif c then some d else some false).bind fun x9=>(bif x9 then some f else some false).bind g)=g (c&&(d&&f)):=fun c d f R g=>by cases c<;>cases d<;>rfl
 rw[q];show eP (bif (r==0&&I7 e.Kind)then _ else _) _;unfold dP;cases hc:(r==0&&I7 e.Kind)with
 |true=>
  simp only[Bz];rw[Yd _ _ _ _ AB,Ad];refine .ret (h.snoc M (fun x=>Ql ..) (fun x=>?_) fun x=>Ql ..);rw[Ql,Ql];cases x==e.Id<;>rfl
 |false=>exact .ret (h.snoc M (fun x=>Ql ..) (fun x=>Ql ..) fun x=>Ql ..)
def run_go (l:A8 AV) (ids:A8 Int) (hl:l.length<=100) (hs:E9 l) (u:∀x∈ids,dQ l x=true) (z:ids.Nodup) (J:ids.length<=1000):eP (aLY ids l 0 [] [] []) (fun o=>∃T,o=some T/\Px (NV l ids) T.1 T.2.1 T.2.2):=by
 unfold aLY;refine aME (body:=aMg ids l) (Q:=fun o=>∃T,o=some T/\Px (NV l ids) T.1 T.2.1 T.2.2) (fun n a b c d=>∃i:Nat,a=i/\i+n=ids.length/\Px (NV l (ids.take i)) b c d) ?_ Ap ids.length 0 [] [] [] (fuel_lt AB) ⟨0,rfl,AB,⟨fun x=>rfl,fun x=>rfl,fun x=>rfl⟩⟩;rintro n a b c d k ⟨i,rfl,Z,hm⟩ L;unfold aMg;by_cases hi:i<ids.length
 ·have I:=u _ (Ew hi)
  have q:Iz (NV l (ids.take i)) (ev l ids[i]).Id=none:=by
   rw[aUE,(OL I).2];unfold NV;rw[aGX l _ _ fun x M=>u x (lN M),List.map_nil,Iq];intro hm;obtain⟨j,O,e⟩:=I5 hm;rw[GK]at O;rw[kP]at e;have :=KC.1 (a1i.1 z) j i AB hi AB;exact this e
  rw[DR hi,PY l _ AB,Ad];refine(add_eq hm l _ hl hs (aOI hs ids[i]) (aBO hl hs _ _ fun y U=>absurd U G5) q).bind fun r Y=>?_;exact L (n-1) _ _ _ _ AB ⟨i+1,wrap_succ i AB,AB,by rw[aUo l hi];exact Y⟩
 have :i=ids.length:=AB
 subst this;rw[EF];exact .ret ⟨_,rfl,by rw[Gg]at hm;exact hm⟩
structure Lm (l:List AV):Prop where
 len:l.length<=100
 small:E9 l
 nodup:(l.map (·.Id)).Nodup
 dep:ji l
def aE4 {l:A8 AV} {x:Int}:dQ l x=true↔x∈l.map (·.Id):=by
 unfold dQ Ef;rw[List.find?_isSome,Fh];exact⟨fun⟨e,j,h⟩=>⟨e,j,KY⟩,fun⟨e,j,h⟩=>⟨e,j,KY⟩⟩
def aQg (l:A8 AV):(Qd l).Perm (l.map (·.Id)):=(aiN l).map _
def aMA {l:A8 AV} {x:Int}:x∈Qd l↔dQ l x=true:=by rw[(aQg l).mem_iff,aE4]
def aGT (l:A8 AV):(Qd l).length=l.length:=by unfold Qd;rw[Dc,aMF]
def Lm.order {l:A8 AV} (h:Lm l):(Qd l).Nodup:=(aQg l).nodup_iff.2 h.nodup
def Jo (l:A8 AV) (c:Int):A8 F6:=bif c==0&&KG l==0 then Fa l else[]
def run_eq (l:A8 AV) {c:Int} (z:Pq l=some c) (h:c=0->Lm l):
 eP (lI l) (fun o=>(Jo l c=[]/\o=none)\/(Jo l c=Fa l/\Lm l/\∃T,o=some T/\Px (Fa l) T.1 T.2.1 T.2.2)):=by
 unfold lI Jo;rw[z,Ad];by_cases u:c=0
 ·subst u;have j:=h rfl;rw[adK l j.len j.small j.dep];cases hd:KG l==0 with
  |false=>
   have q:(KG l != 0)=true:=by unfold bne;rw[hd];rfl
   simp only[QG,BX,Ad,q,Bz];exact .ret (.inl ⟨rfl,rfl⟩)
  |true=>
   have q:(KG l != 0)=false:=by unfold bne;rw[hd];rfl
   simp only[QG,BX,Ad,q];rw[alX l (by have :=j.len;omega),Ad];exact(run_go l (Qd l) j.len j.small (fun x I=>aMA.1 I) j.order (by rw[aGT];have :=j.len;omega)).mono fun o J=>.inr ⟨rfl,j,J⟩
 have L:(c != 0)=true:=Vd
 have M:(c==0)=false:=Vd
 rw[L,M];exact .ret (.inl ⟨rfl,rfl⟩)
def aIf {l:A8 AV} (h:Lm l):N9 l (Fa l):=aBO h.len h.small _ _ fun y j=>absurd j G5
def aaF (l:A8 AV):(Fa l).map (·.id)=Qd l:=by
 have :=aGX l (Qd l) [] fun x j=>aMA.1 j;simpa[Fa,NV]using this
def alc {l:A8 AV} {x:Int} (h:dQ l x=true):∃y,Iz (Fa l) x=some y:=by
 cases hl:Iz (Fa l) x with
 |some y=>exact⟨y,rfl⟩
 |none=>rw[aUE,aaF]at hl;exact absurd (aMA.2 h) hl
def U4 (t:A8 F6) (x:Int):AZ:=match Iz t x with
 |some y=>y.err==0
 |none=>false
def F7 (l:A8 AV) (t:A8 F6):A8 Int:=(l.filter fun e=>U4 t e.Id).map (·.Id)
def Ic (l:A8 AV) (t:A8 F6):A8 BJ:=sQ l ((IU l (F7 l t)).map (QD t))
def Y4 (l:A8 AV) (t:A8 F6):(F7 l t).length<=l.length:=by unfold F7;rw[Dc];exact Jr _ _
def aFH (l:A8 AV):F7 l []=[]:=by
 unfold F7;rw[rP.2 fun e _=>by unfold U4 Iz;simp];rfl
def aUp (l:A8 AV):Ic l []=[]:=by unfold Ic;rw[aFH];rfl
def aCo {l:A8 AV} {t:A8 F6} {i:Nat} (h:i<l.length):F7 (l.take (i+1)) t=F7 (l.take i) t++bif U4 t l[i].Id then[l[i].Id]else[]:=by
 unfold F7;rw[uM h,LP];cases U4 t l[i].Id<;>rfl
def aal {l:A8 AV} {x:Int} (h:dQ l x=true):U4 (Fa l) x=(errOf (Fa l) x==0):=by
 obtain⟨y,j⟩:=alc h;unfold U4 errOf;rw[j];rfl
def aRU {l:A8 AV} {j q:A8 (Int×A8 BJ)} {u:A8 (Int×Int)} (h:Px (Fa l) j q u) (hl:l.length<=100):Zn j q u l=some (F7 l (Fa l)):=by
 unfold Zn
 have hp:aE7 l j q u=some (F7 l (Fa l)):=by
  unfold aE7 aYV;refine eP.eq (JX l.length (fuel_lt AB) (fun i a=>a=F7 (l.take i) (Fa l)) rfl (fun i a k hi ha z=>?_) fun a k ha=>?_)
  ·have J:a.length<=i:=aSN
   unfold aHR aNw aCf;rw[DR hi,Ad,h.err,←aal (aE4.2 (Fh.2 ⟨_,Ew hi,rfl⟩)),wrap_succ i AB];cases I:U4 (Fa l) l[i].Id with
   |true=>
    rw[Bz,Cx hi,Ad,EC GZ,Ad];exact z _ (by rw[aCo hi,I,ha];rfl)
   |false=>exact z _ (by rw[aCo hi,I,ha];simp)
  unfold aHR;rw[EF];exact .ret dA
 rw[hp];rfl
def am3 {l:A8 AV} {c:Int} (z:Pq l=some c) (h:c=0->Lm l):bZ l=some (Ic l (Jo l c)):=by
 unfold bZ;refine eP.eq ((run_eq l z h).bind fun o j=>?_);rcases j with⟨q,rfl⟩|⟨q,j,T,rfl,u⟩
 ·rw[q,aUp];exact .ret rfl
 rw[q];have hl:=j.len;have ha:=Y4 l (Fa l);have I:=nN l (F7 l (Fa l));show eP ((Zn T.1 T.2.1 T.2.2 l).bind _) _;rw[aRU u hl,Ad,aQJ l _ hl j.small AB,Ad];unfold Ic;generalize IU l (F7 l (Fa l))=H at I;unfold aU2;refine JX H.length (fuel_lt AB) (fun i a=>a=(H.take i).map (QD (Fa l))) rfl (fun i a k hi ha J=>?_) fun a k ha=>?_
 ·have L:a.length<=i:=jP
  unfold aFl;rw[DR hi,EC GZ,Ad,u.after,wrap_succ i AB];exact J _ xw
 rw[Gg]at ha;unfold aFl;rw[EF,ha,aUS ((aIf j).okay hl j.small _ AB),Ad];exact .ret rfl
def aWD {l:A8 AV} {c:Int} (h:c=0->Lm l):JU l (Ic l (Jo l c)):=by
 unfold Jo;cases q:(c==0&&KG l==0)with
 |false=>rw[BX,aUp];exact .nil l
 |true=>
  rw[Du]at q;have j:=h (eq_of_beq q.1);have ht:=aIf j;have ha:=Y4 l (Fa l);have u:=nN l (F7 l (Fa l));have hl:=j.len;rw[Bz];exact JU.resolve (ht.okay hl j.small _ AB) (ht.states _)
def aWA (t:A8 F6) (s:A8 BJ):Prop:=∀x∈s,U4 t x.Id=true
def aWA.nil (t:A8 F6):aWA t []:=fun _ h=>absurd h G5
def aYi {l:A8 AV} (hd:KG l=0) {e:AV} (z:e∈l):(∀a∈e.bQ,dQ l a=true/\(ev l a).Depth<e.Depth)/\∀a∈e.bI,dQ l a=true/\(ev l a).Depth<e.Depth:=by
 unfold KG at hd;cases u:Wi l with
 |false=>rw[u]at hd;cases hd
 |true=>
  rw[u,Bz]at hd;cases I:l.all (Sm l)with
  |false=>rw[I]at hd;cases hd
  |true=>
   have j:=El.1 u e z;have q:=El.1 I e z;unfold Va at j;unfold Sm at q;rw[Du,El,El]at j;rw[Du,El]at q;refine⟨fun a ha=>⟨j.2 a ha,SG (q.1 a ha)⟩,fun a ha=>⟨j.1 a ha,?_⟩⟩
   have hp:((e.bI.length:Int)==0)=false:=by
    have :0<e.bI.length:=List.length_pos_of_mem ha;rw[SE];omega
   have J:=q.2;rw[hp,BX,Du,El]at J;exact SG (J.1 a ha)
structure aFV (x y:AV):Prop where
 id:y.Id=x.Id
 room:y.Room=x.Room
 sender:y.bF=x.bF
 kind:y.Kind=x.Kind
 key:y.Key=x.Key
 time:y.Time=x.Time
 depth:y.Depth=x.Depth
 prev:y.bI=x.bI
 auth:y.bQ=x.bQ
 n:x.Kind=2\/x.Kind=4->y.Content.N=x.Content.N
 levels:x.Kind=3->y.Content.Levels=x.Content.Levels
inductive UL :List AV->List AV->Prop
 |nil:UL [] []
 |cons {x y:AV} {xs ys:List AV} (h:aFV x y) (t:UL xs ys):UL (x::xs) (y::ys)
def UL.append {a b c d:A8 AV} (h:UL a b) (k:UL c d):UL (a++c) (b++d):=by
 induction h with
 |nil=>exact k
 |cons h _ j=>exact .cons h j
def UL.any {p:AV->AZ} (hp:∀x y,aFV x y->p y=p x) {a b:A8 AV} (h:UL a b):b.any p=a.any p:=by
 induction h with
 |nil=>rfl
 |cons h _ j=>rw[Zm,Zm,hp _ _ h,j]
def UL.all {p:AV->AZ} (hp:∀x y,aFV x y->p y=p x) {a b:A8 AV} (h:UL a b):b.all p=a.all p:=by
 induction h with
 |nil=>rfl
 |cons h _ j=>rw[yE,yE,hp _ _ h,j]
structure alx (l l':List AV) (S:List Int):Prop where
 nodup:S.Nodup
 mem:∀x∈S,dQ l x=true/\dQ l' x=true/\aFV (ev l x) (ev l' x)
 prev:∀x∈S,∀a∈(ev l x).bI,a∈S
 auth:∀x∈S,∀a∈(ev l x).bQ,a∈S
section
variable {l l':A8 AV} {S:A8 Int} (h:alx l l' S)
include h
end
end
section
def Tf (n:Int):Int:=if n<0 then bits .xor .u64 IntKind.u64.max (IntKind.u64.wrap (IntKind.u64.wrap n*2))else IntKind.u64.wrap (IntKind.u64.wrap n*2)
def qm (n:Int):0<=Tf n/\Tf n<18446744073709551616:=by
 unfold Tf;have j:∀x:Int,0<=IntKind.u64.wrap x/\IntKind.u64.wrap x<18446744073709551616:=fun x=>by rw[kK];omega
 split
 ·obtain⟨q,z⟩:=j (IntKind.u64.wrap n*2);generalize IntKind.u64.wrap (IntKind.u64.wrap n*2)=y at *;obtain⟨k,rfl⟩:=Int.eq_ofNat_of_zero_le q;have :(IntKind.u64.max:Int)=((18446744073709551615:Nat):Int):=Bj
  rw[this,bits_xor_u64_nat _ _ AB AB];have :18446744073709551615^^^k<2^64:=Nat.xor_lt_two_pow AB AB;constructor
  ·exact aKs _
  have u:(2:Nat)^64=18446744073709551616:=Bj
  omega
 exact j _
def P6 (u:Nat):A8 Int:=if u<128 then[(u:Int)]else((u % 128+128:Nat):Int)::P6 (u/128)
termination_by u
decreasing_by omega
def kG {u:Nat} (h:u<128):P6 u=[(u:Int)]:=by rw[P6,Di h]
def aHk {u:Nat} (h:¬u<128):P6 u=((u % 128+128:Nat):Int)::P6 (u/128):=by rw[P6,Dp h]
def aTk :∀(j u:Nat),u<128^(j+1)->(P6 u).length<=j+1
 |0,u,h=>by rw[kG KY];simp
 |j+1,u,h=>by
  by_cases q:u<128
  ·rw[kG q];simp
  rw[aHk q]
  have :u/128<128^(j+1):=by
   rw[Nat.div_lt_iff_lt_mul AB];rw[Nat.pow_succ]at h;exact h
  have :=aTk j (u/128) this;simp;omega
def enc (n:Int):A8 Int:=P6 (Tf n).toNat
def PW (n:Int):(enc n).length<=10:=by
 have h:=(qm n).2;refine aTk 9 _ ?_;have :(128:Nat)^10=1180591620717411303424:=Bj
 rw[this];have :=(qm n).1;omega
def aZx (k:Nat):bits .or .u8 ((k:Int) % 256) 128=((k % 128+128:Nat):Int):=by
 have h:=u8_or_nat (k % 256) 128 AB AB;rw[show((k:Int) % 256)=((k % 256:Nat):Int)from by omega];have j:(128:Int)=((128:Nat):Int):=rfl;rw[j,h];congr 1;have key:∀x,x<256->x|||128=x % 128+128:=Ov
 rw[key _ AB];omega
def yL (u c:Int):Int:=(IntKind.u64.wrap (bits .xor .u64 u (IntKind.u64.wrap c)*1099511628211)).tmod 4611686018427387904
def aTW (x:Int):bits .and .u64 (IntKind.u64.wrap x) 4611686018427387903=(IntKind.u64.wrap x).tmod 4611686018427387904:=by
 rw[kK];have h:=bits_mask .u64 64 Bj (fun n q u=>by rw[kK];omega) 62 Bj (x % 18446744073709551616) AB AB;have e:((2:Int)^62-1)=4611686018427387903:=Bj
 have j:((2:Int)^62)=4611686018427387904:=Bj
 rw[aOp AB];simpa[e,j]using h
def akG (u c:Int):bits .and .u64 (IntKind.u64.wrap (bits .xor .u64 u (IntKind.u64.wrap c)*1099511628211)) 4611686018427387903=yL u c:=aTW _
def aEv (op:BinOp) (k:IntKind) (x y:Int) (h:op=.and\/op=.or\/op=.xor):Eu op k x y=bits op k x y:=by
 rcases h with rfl|rfl|rfl<;>rfl
def Nu {α:Type} {b:Nat} {l m:A8 α} (j:b<=100) (h:(l++m).length<=1099511627776):DU b l m=some (l++m):=by
 refine EC ?_;rw[En]at h;have :(l.length+m.length)*b<=1099511627776*100:=a0R h j;omega
def aZj (u:Nat):Eu .or .u8 (IntKind.u8.wrap (u:Int)) 128=((u % 128+128:Nat):Int):=by
 rw[aEv _ _ _ _ (.inr (.inl rfl)),show IntKind.u8.wrap (u:Int)=(u:Int) % 256 from by rw[oC],aZx]
def akQ (u:Nat):PO .shr .u64 (u:Int) 7=some ((u/128:Nat):Int):=by
 unfold PO;rw[Dp AB];show some ((u:Int).fdiv (2^7))=_;rw[aVu _ Bj];congr 1
def aPK {u n:Nat} (h:u<128^(n+1+1)):u/128<128^(n+1):=by
 rw[Nat.div_lt_iff_lt_mul AB];rw[Nat.pow_succ]at h;exact h
def agj :∀(n u:Nat),u<128^(n+1)->∀m b,n<m->(b++P6 u).length<=1099511627776->aU XA m b (u:Int)=some (b++P6 u):=by
 intro n
 induction n with
 |zero=>
  intro u q m b hm j;obtain⟨m,rfl⟩:∃z,m=z+1:=⟨m-1,AB⟩
  have h:u<128:=OQ
  rw[kG h]at j ⊢;show XA (aU XA m) b (u:Int)=_;simp only[XA,show decide ((u:Int)>=128)=false from by simp;omega,BX];rw[show IntKind.u8.wrap (u:Int)=(u:Int)from by rw[oC];omega,Nu AB j];rfl
 |succ n J=>
  intro u q m b hm j;obtain⟨m,rfl⟩:∃z,m=z+1:=⟨m-1,AB⟩
  show XA (aU XA m) b (u:Int)=_;by_cases h:u<128
  ·rw[kG h]at j ⊢;simp only[XA,show decide ((u:Int)>=128)=false from by simp;omega,BX];rw[show IntKind.u8.wrap (u:Int)=(u:Int)from by rw[oC];omega,Nu AB j];rfl
  rw[aHk h]at j ⊢;have e:(b++((u % 128+128:Nat):Int)::P6 (u/128))=(b++[((u % 128+128:Nat):Int)])++P6 (u/128):=Bh
  have I:(b++[((u % 128+128:Nat):Int)]).length<=1099511627776:=by simp only[En,HY,NM]at j ⊢;omega
  simp only[XA,show decide ((u:Int)>=128)=true from by simp;omega,Bz,aZj,Nu (show 1<=100 by omega) I,akQ,Ad];rw[e];exact J (u/128) (aPK q) m _ AB (by rw[←e];exact j)
def ajp :∀(n u:Nat),u<128^(n+1)->u<18446744073709551616->∀m b,n<m->(b++P6 u).length<=1099511627776->aU Vo m (u:Int) b=some (b++P6 u):=by
 intro n
 induction n with
 |zero=>
  intro u q _ m b hm j;obtain⟨m,rfl⟩:∃z,m=z+1:=⟨m-1,AB⟩
  have h:u<128:=OQ
  rw[kG h]at j ⊢;show Vo (aU Vo m) (u:Int) b=_;simp only[Vo,show decide ((u:Int)>=128)=false from by simp;omega,BX];rw[show IntKind.u8.wrap (u:Int)=(u:Int)from by rw[oC];omega,Nu AB j];rfl
 |succ n J=>
  intro u q L m b hm j;obtain⟨m,rfl⟩:∃z,m=z+1:=⟨m-1,AB⟩
  show Vo (aU Vo m) (u:Int) b=_;by_cases h:u<128
  ·rw[kG h]at j ⊢;simp only[Vo,show decide ((u:Int)>=128)=false from by simp;omega,BX];rw[show IntKind.u8.wrap (u:Int)=(u:Int)from by rw[oC];omega,Nu AB j];rfl
  rw[aHk h]at j ⊢;have e:(b++((u % 128+128:Nat):Int)::P6 (u/128))=(b++[((u % 128+128:Nat):Int)])++P6 (u/128):=Bh
  have I:(b++[((u % 128+128:Nat):Int)]).length<=1099511627776:=by simp only[En,HY,NM]at j ⊢;omega
  have M:Xc (u:Int) 128=some ((u % 128:Nat):Int):=by unfold Xc;rw[Dp AB,aOp AB];congr 1
  have O:uZ .u64 (u:Int) 128=some ((u/128:Nat):Int):=by
   unfold uZ;rw[Dp AB,Int.tdiv_eq_ediv_of_nonneg AB];congr 1;rw[kK];omega
  have U:IntKind.u8.wrap (IntKind.u64.wrap (((u % 128:Nat):Int)+128))=((u % 128+128:Nat):Int):=by rw[kK,oC];omega
  simp only[Vo,show decide ((u:Int)>=128)=true from by simp;omega,Bz,M,U,O,Nu (show 1<=100 by omega) I,Ad];rw[e];exact J (u/128) (aPK q) AB m _ AB (by rw[←e];exact j)
def aRS (x:Int):PO .shl .u64 x 1=some (IntKind.u64.wrap (x*2)):=rfl
def aXD (x:Int):ZU .u64 x=bits .xor .u64 IntKind.u64.max x:=rfl
def aUV (n:Int):(Tf n).toNat<128^(9+1):=by
 have j:=qm n;have :(128:Nat)^(9+1)=1180591620717411303424:=Bj
 rw[this];omega
def aXR :9<Ap:=gV
def number_eq {b:A8 Int} {n:Int} (h:(b++enc n).length<=1099511627776):Y9 b n=some (b++enc n):=by
 have u:=qm n
 have j:aS8 b (Tf n)=some (b++enc n):=by
  have :=agj 9 (Tf n).toNat (aUV n) Ap b aXR h
  rwa [Int.toNat_of_nonneg u.1]at this
 unfold Y9;rw[aRS,Ad];unfold aCh;unfold Tf at j;by_cases q:n<0
 ·rw[Di q]at j;rw[show decide (n<0)=true by simpa using q,Bz,aXD];exact j
 rw[Dp q]at j;rw[show decide (n<0)=false by simpa using q,BX];exact j
def ah4 (n:Int):([]++enc n).length<=1099511627776:=by have :=PW n;simp only[Iq];omega
def aPT (n:Int):tN n=some (enc n):=by
 have u:=qm n
 have j:aQD (Tf n) []=some (enc n):=by
  have :=ajp 9 (Tf n).toNat (aUV n) AB Ap [] aXR (ah4 n)
  rwa [Int.toNat_of_nonneg u.1]at this
 unfold tN;rw[aRS,Ad];unfold aD8;unfold Tf at j;by_cases q:n<0
 ·rw[Di q]at j;rw[show decide (n<0)=true by simpa using q,Bz,aXD];exact j
 rw[Dp q]at j;rw[show decide (n<0)=false by simpa using q,BX];exact j
def sZ {b:A8 Int} {m:Nat} (h:b.length+m<=1099511627776):Xx b (m:Int)=some b:=by
 unfold Xx;rw[O8 AB AB];unfold Iw;rw[Di ⟨AB,AB,AB⟩];simp[gCopy]
def aEg {a b:A8 Int} (h:(a++b).length<=1099511627776):a.length<=1099511627776:=by rw[En]at h;omega
def Jv (s:BD):A8 Int:=enc s.size++CU s
def text_eq {b:A8 Int} {s:BD} (h:(b++Jv s).length<=1099511627776):sB b s=some (b++Jv s):=by
 unfold Jv at h ⊢;rw[←Jd]at h ⊢;unfold sB;rw[number_eq (aEg h),Ad,Nu AB h];rfl
def pR {b:A8 Int} {n:Int} (h:b.length+10<=1099511627776):OC b n=some (b++enc n):=by
 have :=PW n;unfold OC;rw[show(10:Int)=((10:Nat):Int)from rfl,sZ AB,Ad,number_eq La];rfl
def Y8 {b:A8 Int} {n:Int} (h:b.length+10<=1099511627776):LK b n=some (b++enc n):=by
 have :=PW n;unfold LK;rw[Nu AB a1I,Ad,aPT,Ad,Iq,Nu AB La];rfl
def lH (s:BD):(Jv s).length<=s.size+10:=by
 have :=PW s.size;unfold Jv;rw[En,Ij];omega
def aZf {b:A8 Int} {s:BD} (h:b.length+s.size+10<=1099511627776):Ru b s=some (b++Jv s):=by
 have :=lH s;unfold Ru;rw[O8 AB AB,show(s.size:Int)+10=((s.size+10:Nat):Int) by omega,sZ AB,Ad,text_eq La];rfl
def aYD {b:A8 Int} {s:BD} (h:b.length+s.size+10<=1099511627776):Rf b s=some (b++Jv s):=by
 have :=lH s;unfold Rf;rw[Y8 AB,Ad,Nu AB (by unfold Jv at this;rw[En]at this;rw[En,En];omega)];simp[Jv]
def adF {b:A8 Int} {j:AZ} (h:b.length+10<=1099511627776):Xi b j=some (b++[bif j then 1 else 0]):=by
 unfold Xi;rw[show(1:Int)=((1:Nat):Int)from rfl,sZ AB,Ad];cases j<;>simp only[Bz,BX]<;>rw[Nu AB aH7]<;>rfl
def anu {b:A8 Int} {j:AZ} (h:b.length+10<=1099511627776):mM b j=some (b++[bif j then 1 else 0]):=by
 unfold mM;rw[Nu AB a1I,Ad,Iq];cases j<;>simp only[Bz,BX]<;>rw[Nu AB aH7]<;>rfl
def aJ5 {α:Type} {body:(A8 Int->Int->AL (A8 Int))->A8 Int->Int->AL (A8 Int)} (l:A8 α) (hl:l.length<Ap) (g:α->A8 Int)
 (z:∀k b (i:Nat) (h:i<l.length),(b++g l[i]).length<=1099511627776->body k b (i:Int)=k (b++g l[i]) (Aw ((i:Int)+1))) (I:∀k b,body k b (l.length:Int)=some b) (b:A8 Int) (j:(b++l.flatMap g).length<=1099511627776):
 aU body Ap b 0=some (b++l.flatMap g):=by
 have L:Ap=9223372036854775808:=rfl
 have key:∀n (i:Nat) b,i+n=l.length->(b++(l.drop i).flatMap g).length<=1099511627776->∀m,n<m->aU body m b (i:Int)=some (b++(l.drop i).flatMap g):=by
  intro n
  induction n with
  |zero=>
   intro i b hi j m hm;obtain⟨m,rfl⟩:∃u,m=u+1:=⟨m-1,AB⟩
   have :i=l.length:=AB
   subst this;show body (aU body m) _ _=_;rw[I,PZ];simp
  |succ n J=>
   intro i b hi j m hm;obtain⟨m,rfl⟩:∃u,m=u+1:=⟨m-1,AB⟩
   have q:i<l.length:=AB
   rw[Lh q,OD,←Jd]at j ⊢;show body (aU body m) _ _=_;rw[z _ _ i q (aEg j),wrap_succ i AB];exact J (i+1) _ AB j m AB
 exact key l.length 0 b AB j Ap hl
def QS (l:A8 Int):A8 Int:=enc l.length++l.flatMap enc
def QY (l:A8 BD):A8 Int:=enc l.length++l.flatMap Jv
def ajF {b:A8 Int} {l:A8 Int} (h:(b++QS l).length<=1099511627776) (hl:l.length<=1000):aAw b l=some (b++QS l):=by
 have q:Ap=9223372036854775808:=rfl;unfold QS at h ⊢;rw[←Jd]at h ⊢;unfold aAw;rw[number_eq (aEg h),Ad];unfold aUr;refine aJ5 l AB enc (fun k b i hi j=>?_) (fun k b=>?_) _ h
 ·simp only[aNJ,dec_lt hi,Bz,Cx hi,number_eq j,Ad]
 simp only[aNJ,Dy,BX]
def aaU {b:A8 Int} {l:A8 BD} (h:(b++QY l).length<=1099511627776) (hl:l.length<=1000000000):a0l b l=some (b++QY l):=by
 have q:Ap=9223372036854775808:=rfl;unfold QY at h ⊢;rw[←Jd]at h ⊢;unfold a0l;rw[number_eq (aEg h),Ad];unfold aVa;refine aJ5 l AB Jv (fun k b i hi j=>?_) (fun k b=>?_) _ h
 ·simp only[aJk,dec_lt hi,Bz,Cx hi,text_eq j,Ad]
 simp only[aJk,Dy,BX]
def a0i {α:Type} {g:α->A8 Int} {m:Nat}:∀{l:A8 α},(∀x∈l,(g x).length<=m)->(l.flatMap g).length<=l.length*m
 | [],_=>Bh
 |x::l,h=>by
  rw[OD,En,HY,Uk];have :=h x H8;have :=a0i (l:=l) (fun y j=>h y (IG _ j));omega
def aJD (l:A8 Int):(QS l).length<=l.length*10+10:=by
 have j:=PW l.length;have q:=a0i (g:=enc) (m:=10) (l:=l) (fun x _=>PW x);unfold QS;rw[En];omega
def aNf {l:A8 BD} {m:Nat} (h:∀s∈l,s.size<=m):(QY l).length<=l.length*(m+10)+10:=by
 have j:=PW l.length;have q:=a0i (g:=Jv) (m:=m+10) (l:=l) (fun s hs=>by have :=lH s;have :=h s hs;omega);unfold QY;rw[En];omega
def ab2 {b:A8 Int} {l:A8 Int} (j:b.length+20000<=1099511627776) (hl:l.length<=1000):YP b l=some (b++QS l):=by
 have q:=aJD l;unfold YP;rw[O8 (x:=2*(l.length:Int)) AB AB,O8 AB AB,show 2*(l.length:Int)+10=((2*l.length+10:Nat):Int) by omega,sZ AB,Ad,ajF La hl];rfl
def anT {b:A8 Int} {l:A8 Int} (q:b.length+20000<=1099511627776) (hl:l.length<=1000):oD b l=some (b++QS l):=by
 have u:Ap=9223372036854775808:=rfl;have z:=aJD l;have h:(b++QS l).length<=1099511627776:=La
 unfold QS at h ⊢;rw[←Jd]at h ⊢;unfold oD;rw[Y8 AB,Ad];unfold aTL;refine aJ5 l AB enc (fun k b i hi j=>?_) (fun k b=>?_) _ h
 ·simp only[aMT,dec_lt hi,Bz,Cx hi,aPT,Nu (show 1<=100 by omega) j,Ad]
 simp only[aMT,Dy,BX]
def ajz {b:A8 Int} {l:A8 BD} (j:b.length+3000000<=1099511627776) (hl:l.length<=1000) (hs:∀s∈l,s.size<=2000):kW b l=some (b++QY l):=by
 have q:=aNf hs;unfold kW;rw[O8 (x:=8*(l.length:Int)) AB AB,O8 AB AB,show 8*(l.length:Int)+10=((8*l.length+10:Nat):Int) by omega,sZ AB,Ad,aaU La AB];rfl
def adi {b:A8 Int} {l:A8 BD} (I:b.length+3000000<=1099511627776) (hl:l.length<=1000) (hs:∀s∈l,s.size<=2000):kM b l=some (b++QY l):=by
 have J:Ap=9223372036854775808:=rfl;have L:=aNf hs;have h:(b++QY l).length<=1099511627776:=La
 have key:∀n (i:Nat) b,i+n=l.length->b.length+(n*2020)<=1099511620000->∀m,n<m->aU (Xh l) m b (i:Int)=some (b++(l.drop i).flatMap Jv):=by
  intro n
  induction n with
  |zero=>
   intro i b hi u m hm;obtain⟨m,rfl⟩:∃q,m=q+1:=⟨m-1,AB⟩
   have :i=l.length:=AB
   subst this;show Xh l (aU (Xh l) m) _ _=_;simp only[Xh,Dy,BX,PZ];simp
  |succ n z=>
   intro i b hi u m hm;obtain⟨m,rfl⟩:∃q,m=q+1:=⟨m-1,AB⟩
   have j:i<l.length:=AB
   have M:=hs l[i] (Ew j);have O:=lH l[i];rw[Lh j,OD,←Jd];show Xh l (aU (Xh l) m) _ _=_;simp only[Xh,dec_lt j,Bz,Cx j,Ad];rw[aYD AB,Ad,wrap_succ i AB];exact z (i+1) _ AB La m AB
 unfold QY;rw[←Jd];unfold kM;rw[Y8 AB,Ad];unfold aUR;have :=key l.length 0 (b++enc l.length) AB (by have :=PW l.length;rw[En];omega) Ap AB;exact this
structure RU (c:D6):Prop where
 allow:c.Allow.length<=100
 deny:c.gJ.length<=100
 users:c.Levels.Users.length<=100
 kinds:c.Levels.Kinds.length<=100
 text:c.Text.size<=2000
 via:c.Via.size<=2000
 allows:∀x∈c.Allow,x.size<=2000
 denies:∀x∈c.gJ,x.size<=2000
 names:∀x∈c.Levels.Users,x.User.size<=2000
def FD.content {e:AV} (h:FD e):RU e.Content:=⟨h.allow,h.deny,h.users,h.kinds,h.text,h.via,h.allows,h.denies,h.names⟩
section
variable {b:A8 Int} {k:Nat}
def UO (h:b.length<=k) (j:k<=1000000000) (n:Int):OC b n=some (b++enc n)/\LK b n=some (b++enc n)/\(b++enc n).length<=k+10:=by
 have :=PW n;exact⟨pR AB,Y8 AB,La⟩
def aPN (h:b.length<=k) (q:k<=1000000000) (j:AZ):Xi b j=some (b++[bif j then 1 else 0])/\mM b j=some (b++[bif j then 1 else 0])/\(b++[bif j then(1:Int)else 0]).length<=k+10:=
 ⟨adF AB,anu AB,aH7⟩
def XB (h:b.length<=k) (j:k<=1000000000) {s:BD} (m:Nat) (hs:s.size<=m) (hm:m<=1000000000):Ru b s=some (b++Jv s)/\Rf b s=some (b++Jv s)/\(b++Jv s).length<=k+m+10:=by
 have :=lH s;exact⟨aZf AB,aYD AB,La⟩
def aOg (h:b.length<=k) (j:k<=1000000000) {l:A8 Int} (hl:l.length<=100):YP b l=some (b++QS l)/\oD b l=some (b++QS l)/\(b++QS l).length<=k+1010:=by
 have :=aJD l;exact⟨ab2 AB AB,anT AB AB,La⟩
def aUZ (h:b.length<=k) (j:k<=1000000000) {l:A8 BD} (hl:l.length<=100) (hs:∀s∈l,s.size<=2000):kW b l=some (b++QY l)/\kM b l=some (b++QY l)/\(b++QY l).length<=k+201010:=by
 have :=aNf hs;exact⟨ajz AB AB hs,adi AB AB hs,La⟩
end
def SX (u:IJ):A8 Int:=Jv u.User++enc u.N
def St (u:Jc):A8 Int:=enc u.Kind++enc u.N
def Ju (l:Cc):A8 Int:=[l.User,l.Message,l.State,l.gy,l.jL,l.lV,l.gW]
def aiM (b:A8 Int) (l:Cc):A8 Int:=b++enc l.Users.length++l.Users.flatMap SX++enc l.Kinds.length++l.Kinds.flatMap St++(Ju l).flatMap enc
def lX (c:D6):A8 Int:=aiM ([]++Jv c.Text++enc c.N++enc c.Target++[bif c.Thread then 1 else 0]++Jv c.Via++QY c.Allow++QY c.gJ) c.Levels
def ajj {u:IJ} (h:u.User.size<=2000):(SX u).length<=2020:=by
 have :=lH u.User;have :=PW u.N;unfold SX;rw[En];omega
def aYW (u:Jc):(St u).length<=20:=by
 have :=PW u.Kind;have :=PW u.N;unfold St;rw[En];omega
def mQ {R α:Type} {body:(A8 Int->Int->AL R)->A8 Int->Int->AL R} (l:A8 α) (hl:l.length<=1000) (g:α->A8 Int) (m:Nat) (hm:∀x∈l,(g x).length<=m) (j:A8 Int->AL R) (b:A8 Int)
 (q:∀k a (i:Nat) (h:i<l.length),a.length<=b.length+i*m->body k a (i:Int)=k (a++g l[i]) (Aw ((i:Int)+1)))
 (u:∀k a,a.length<=b.length+l.length*m->body k a (l.length:Int)=j a):aU body Ap b 0=j (b++l.flatMap g)/\(b++l.flatMap g).length<=b.length+l.length*m:=by
 constructor
 ·rw[IZ l AB (fun a x=>a++g x) (fun i a=>a.length<=b.length+i*m) j AB (fun k a i h z=>⟨?_,q k a i h z⟩) u,foldl_append g];have :=hm l[i] (Ew h);rw[En,Uk];omega
 have :=a0i hm;rw[En];omega
def aaV (c:D6) (b:A8 Int) (J:b.length<=900000):(aI6 c b 0=some (b++(Ju c.Levels).flatMap enc)/\aFx (Ju c.Levels) b 0=some (b++(Ju c.Levels).flatMap enc))/\(b++(Ju c.Levels).flatMap enc).length<=b.length+70:=by
 have u:∀i:Nat,(h:i<(Ju c.Levels).length)->Ak ([c.Levels.User,c.Levels.Message,c.Levels.State,c.Levels.gy,c.Levels.jL,c.Levels.lV,c.Levels.gW]:A8 Int) (i:Int)=some (Ju c.Levels)[i]:=fun i h=>Cx h
 have q:=mQ (body:=aO8 c) (Ju c.Levels) (by simp[Ju]) enc 10 (fun x _=>PW x) some b (fun k a i h j=>by
  have z:i<7:=h;unfold aO8
  rw[JG (show(i:Int)<7 by omega),Bz,u i h,Ad,pR AB,Ad]) fun k a j=>rfl
 have I:=mQ (body:=a1o (Ju c.Levels)) (Ju c.Levels) (by simp[Ju]) enc 10 (fun x _=>PW x) some b (fun k a i h j=>by
  have z:i<7:=h;unfold a1o
  rw[DR h,Y8 AB,Ad]) fun k a j=>by unfold a1o;rw[Dy];rfl
 exact⟨⟨q.1,I.1⟩,q.2⟩
def adr (c:D6) (b:A8 Int) (L:b.length<=800000) (M:c.Levels.Kinds.length<=100):(aLU c b 0=some (b++c.Levels.Kinds.flatMap St++(Ju c.Levels).flatMap enc)/\aMk c b 0=some (b++c.Levels.Kinds.flatMap St++(Ju c.Levels).flatMap enc))/\(b++c.Levels.Kinds.flatMap St++(Ju c.Levels).flatMap enc).length<=b.length+2070:=by
 have u:=mQ (body:=aAT c) c.Levels.Kinds AB St 20 (fun x _=>aYW x) (fun a=>aI6 c a 0) b (fun k a i h j=>by
  obtain⟨q,_,I⟩:=UO (b:=a) (k:=900000) AB AB c.Levels.Kinds[i].Kind;unfold aAT
  rw[DR h,q,Ad,pR AB,Ad,Jd];rfl) fun k a j=>by unfold aAT;rw[Dy];rfl
 have J:=mQ (body:=aAN c) c.Levels.Kinds AB St 20 (fun x _=>aYW x) (fun a=>aFx (Ju c.Levels) a 0) b (fun k a i h j=>by
  obtain⟨_,q,I⟩:=UO (b:=a) (k:=900000) AB AB c.Levels.Kinds[i].Kind;unfold aAN
  rw[DR h,q,Ad,Cx h,Ad,Y8 AB,Ad,Jd];rfl) fun k a j=>by unfold aAN aIi;rw[Dy,BX,Ad];rfl
 have hl:=u.2;have z:=aaV c (b++c.Levels.Kinds.flatMap St) AB;exact⟨⟨u.1.trans z.1.1,J.1.trans z.1.2⟩,AB⟩
def ahQ (c:D6) (b:A8 Int) (Z:b.length<=500000) (j:RU c):(aPt c b 0=some (b++c.Levels.Users.flatMap SX++enc c.Levels.Kinds.length++c.Levels.Kinds.flatMap St++(Ju c.Levels).flatMap enc)/\aUy c b 0=some (b++c.Levels.Users.flatMap SX++enc c.Levels.Kinds.length++c.Levels.Kinds.flatMap St++(Ju c.Levels).flatMap enc))/\(b++c.Levels.Users.flatMap SX++enc c.Levels.Kinds.length++c.Levels.Kinds.flatMap St++(Ju c.Levels).flatMap enc).length<=b.length+204080:=by
 have hu:=j.users;have I:∀x∈c.Levels.Users,(SX x).length<=2020:=fun x L=>ajj (j.names x L)
 have J:=mQ (body:=aAI c) c.Levels.Users AB SX 2020 I (fun a=>aLU c (a++enc c.Levels.Kinds.length) 0) b (fun k a i h q=>by
  have hs:=j.names _ (Ew h);obtain⟨u,_,M⟩:=XB (b:=a) (k:=900000) AB AB (s:=c.Levels.Users[i].User) 2000 hs AB;unfold aAI
  rw[DR h,u,Ad,pR AB,Ad,Jd];rfl) fun k a q=>by unfold aAI;rw[Dy,BX,pR AB,Ad]
 have O:=mQ (body:=aAF c) c.Levels.Users AB SX 2020 I (fun a=>aMk c (a++enc c.Levels.Kinds.length) 0) b (fun k a i h q=>by
  have hs:=j.names _ (Ew h);obtain⟨_,u,M⟩:=XB (b:=a) (k:=900000) AB AB (s:=c.Levels.Users[i].User) 2000 hs AB;unfold aAF
  rw[DR h,u,Ad,Cx h,Ad,Y8 AB,Ad,Jd];rfl) fun k a q=>by unfold aAF;rw[Dy,BX,Y8 AB,Ad]
 have hl:=J.2;have he:=PW (c.Levels.Kinds.length:Int);have U:(b++c.Levels.Users.flatMap SX++enc c.Levels.Kinds.length).length=(b++c.Levels.Users.flatMap SX).length+(enc c.Levels.Kinds.length).length:=En ..;have z:=adr c (b++c.Levels.Users.flatMap SX++enc c.Levels.Kinds.length) AB j.kinds;have Y:=z.2;rw[U]at Y;exact⟨⟨J.1.trans z.1.1,O.1.trans z.1.2⟩,AB⟩
def aTI {c:D6} (j:RU c):oM c=some (lX c)/\zi c=some (lX c)/\(lX c).length<=700000:=by
 obtain⟨q,u,z⟩:=XB (b:=[]) (k:=0) (EZ _) AB 2000 j.text AB;obtain⟨I,J,L⟩:=UO z AB c.N;obtain⟨M,O,U⟩:=UO L AB c.Target;obtain⟨Y,Z,h4⟩:=aPN U AB c.Thread;obtain⟨a5,b5,h5⟩:=XB h4 AB 2000 j.via AB;obtain⟨a6,b6,h6⟩:=aUZ h5 AB j.allow j.allows;obtain⟨a7,b7,h7⟩:=aUZ h6 AB j.deny j.denies;obtain⟨a8,b8,h8⟩:=UO h7 AB (c.Levels.Users.length:Int);obtain⟨⟨a9,b9⟩,h9⟩:=ahQ c _ (FC h8 AB) j;refine⟨?_,?_,FC h9 AB⟩
 ·unfold oM;rw[q,Ad,I,Ad,M,Ad,Y,Ad,a5,Ad,a6,Ad,a7,Ad,a8,Ad];exact a9
 unfold zi;rw[u,Ad,J,Ad,O,Ad,Z,Ad,b5,Ad,b6,Ad,b7,Ad,b8,Ad];exact b9
def aDp (e:AV):A8 Int:=
 []++enc e.Id++Jv e.Room++Jv e.bF++enc e.Kind++[bif e.State then 1 else 0]++Jv e.Key++enc e.Time++enc e.Depth++QS e.bI++QS e.bQ++Jv (QJ (lX e.Content))++enc e.Hash++Jv e.nU.Server++enc e.nU.Sum
def akd (l:A8 Int):(QJ l).size=l.length:=by
 have key:∀(l:A8 Int) (r:BD),(l.foldl (fun r n=>r.push (UInt8.ofNat n.toNat)) r).size=r.size+l.length:=by
  intro l
  induction l with
  |nil=>intro r;rfl
  |cons x l j=>intro r;rw[Gt,j,ByteArray.size_push,HY];omega
 unfold QJ;rw[key];simp
def aBL {S α:Type} {body:(Int->S->AL S)->Int->S->AL S} (l:A8 α) (hl:l.length<1000) (f:S->α->AL S)
 (u:∀k (i:Nat) (h:i<l.length) s,body k (i:Int) s=(f s l[i]).bind fun x=>k (Aw ((i:Int)+1)) x) (z:∀k s,body k (l.length:Int) s=some s) (s:S):aU body Ap 0 s=l.foldlM f s:=by
 have J:Ap=9223372036854775808:=rfl
 have key:∀n (i:Nat) s,i+n=l.length->∀m,n<m->aU body m (i:Int) s=(l.drop i).foldlM f s:=by
  intro n
  induction n with
  |zero=>
   intro i s hi m hm;obtain⟨m,rfl⟩:∃q,m=q+1:=⟨m-1,AB⟩
   have :i=l.length:=AB
   subst this;rw[PZ];exact z _ _
  |succ n I=>
   intro i s hi m hm;obtain⟨m,rfl⟩:∃q,m=q+1:=⟨m-1,AB⟩
   have j:i<l.length:=AB
   rw[Lh j,Ui];show body (aU body m) _ _=(f s l[i]).bind _;rw[u _ i j,wrap_succ i AB];congr 1;funext x;exact I (i+1) x AB m AB
 exact key l.length 0 s AB Ap AB
def aUI (w:Fp) (l:A8 Int) (hl:l.length<1000):TY w l=l.foldlM iw w:=by
 unfold TY aXZ;exact aBL l hl _ (fun k i h s=>by simp only[aKx,dec_lt h,Bz,Cx h,Ad]) (fun k s=>by simp only[aKx,Dy,BX]) w
def aQf (w:Fp) (l:A8 BD) (hl:l.length<1000):WY w l=l.foldlM mZ w:=by
 unfold WY aWV;exact aBL l hl _ (fun k i h s=>by simp only[aM7,dec_lt h,Bz,Cx h,Ad]) (fun k s=>by simp only[aM7,Dy,BX]) w
def aeD (w:Fp) (l:A8 AZ) (hl:l.length<1000):zX w l=l.foldlM yN w:=by
 unfold zX aPq;exact aBL l hl _ (fun k i h s=>by simp only[aJa,dec_lt h,Bz,Cx h,Ad]) (fun k s=>by simp only[aJa,Dy,BX]) w
def aja (w:Fp) (l:A8 (A8 Int)) (hl:l.length<1000):qh w l=l.foldlM ny w:=by
 unfold qh aRF;exact aBL l hl _ (fun k i h s=>by simp only[aMe,dec_lt h,Bz,Cx h,Ad]) (fun k s=>by simp only[aMe,Dy,BX]) w
def aL1 {b c:A8 Int} {n:Int} (h:OC b n=some c):iw ⟨b⟩ n=some ⟨c⟩:=by unfold iw;rw[h];rfl
def aJc {b c:A8 Int} {n:BD} (h:Ru b n=some c):mZ ⟨b⟩ n=some ⟨c⟩:=by unfold mZ;rw[h];rfl
def aiQ {b c:A8 Int} {n:AZ} (h:Xi b n=some c):yN ⟨b⟩ n=some ⟨c⟩:=by unfold yN;rw[h];rfl
def aU3 {b c:A8 Int} {n:A8 Int} (h:YP b n=some c):ny ⟨b⟩ n=some ⟨c⟩:=by unfold ny;rw[h];rfl
def aFO {b c:A8 Int} {n:Int} (h:OC b n=some c):TY ⟨b⟩ [n]=some ⟨c⟩:=by
 rw[aUI _ _ Bh,Ui,aL1 h];rfl
def aau {b c d:A8 Int} {n m:Int} (h:OC b n=some c) (k:OC c m=some d):TY ⟨b⟩ [n,m]=some ⟨d⟩:=by
 rw[aUI _ _ Bh,Ui,aL1 h];show(iw ⟨c⟩ m).bind _=_;rw[aL1 k];rfl
def aGF {b c:A8 Int} {n:BD} (h:Ru b n=some c):WY ⟨b⟩ [n]=some ⟨c⟩:=by
 rw[aQf _ _ Bh,Ui,aJc h];rfl
def ahA {b c d:A8 Int} {n m:BD} (h:Ru b n=some c) (k:Ru c m=some d):WY ⟨b⟩ [n,m]=some ⟨d⟩:=by
 rw[aQf _ _ Bh,Ui,aJc h];show(mZ ⟨c⟩ m).bind _=_;rw[aJc k];rfl
def amH {b c:A8 Int} {n:AZ} (h:Xi b n=some c):zX ⟨b⟩ [n]=some ⟨c⟩:=by
 rw[aeD _ _ Bh,Ui,aiQ h];rfl
def aiW {b c d:A8 Int} {n m:A8 Int} (h:YP b n=some c) (k:YP c m=some d):qh ⟨b⟩ [n,m]=some ⟨d⟩:=by
 rw[aja _ _ Bh,Ui,aU3 h];show(ny ⟨c⟩ m).bind _=_;rw[aU3 k];rfl
def ac5 {e:AV} (j:FD e):uY e=some (aDp e)/\ql e=some (aDp e)/\(aDp e).length<=1000000:=by
 obtain⟨ac,bc,hc⟩:=aTI j.content;obtain⟨a1,b1,h1⟩:=UO (b:=[]) (k:=0) (EZ _) AB e.Id;obtain⟨a2,b2,h2⟩:=XB h1 AB 2000 j.room AB;obtain⟨a3,b3,h3⟩:=XB h2 AB 2000 j.sender AB;obtain⟨a4,b4,h4⟩:=UO h3 AB e.Kind;obtain⟨a5,b5,h5⟩:=aPN h4 AB e.State;obtain⟨a6,b6,h6⟩:=XB h5 AB 2000 j.key AB;obtain⟨a7,b7,h7⟩:=UO h6 AB e.Time;obtain⟨a8,b8,h8⟩:=UO h7 AB e.Depth;obtain⟨a9,b9,h9⟩:=aOg h8 AB (FC j.prev AB);obtain⟨q,u,z⟩:=aOg h9 AB (FC j.auth AB);obtain⟨I,J,L⟩:=XB z AB (s:=QJ (lX e.Content)) 700000 (by rw[akd];exact hc) AB;obtain⟨M,O,U⟩:=UO L AB e.Hash;obtain⟨Y,Z,h13⟩:=XB U AB 2000 j.server AB;obtain⟨a14,b14,h14⟩:=UO h13 AB e.nU.Sum;refine⟨?_,?_,FC h14 AB⟩
 ·unfold uY
  rw[show TY aC5 [e.Id]=_ from aFO a1,Ad,ahA a2 a3,Ad,aFO a4,Ad,amH a5,Ad,aGF a6,Ad,aau a7 a8,Ad,aiW a9 q,Ad,
   ac,Ad,aGF I,Ad,aFO M,Ad,aGF Y,Ad,aFO a14,Ad]
  rfl
 unfold ql;rw[b1,Ad,b2,Ad,b3,Ad,b4,Ad,b5,Ad,b6,Ad,b7,Ad,b8,Ad,b9,Ad,u,Ad,bc,Ad,J,Ad,O,Ad,Z,Ad,b14,Ad];rfl
def a0a (l:A8 Int):Int:=Aw (l.foldl yL ((IntKind.u64.wrap 860922984064492325).tmod 4611686018427387904))
def aSx {l:A8 Int} (hl:l.length<=1000000):sH l=some (a0a l):=by
 unfold sH aMv;rw[Ad];unfold aN5 aWQ
 rw[aEv _ _ _ _ (.inl rfl),aTW,IZ l AB yL (fun _ _=>True) (fun s=>some (Aw s)) trivial (fun k s i h _=>⟨trivial,by
  simp only[aJM,dec_lt h,Bz,Cx h,Ad,aEv _ _ _ _ (.inl rfl),aEv _ _ _ _ (.inr (.inr rfl)),akG]⟩) fun k s _=>by
  simp only[aJM,Dy,BX]]
 rfl
def aPj {l:A8 Int} (hl:l.length<=1000000):pq l=some (a0a l):=by
 unfold pq;rw[show aLK=some 860922984064492325 from rfl,Ad];unfold aNc aOn
 rw[show Xc (IntKind.u64.wrap 860922984064492325) 4611686018427387904=some ((IntKind.u64.wrap 860922984064492325).tmod 4611686018427387904)from rfl,Ad,IZ l AB yL (fun _ _=>True) (fun s=>some (Aw s)) trivial (fun k s i h _=>⟨trivial,by
  have e:Xc (IntKind.u64.wrap ((Eu .xor .u64 s (IntKind.u64.wrap l[i]))*1099511628211)) 4611686018427387904=some (yL s l[i]):=rfl
  simp only[aKn,dec_lt h,Bz,Cx h,Ad,e]⟩) fun k s _=>by
  simp only[aKn,Dy,BX]]
 rfl
def ZH (k:Int) (c:D6):D6:=
 if k=1 then c else if k=2 then{ ET with N:=c.N,Via:=c.Via }else if k=3 then{ ET with Levels:=c.Levels }else if k=4 then{ ET with N:=c.N,Allow:=c.Allow }else
 if k=5 then{ ET with N:=c.N }else if k=6 then{ ET with Allow:=c.Allow,gJ:=c.gJ }else if k=14 then{ ET with Target:=c.Target }else ET
def aPL {R:Type} (a b:Int) (x y:R):(bif a==b then x else y)=if a=b then x else y:=by
 by_cases h:a=b
 ·subst h;simp
 have :(a==b)=false:=KY
 rw[this,Dp h];rfl
def aS5 {R:Type} (p:Prop) [Decidable p] (x y:R):(if p then some x else some y)=some (if p then x else y):=by split<;>rfl
def aSw (k:Int) (c:D6):qO k c=some (ZH k c):=by
 unfold qO ZH;simp only[aPL,aS5]
def texts_eq {l:A8 BD} (h:l.length<=100):Sr l=some l:=by
 unfold Sr;rw[Nu AB a1I];rfl
def aRs {l:Cc} (q:l.Users.length<=100) (j:l.Kinds.length<=100):ZW l=some l:=by
 unfold ZW;rw[Nu AB a1I,Ad,Nu AB (by rw[Iq];exact FC j AB)];rfl
def aES (k:Int):Int:=if k=2 then 18 else if k=3 then 128 else if k=4 then 34 else if k=5 then 2 else if k=6 then 96 else if k=14 then 4 else 0
def aa0 (k:Int):jo k=some (aES k):=by
 by_cases q:k=2
 ·subst q;rfl
 by_cases u:k=3
 ·subst u;rfl
 by_cases z:k=4
 ·subst z;rfl
 by_cases I:k=5
 ·subst I;rfl
 by_cases j:k=6
 ·subst j;rfl
 unfold jo lK aES;simp only[aPL,q,u,z,I,j,KP,show(k==6)=false from by simpa using j,BX,aS5]
def aPf (k:Int) {c:D6} (j:RU c):qy k c=some (ZH k c):=by
 by_cases u:k=1
 ·subst u;show(Sr c.Allow).bind (fun O=>(Sr c.gJ).bind fun U=>(ZW c.Levels).bind fun Y=>some ({ { { c with Allow:=O }with gJ:=U }with Levels:=Y }))=_;rw[texts_eq j.allow,Ad,texts_eq j.deny,Ad,aRs j.users j.kinds];rfl
 unfold qy;rw[show(k==1)=false from by simpa using u,BX,aa0,Ad];by_cases z:k=2
 ·subst z;rfl
 by_cases I:k=3
 ·subst I;show(ZW c.Levels).bind (fun x=>some { ET with Levels:=x })=_;rw[aRs j.users j.kinds];rfl
 by_cases J:k=4
 ·subst J;show(Sr c.Allow).bind (fun x=>some { ET with N:=c.N,Allow:=x })=_;rw[texts_eq j.allow];rfl
 by_cases L:k=5
 ·subst L;rfl
 by_cases M:k=6
 ·subst M;show(Sr c.Allow).bind (fun x=>(Sr c.gJ).bind fun y=>some { ET with Allow:=x,gJ:=y })=_;rw[texts_eq j.allow,Ad,texts_eq j.deny];rfl
 by_cases q:k=14
 ·subst q;rfl
 have Z:aES k=0:=by unfold aES;simp only[z,I,J,L,M,q,KP]
 have e2:ZH k c=ET:=by unfold ZH;simp only[u,z,I,J,L,M,q,KP]
 rw[Z,e2];rfl
def RU.strip {c:D6} (h:RU c) (k:Int):RU (ZH k c):=by
 have j:(0:Nat)<=2000:=AB
 unfold ZH
 repeat' split
 all_goals first|exact h|exact⟨by simp[ET,Js,h.allow],by simp[ET,Js,h.deny],by simp[ET,Js,h.users],by simp[ET,Js,h.kinds],by first|exact h.text|exact j,by first|exact h.via|exact j,by first|exact h.allows|simp[ET],by first|exact h.denies|simp[ET],by first|exact h.names|simp[ET,Js]⟩
def aIN (e:AV):AV:={ e with Content:=ZH e.Kind e.Content }
def UY (e:AV):Prop:=FD { e with nU:=eA }
def UY.content {e:AV} (h:UY e):RU e.Content:=FD.content (e:={ e with nU:=eA }) h
def FD.x {e:AV} (h:FD e):UY e:=⟨h.prev,h.auth,h.allow,h.deny,h.users,h.kinds,h.room,h.sender,h.key,h.text,h.via,Ea _,h.allows,h.denies,h.names⟩
def aZO {e:AV} (j:UY e):aCm e=some (aIN e)/\aDA e=some (aIN e):=by
 unfold aCm aDA;rw[aPf _ j.content,aSw];exact⟨rfl,rfl⟩
def UD (e:AV):Int:=a0a (lX e.Content)
def aCK (e:AV):AV:={ { aIN e with Id:=0 }with nU:=eA }
def yJ (e:AV):Int:=a0a (aDp (aCK e))
def UY.bare {e:AV} (h:UY e):FD (aCK e):=by
 have j:=h.content.strip e.Kind;exact⟨h.prev,h.auth,j.allow,j.deny,j.users,j.kinds,h.room,h.sender,h.key,j.text,j.via,by show(0:Nat)<=2000;omega,j.allows,j.denies,j.names⟩
def aHo {e:AV} (j:UY e):qc e=some (UD e)/\pS e=some (UD e):=by
 obtain⟨a,b,h⟩:=aTI j.content;unfold qc pS;rw[a,b,Ad,Ad,aSx AB,aPj AB];exact⟨rfl,rfl⟩
def aJG {e:AV} (j:UY e):vN e=some (yJ e)/\qF e=some (yJ e):=by
 obtain⟨a,b⟩:=aZO j;obtain⟨c,d,h⟩:=ac5 j.bare;unfold vN qF;rw[a,b,Ad,Ad];show(uY (aCK e)).bind _=_/\(ql (aCK e)).bind _=_;rw[c,d,Ad,Ad,aSx AB,aPj AB];exact⟨rfl,rfl⟩
def Yv (e:AV) (s:BD):AV:={ e with Hash:=UD e,Id:=yJ { e with Hash:=UD e },nU:=⟨s,yJ { e with Hash:=UD e }⟩ }
def FD.hash {e:AV} (h:FD e) (n:Int):FD { e with Hash:=n }:=⟨h.prev,h.auth,h.allow,h.deny,h.users,h.kinds,h.room,h.sender,h.key,h.text,h.via,h.server,h.allows,h.denies,h.names⟩
def aR4 {e:AV} (j:FD e) (s:BD):aB8 e s=some (Yv e s)/\wO e s=some (Yv e s):=by
 obtain⟨a,b⟩:=aHo j.x;obtain⟨c,d⟩:=aJG (j.hash (UD e)).x;unfold aB8 wO Yv;rw[a,b,Ad,Ad];obtain⟨n,q⟩:∃n,n=yJ { e with Hash:=UD e }:=⟨_,rfl⟩
 obtain⟨m,hm⟩:∃m,m=UD e:=⟨_,rfl⟩
 rw[←q]at c d ⊢;rw[←hm]at c d ⊢;rw[c,d];exact⟨rfl,rfl⟩
def Qs (s:BD):Int:=bif Ht s 64 then 0 else 3
def VZ (s:BD):Int:=bif Ht s 33 then 0 else 3
def ZO {s:BD} (hs:s.size<=9223372036854775807):dS s=some (Qs s)/\Yt s=some (Qs s):=by
 unfold dS wE Yt Qs;rw[aIR hs (marks:=xR) (by rw[show CU xR=[64]from rfl];intro m hm;simp only[FK,G5,iY]at hm;omega),a1C hs Bj,show((CU xR).any fun m=>Ht s m)=(Ht s 64||false)from rfl];cases Ht s 64<;>exact⟨rfl,rfl⟩
def yH {s:BD} (hs:s.size<=9223372036854775807):uh s=some (VZ s)/\iU s=some (VZ s):=by
 unfold uh wE iU VZ;rw[aIR hs (marks:=vV) (by rw[show CU vV=[33]from rfl];intro m hm;simp only[FK,G5,iY]at hm;omega),a1C hs Bj,show((CU vV).any fun m=>Ht s m)=(Ht s 33||false)from rfl];cases Ht s 33<;>exact⟨rfl,rfl⟩
def amM {l:A8 Int} (h:Wv l=true):(58:Int)∉l:=by
 intro hm;unfold Wv Qg at h;simp only[Du,El]at h;have :=h.2 58 hm;exact absurd this Bj
def aiR (s:BD) (hs:s.size<=2000):(splitB s (Jt s)).1.size<=2000/\(58:Int)∉CU (splitB s (Jt s)).1/\(splitB s (Jt s)).2.1.size<=2000:=by
 have q:CS.size<=2000:=Bj
 cases h:Jt s with
 |false=>exact⟨q,by show(58:Int)∉CU CS;decide,q⟩
 |true=>
  have j:UH s=true:=by
   unfold Jt Ht at h;cases j:UH s with
   |true=>rfl
   |false=>rw[j]at h;simp at h
  refine⟨FC (extract_size _ _ _) hs,amM ?_,FC (extract_size _ _ _) hs⟩;unfold UH at j;simp only[Du]at j;exact j.1.2
def any_false {α:Type} (l:A8 α):(l.any fun _=>false)=false:=Bh
def aJy {α:Type} {body:(Int->AL AZ)->Int->AL AZ} (l:A8 α) (hl:l.length<=1000) (rest:AL AZ) (j:∀k (i:Nat) (h:i<l.length),body k (i:Int)=k (Aw ((i:Int)+1))) (q:∀k,body k (l.length:Int)=rest):bJ body Ap 0=rest:=by
 rw[Hz l (aH0 AB) (fun _=>false) false rest (fun k i h=>by rw[j k i h];rfl) q,any_false];rfl
def aYo {l:A8 BD} (h:l.length<=1000):TT l l=some true:=by
 unfold TT aDl;rw[show((l.length:Int) != (l.length:Int))=false from by simp,BX];exact aJy l h _ (fun k i h=>aWv) (fun k=>aNn)
structure LC (c:D6):Prop where
 allow:c.Allow.length<=9223372036854775807
 deny:c.gJ.length<=9223372036854775807
 users:c.Levels.Users.length<=9223372036854775807
 kinds:c.Levels.Kinds.length<=9223372036854775807
 text:c.Text.size<=9223372036854775807
 via:c.Via.size<=9223372036854775807
 allows:∀x∈c.Allow,x.size<=9223372036854775807
 denies:∀x∈c.gJ,x.size<=9223372036854775807
 names:∀x∈c.Levels.Users,x.User.size<=9223372036854775807
structure WS (e:AV):Prop where
 prev:e.bI.length<=9223372036854775807
 auth:e.bQ.length<=9223372036854775807
 room:e.Room.size<=9223372036854775807
 sender:e.bF.size<=9223372036854775807
 key:e.Key.size<=9223372036854775807
 server:e.nU.Server.size<=9223372036854775807
 content:LC e.Content
def RU.wide {c:D6} (h:RU c):LC c:=by
 obtain⟨I,J,L,M,O,U,q,u,z⟩:=h;exact⟨AB,AB,AB,AB,AB,AB,fun x j=>by have :=q x j;omega,fun x j=>by have :=u x j;omega,fun x j=>by have :=z x j;omega⟩
def FD.wide {e:AV} (h:FD e):WS e:=by
 have j:=h.prev;have q:=h.auth;have u:=h.room;have z:=h.sender;have I:=h.key;have J:=h.server;exact⟨AB,AB,AB,AB,AB,AB,h.content.wide⟩
def aEc (k:Int):xK k=some (decide (k>=1)&&(k<=14))/\nY k=some (decide (k>=1)&&(k<=14)):=by
 unfold xK nY;cases decide (k>=1)<;>cases decide (k<=14)<;>exact⟨rfl,rfl⟩
def TG (n:Int):AZ:=decide (n< -1000)||(n>1000)
def a0y (n:Int):jm n=some (TG n)/\TK n=some (TG n):=by
 unfold jm TK TG;cases decide (n< -1000)<;>cases decide (n>1000)<;>exact⟨rfl,rfl⟩
def Pg (c:Int):AZ:=decide (c<33)||(c>126)
def aA2 (s:BD):(s.toList==CS.toList)=((s.size:Int)==0):=by
 rw[Ir];by_cases h:s=CS
 ·subst h;rfl
 have :¬s.size=0:=fun j=>h (bytes_inj (by
  have q:CU s=[]:=Hg (by rw[Ij];exact j)
  rw[q];rfl))
 rw[JK h];symm;rw[SE];omega
def aD2 (s:BD):Int:=if s.size=0 then 9 else if s.size>64 then 7 else bif (CU s).any Pg then 3 else 0
def aGo {s:BD} (hs:s.size<=9223372036854775807):uT s=some (aD2 s)/\lY s=some (aD2 s):=by
 have u:aIH s 0=some (bif (CU s).any Pg then 3 else 0):=by
  unfold aIH;rw[Hz (CU s) Z5 Pg 3 (some 0) (fun k i h=>?_) (fun k=>?_),KO]
  ·have h':i<s.size:=X0
   simp only[aLB,dec_lt h',Bz,VR h,Ad,Pg];cases decide ((CU s)[i]<33)<;>cases decide ((CU s)[i]>126)<;>rfl
  simp only[aLB,Ij,Dy,BX]
 have z:aK8 s 0=some (bif (CU s).any Pg then 3 else 0):=by
  unfold aK8;rw[Hz (CU s) Z5 Pg 3 (some 0) (fun k i h=>?_) (fun k=>?_),KO]
  ·have h':i<s.size:=X0
   simp only[aGM,dec_lt h',Bz,VR h,Ad,Pg];cases decide ((CU s)[i]<33)<;>cases decide ((CU s)[i]>126)<;>rfl
  simp only[aGM,Ij,Dy,BX]
 unfold uT lY aD2;rw[aA2,u,z];by_cases j:s.size=0
 ·simp[j]
 have :((s.size:Int)==0)=false:=by rw[SE];omega
 rw[this,Dp j];by_cases q:s.size>64
 ·have :decide ((s.size:Int)>64)=true:=EW
  rw[this,Di q];exact⟨rfl,rfl⟩
 have :decide ((s.size:Int)>64)=false:=EW
 rw[this,Dp q];exact⟨rfl,rfl⟩
def oO (s:BD):AZ:=decide ((s.size:Int)>=1)&&((s.size:Int)<=32)&& !(CU s).any Pg
def afj {s:BD} (hs:s.size<=9223372036854775807):aFf s=some (oO s):=by
 unfold aFf aOa;rw[Hz (CU s) Z5 Pg false (some (decide ((s.size:Int)>=1)&&((s.size:Int)<=32))) (fun k i h=>?_) (fun k=>?_)]
 ·unfold oO;cases(CU s).any Pg<;>cases decide ((s.size:Int)>=1)<;>cases decide ((s.size:Int)<=32)<;>rfl
 ·have h':i<s.size:=X0
  simp only[aJm,dec_lt h',Bz,VR h,Ad,Pg];cases decide ((CU s)[i]<33)<;>cases decide ((CU s)[i]>126)<;>rfl
 simp only[aJm,Ij,Dy,BX];cases decide ((s.size:Int)>=1)<;>cases decide ((s.size:Int)<=32)<;>rfl
def VP (k:Int) (s:BD):AZ:=if k=2 then Qs s==0 else if k=9 then oO s else true
def aPX {k:Int} {s:BD} (hs:s.size<=9223372036854775807):aCO k s=some (VP k s):=by
 have u:aMa s 0=some (bif (CU s).any Pg then false else true):=by
  unfold aMa;rw[Hz (CU s) Z5 Pg false (some true) (fun k i h=>?_) (fun k=>?_),KO]
  ·have h':i<s.size:=X0
   simp only[aMw,dec_lt h',Bz,VR h,Ad,Pg];cases decide ((CU s)[i]<33)<;>cases decide ((CU s)[i]>126)<;>rfl
  simp only[aMw,Ij,Dy,BX]
 unfold aCO VP;rw[(ZO hs).2,u];by_cases j:k=2
 ·subst j;rfl
 rw[show(k==2)=false from by simpa using j,Dp j,BX];by_cases q:k=9
 ·subst q;unfold oO;have z:decide ((s.size:Int)>=1)= !decide ((s.size:Int)<1):=aO4
  have I:decide ((s.size:Int)<=32)= !decide ((s.size:Int)>32):=aHc
  rw[z,I];cases decide ((s.size:Int)<1)<;>cases decide ((s.size:Int)>32)<;>cases(CU s).any Pg<;>rfl
 rw[show(k != 9)=true from by simpa using q,Dp q];rfl
def ag4 {e:AV} (j:WS e):aCc e=some (VZ e.Room==0&&Qs e.bF==0&&VP e.Kind e.Key):=by
 have u:=j.room;have z:=j.sender;have I:=j.key;unfold aCc VP;rw[(yH AB).1,(ZO (s:=e.bF) AB).1,(ZO (s:=e.Key) AB).1,afj AB];simp only[Ad,bne];cases VZ e.Room==0 with
 |false=>rfl
 |true=>
  cases Qs e.bF==0 with
  |false=>rfl
  |true=>
   by_cases k2:e.Kind=2
   ·rw[k2];rfl
   by_cases q:e.Kind=9
   ·rw[q];rfl
   rw[show(e.Kind==2)=false from by simpa using k2,show(e.Kind==9)=false from by simpa using q,Dp k2,Dp q];rfl
def EG {R:Type} (x y:AL R):Prop:=∃r,x=some r/\y=some r
section
variable {A R:Type}
def EG.ret (r:R):EG (some r) (some r):=⟨r,rfl,rfl⟩
def EG.bind {a b:AL A} {f g:A->AL R} (h:EG a b) (k:∀x,EG (f x) (g x)):EG (a.bind f) (b.bind g):=by
 obtain⟨x,rfl,rfl⟩:=h;exact k x
def EG.bif {c:AZ} {x y j q:AL R} (u:c=true->EG x j) (z:c=false->EG y q):EG (bif c then x else y) (bif c then j else q):=by
 cases c with
 |true=>exact u rfl
 |false=>exact z rfl
def IQ:=@EG.bif
def EG.loop {f g:(Int->AL R)->Int->AL R} (n:Nat) (u:n<=9223372036854775807) (hs:∀k k' (i:Nat),i<n->EG (k ((i+1:Nat):Int)) (k' ((i+1:Nat):Int))->EG (f k (i:Int)) (g k' (i:Int))) (j:∀k k',EG (f k (n:Int)) (g k' (n:Int))):EG (bJ f Ap 0) (bJ g Ap 0):=by
 have z:Ap=9223372036854775808:=rfl
 have key:∀m (i:Nat),i+m=n->∀a,m<a->EG (bJ f a (i:Int)) (bJ g a (i:Int)):=by
  intro m
  induction m with
  |zero=>
   intro i hi a ha;obtain⟨a,rfl⟩:∃a',a=a'+1:=⟨a-1,AB⟩
   have :i=n:=AB
   subst this;exact j _ _
  |succ m q=>
   intro i hi a ha;obtain⟨a,rfl⟩:∃a',a=a'+1:=⟨a-1,AB⟩
   exact hs _ _ i AB (q (i+1) AB a AB)
 exact key n 0 AB Ap AB
end
def sS {i:Nat} (h:i<=9223372036854775806):Aw ((i:Int)+1)=((i+1:Nat):Int):=wrap_succ i AB
def wz {α:Type} {l:A8 α} {i:Nat} (h:i<l.length) (hl:l.length<=9223372036854775807) (j:decide ((i:Int)>0)=true):Ak l (Aw ((i:Int)-1))=some (l[i-1]' AB):=by
 have j:0<i:=WV
 rw[O8 AB AB,show(i:Int)-1=((i-1:Nat):Int) by omega];exact Cx AB
def aS3 {l:A8 Int} (hl:l.length<=9223372036854775807):EG (wB l) (eS l):=by
 unfold wB aQ5 eS aKa;refine EG.loop l.length hl (fun k k' i h j=>?_) (fun k k'=>?_)
 ·simp only[aLL,aE0,dM,dec_lt h,Bz,Cx h,Ad,sS (show i<=9223372036854775806 by omega)];cases decide (l[i]<0)with
  |true=>exact .ret _
  |false=>
   simp only[BX];cases q:decide ((i:Int)>0)with
   |true=>
    simp only[Bz,wz h hl q,Ad,ge_iff_le];cases decide (l[i]<=l[i-1])with
    |true=>exact .ret _
    |false=>exact j
   |false=>exact j
 simp only[aLL,aE0,Dy,BX];exact .ret _
def aYT {l:A8 BD} (hl:l.length<=9223372036854775807) (hs:∀s∈l,s.size<=9223372036854775807):EG (WB l) (SV l):=by
 unfold WB SV;refine IQ (fun _=>.ret _) fun _=>?_;unfold aTN aKA;refine EG.loop l.length hl (fun k k' i h j=>?_) (fun k k'=>?_)
 ·obtain⟨q,u⟩:=aGo (s:=l[i]) (by have :=hs _ (Ew h);omega);simp only[aMW,sD,dec_lt h,Bz,Cx h,Ad,q,u,sS (show i<=9223372036854775806 by omega)];exact IQ (fun _=>.ret _) fun _=>j
 simp only[aMW,sD,Dy,BX];exact .ret _
def alN {c:D6} (j:LC c):EG (XG 4 c) (eM c):=by
 have hl:=j.allow;unfold XG eM;rw[show((4:Int)==6)=false from rfl,BX];refine EG.bind (IQ (fun _=>.ret _) fun _=>.ret _) fun x=>IQ (fun _=>.ret _) fun _=>IQ (fun _=>.ret _) fun _=>?_;unfold aSW aXc;refine EG.loop c.Allow.length AB (fun k k' i h q=>?_) (fun k k'=>?_)
 ·obtain⟨u,z⟩:=yH (s:=c.Allow[i]) (by have :=j.allows _ (Ew h);omega);simp only[aIy,aDi,xE,dec_lt h,Bz,Cx h,Ad,u,z,sS (show i<=9223372036854775806 by omega)];refine IQ (fun _=>.ret _) fun _=>?_;cases I:decide ((i:Int)>0)with
  |true=>
   simp only[Bz,wz h (show c.Allow.length<=9223372036854775807 by omega) I,Ad];exact IQ (fun _=>.ret _) fun _=>q
  |false=>exact q
 simp only[aIy,aDi,Dy,BX];exact .ret _
def aeJ {l:A8 IJ} (hl:l.length<=9223372036854775807) (hs:∀u∈l,u.User.size<=9223372036854775807):EG (a0e l) (Z7 l):=by
 unfold a0e Z7;refine IQ (fun _=>.ret _) fun _=>?_;unfold aYN aMp;refine EG.loop l.length hl (fun k k' i h j=>?_) (fun k k'=>?_)
 ·obtain⟨q,z⟩:=ZO (s:=l[i].User) (by have :=hs _ (Ew h);omega);obtain⟨I,J⟩:=a0y l[i].N;simp only[aKm,zs,aCb,jI,dec_lt h,Bz,Cx h,Ad,q,z,I,J,sS (show i<=9223372036854775806 by omega)];refine IQ (fun _=>.ret _) fun _=>?_;cases L:decide ((i:Int)>0)with
  |true=>
   simp only[Bz,wz h hl L,Ad];exact IQ (fun _=>.ret _) fun _=>IQ (fun _=>.ret _) fun _=>j
  |false=>
   simp only[BX];exact IQ (fun _=>.ret _) fun _=>j
 simp only[aKm,zs,Dy,BX];exact .ret _
def abr {l:A8 Jc} (hl:l.length<=9223372036854775807):EG (aFA l) (YH l):=by
 unfold aFA YH;refine IQ (fun _=>.ret _) fun _=>?_;unfold aY6 aM2;refine EG.loop l.length hl (fun k k' i h j=>?_) (fun k k'=>?_)
 ·obtain⟨q,u⟩:=aEc l[i].Kind;obtain⟨z,I⟩:=a0y l[i].N;simp only[aJu,aCP,a00,aDR,dec_lt h,Bz,Cx h,Ad,q,u,z,I,sS (show i<=9223372036854775806 by omega)];refine IQ (fun _=>.ret _) fun _=>?_;cases J:decide ((i:Int)>0)with
  |true=>
   simp only[Bz,wz h hl J,Ad];exact IQ (fun _=>.ret _) fun _=>IQ (fun _=>.ret _) fun _=>j
  |false=>
   simp only[BX];exact IQ (fun _=>.ret _) fun _=>j
 simp only[aJu,aCP,Dy,BX];exact .ret _
def agQ {l:Cc} (I:l.Users.length<=9223372036854775807) (J:l.Kinds.length<=9223372036854775807) (j:∀u∈l.Users,u.User.size<=9223372036854775807):EG (aB l) (Yk l):=by
 have q:aGE l 0=some (bif (Ju l).any TG then 2 else 0):=by
  unfold aGE;rw[Hz (Ju l) (by have :Ap=9223372036854775808:=rfl;simp[Ju,this]) TG 2 (some 0) (fun k i h=>?_) (fun k=>rfl),KO];have L:i<7:=h;have z:Ak ([l.User,l.Message,l.State,l.gy,l.jL,l.lV,l.gW]:A8 Int) (i:Int)=some ((Ju l)[i]'(h)):=Cx h;simp only[aOw,show decide ((i:Int)<7)=true from by simp;omega,Bz,z,Ad,(a0y _).1]
 unfold aB Yk;refine EG.bind (aeJ AB j) fun x=>IQ (fun _=>.ret _) fun _=>EG.bind (abr AB) fun y=>IQ (fun _=>.ret _) fun _=>?_;rw[q];simp only[(a0y _).2,Ad,Ju,Zm,List.any_nil];cases TG l.User<;>cases TG l.Message<;>cases TG l.State<;>cases TG l.gy<;>cases TG l.jL<;>cases TG l.lV<;>cases TG l.gW<;>exact .ret _
def UE {α:Type} {l:A8 α} (h:((l.length:Int)==0)=true):l=[]:=Hg aNP
def O6 (l:Cc):AZ:=((l.Users.length:Int)==0)&&((l.Kinds.length:Int)==0)&&(l.User==0)&&(l.Message==0)&&(l.State==0)&&(l.gy==0)&&(l.jL==0)&&(l.lV==0)&&(l.gW==0)
def bare_eq (l:Cc):a1H l=some (O6 l):=by
 unfold a1H O6;simp only[KO,Ad,Tv]
def aUh (l:Cc):Vx l Js=some (O6 l):=by
 unfold Vx O6;show(bif ((l.Users.length:Int) != 0)then some true else some ((l.Kinds.length:Int) != 0)).bind _=_;simp only[bne];cases u:((l.Users.length:Int)==0)with
 |false=>rfl
 |true=>
  cases z:((l.Kinds.length:Int)==0)with
  |false=>rfl
  |true=>
   have j:=UE u;have q:=UE z
   have I:ZG l Js 0=some ((l.User==0)&&(l.Message==0)&&(l.State==0)&&(l.gy==0)&&(l.jL==0)&&(l.lV==0)&&(l.gW==0)):=by
    unfold ZG;refine aJy l.Kinds (by rw[q];simp) _ (fun k i h=>by rw[q]at h;simp at h) (fun k=>?_);simp only[nH,Dy,BX,KO,Ad,Tv];rfl
   have J:yF l Js 0=some ((l.User==0)&&(l.Message==0)&&(l.State==0)&&(l.gy==0)&&(l.jL==0)&&(l.lV==0)&&(l.gW==0)):=by
    unfold yF;refine aJy l.Users (by rw[j];simp) _ (fun k i h=>by rw[j]at h;simp at h) (fun k=>?_);simp only[mO,Dy,BX];exact I
   simp only[FB,BX,Ad,J,Gw]
def abE (l:Cc):aFc l=some (O6 l):=by
 unfold aFc;rw[aUh];rfl
def agD (l:A8 BD):TT l []=some ((l.length:Int)==0):=by
 cases h:((l.length:Int)==0)with
 |true=>rw[UE h];exact aYo (l:=[]) Bh
 |false=>
  unfold TT;show(bif ((l.length:Int) != 0)then some false else _)=_;simp only[bne,h,JC,Bz]
def iQ (a0 j q u z I J L:AZ):AZ:=a0&&j&&q&&u&&z&&I&&J&&L
def aUe (c:D6):Tz c ET=some (iQ (c.Text.toList==CS.toList) (c.N==0) (c.Target==0) (!c.Thread) (c.Via.toList==CS.toList) ((c.Allow.length:Int)==0) ((c.gJ.length:Int)==0) (O6 c.Levels)):=by
 unfold Tz iQ;show(bif c.Text.toList==CS.toList then some (c.N==0)else some false).bind _=_;simp only[show ET.Allow=[]from rfl,show ET.gJ=[]from rfl,show ET.Levels=Js from rfl,show ET.Target=0 from rfl,show ET.Thread=false from rfl,show ET.Via=CS from rfl,agD,aUh,KO,Ad,Tv];congr 1;cases c.Thread<;>simp
def aAx (a0 j q u z I J L:AZ):Int:=
 let v:=bif !a0 then Eu .or .i64 0 1 else 0
 let v:=bif !j then Eu .or .i64 v 2 else v
 let v:=bif !q then Eu .or .i64 v 4 else v
 let v:=bif !u then Eu .or .i64 v 8 else v
 let v:=bif !z then Eu .or .i64 v 16 else v
 let v:=bif !I then Eu .or .i64 v 32 else v
 let v:=bif !J then Eu .or .i64 v 64 else v
 bif !L then Eu .or .i64 v 128 else v
def pos_eq {α:Type} (l:A8 α):decide ((l.length:Int)>0)= !((l.length:Int)==0):=by
 cases h:((l.length:Int)==0)with
 |true=>have :=eq_of_beq h;rw[FB,Qv];omega
 |false=>have :=ne_of_beq_false h;rw[JC,I8];omega
def aga (c:D6):rG c=some (aAx (c.Text.toList==CS.toList) (c.N==0) (c.Target==0) (!c.Thread) (c.Via.toList==CS.toList) ((c.Allow.length:Int)==0) ((c.gJ.length:Int)==0) (O6 c.Levels)):=by
 unfold rG a0r aDH Opn aCp aDm aEC aAk aCX aAx;rw[bare_eq,pos_eq,pos_eq];simp only[Ad,bne,rU];generalize(c.Text.toList==CS.toList)=j;generalize(c.N==0)=q;generalize(c.Target==0)=u;generalize c.Thread=z;generalize(c.Via.toList==CS.toList)=I;generalize((c.Allow.length:Int)==0)=J;generalize((c.gJ.length:Int)==0)=L;generalize O6 c.Levels=M;cases j<;>cases q<;>cases u<;>cases z<;>cases I<;>cases J<;>cases L<;>cases M<;>rfl
def ajU :∀a0 j q u z I J L:AZ,(aAx a0 j q u z I J L==0)=iQ a0 j q u z I J L:=Ov
def MH (j q u z I J L M a0 O U Y Z a5 a6 a7:AZ):AZ:=(a0||j)&&(O||q)&&(U||u)&&(Y||z)&&(Z||I)&&(a5||J)&&(a6||L)&&(a7||M)
def aWd {K:Int} {c:D6} {j q u z I J L M:AZ} (O:Ch K J7=some j) (U:Ch K JV=some q) (Y:Ch K JH=some u) (Z:Ch K MN=some z) (h4:Ch K Lr=some I) (h5:Ch K Kw=some J) (h6:Ch K Ls=some L) (h7:Ch K Ln=some M):Zz K c=some (MH j q u z I J L M (c.Text.toList==CS.toList) (c.N==0) (c.Target==0) (!c.Thread) (c.Via.toList==CS.toList) ((c.Allow.length:Int)==0) ((c.gJ.length:Int)==0) (O6 c.Levels)):=by
 unfold Zz MH;simp only[O,U,Y,Z,h4,h5,h6,h7,abE,KO,Ad,dW,Tv]
def Hw (x r:AL Int):AL Int:=x.bind fun v=>bif v != 0 then some v else r
def Eh {x r:AL Int} (h:x=some 0):Hw x r=r:=by rw[h];rfl
def Nc {x y r s:AL Int} (h:EG x y) (k:EG r s):EG (Hw x r) (Hw y s):=EG.bind h fun _=>IQ (fun _=>.ret _) fun _=>k
def a0Y (x:AL Int):Hw x (some 0)=x:=by
 cases x with
 |none=>rfl
 |some v=>
  show(bif v != 0 then some v else some 0)=some v;by_cases h:v=0
  ·subst h;rfl
  rw[show(v != 0)=true from by simpa using h];rfl
def aAM {A:Type} (x:AL A):(x.bind fun v=>some v)=x:=by cases x<;>rfl
def Ns (K:Int) (c:D6):AL Int:=Hw (YG K c) (Hw (Nv K c.N) (Hw (XK K c) (Hw (YI c) (bif K==4 then eM c else Hw (SV c.Allow) (Hw (SV c.gJ) (Yk c.Levels))))))
def frame {K M kp:Int} {br:AZ} {c:D6} {q u z I J L O U:AZ} (hU:mG K=some M) (hk:(decide (K>=1)&&(K<=14))=true) (Y:jo K=some kp) (hb:aEQ K=some br) (h0:Ch K J7=some q) (h1:Ch K JV=some u) (h2:Ch K JH=some z) (h3:Ch K MN=some I) (h4:Ch K Lr=some J) (h5:Ch K Kw=some L) (h6:Ch K Ls=some O) (h7:Ch K Ln=some U)
 (hM:∀a0 a1 a2 a3 a4 a5 a6 a7:AZ,(Eu .andNot .i64 (aAx a0 a1 a2 a3 a4 a5 a6 a7) M != 0)= !MH q u z I J L O U a0 a1 a2 a3 a4 a5 a6 a7) (Z:(br=true->kp=0)) (hA:kp=0->br=false->NH M K 0 c=some 0)
 (j:MH q u z I J L O U (c.Text.toList==CS.toList) (c.N==0) (c.Target==0) (!c.Thread) (c.Via.toList==CS.toList) ((c.Allow.length:Int)==0) ((c.gJ.length:Int)==0) (O6 c.Levels)=true->EG (NH M K 0 c) (Ns K c)):EG (MS K c) (Je K c):=by
 have ht:Je K c=(nY K).bind fun x1=>(bif (!x1)then some true else(Zz K c).bind fun x4=>some (!x4)).bind fun x2=>(bif x2 then some 1 else(aEQ K).bind fun x6=>(bif x6 then(Tz c ET).bind fun x9=>some x9 else some false).bind fun x7=>(bif x7 then some 0 else Ns K c)):=by
  unfold Je Ns Hw;simp only[aAM]
 rw[ht];unfold MS;obtain⟨k1,k2⟩:=aEc K;rw[hk]at k1 k2;rw[hU,k1,k2,aga,Y,hb,aWd h0 h1 h2 h3 h4 h5 h6 h7,aUe];simp only[Ad,FB,BX,hM,ajU];cases ho:MH q u z I J L O U (c.Text.toList==CS.toList) (c.N==0) (c.Target==0) (!c.Thread) (c.Via.toList==CS.toList) ((c.Allow.length:Int)==0) ((c.gJ.length:Int)==0) (O6 c.Levels)with
 |false=>exact .ret _
 |true=>
  simp only[FB,BX];have j:=j ho;cases ha:iQ (c.Text.toList==CS.toList) (c.N==0) (c.Target==0) (!c.Thread) (c.Via.toList==CS.toList) ((c.Allow.length:Int)==0) ((c.gJ.length:Int)==0) (O6 c.Levels)with
  |false=>
   simp only[BX,Ad];cases br<;>exact j
  |true=>
   simp only[Bz,Ad];cases hz:kp==0 with
   |false=>
    cases br with
    |false=>exact j
    |true=>rw[Z rfl]at hz;cases hz
   |true=>
    cases br with
    |true=>exact .ret _
    |false=>
     have e:=hA (eq_of_beq hz) rfl;rw[e]at j;exact j
def SB (M b:Int) (x r:AL Int):AL Int:=bif Eu .and .i64 M b==0 then r else Hw x r
def dw {S B R:Type} (body:(S->B->AL R)->S->B->AL R) (n:Nat) (a:S) (b:B):aU body (n+1) a b=body (aU body n) a b:=rfl
def afE (M K:Int) (c:D6):NH M K 0 c=SB M 1 (RJ K c) (SB M 2 (OX K c) (SB M 4 (SQ K c) (SB M 8 (eU K c) (SB M 16 (eX K c) (SB M 32 (XG K c)
 (bif Eu .and .i64 M 64 != 0 then WB c.gJ else bif Eu .and .i64 M 128 != 0 then aB c.Levels else some 0)))))):=by
 have j:Ap=9223372036854775801+1+1+1+1+1+1+1:=rfl;have q:∀k,Xq M K k 0 c=SB M 1 (RJ K c) (k 1 c):=fun k=>rfl;have u:∀k,Xq M K k 1 c=SB M 2 (OX K c) (k 2 c):=fun k=>rfl;have z:∀k,Xq M K k 2 c=SB M 4 (SQ K c) (k 3 c):=fun k=>rfl;have I:∀k,Xq M K k 3 c=SB M 8 (eU K c) (k 4 c):=fun k=>rfl;have J:∀k,Xq M K k 4 c=SB M 16 (eX K c) (k 5 c):=fun k=>rfl;have L:∀k,Xq M K k 5 c=SB M 32 (XG K c) (k 6 c):=fun k=>rfl;have O:∀k,Xq M K k 6 c=(bif Eu .and .i64 M 64 != 0 then(WB c.gJ).bind fun x=>some x else bif Eu .and .i64 M 128 != 0 then(aB c.Levels).bind fun x=>some x else some 0):=fun k=>rfl;unfold NH;rw[j,dw,q,dw,u,dw,z,dw,I,dw,J,dw,L,dw,O,aAM,aAM]
section
variable {c:D6} {K:Int}
def text0 (h:(c.Text.toList==CS.toList)=true) (j:K≠12):YG K c=some 0:=by
 have q:(c.Text.size:Int)=0:=by rw[aA2]at h;exact eq_of_beq h
 unfold YG;rw[h,q,show(K==12)=false from by simpa using j];cases K==9<;>rfl
def Uy (h:Ch K JH=some false) (j:(!c.Thread)=true):XK K c=some 0:=by
 unfold XK;rw[h,show c.Thread=false from by simpa using j];rfl
def Qu (h:(c.Via.toList==CS.toList)=true):YI c=some 0:=by unfold YI;rw[h];rfl
def KH {l:A8 BD} (h:((l.length:Int)==0)=true):SV l=some 0:=by
 rw[UE h];unfold SV aKA;show bJ (sD []) Ap 0=some 0;rw[Hz ([]:A8 BD) Bj (fun _=>false) 0 (some 0) (fun k i h=>Ip) (fun k=>rfl)];rfl
def Rx {l:Cc} (h:O6 l=true):Yk l=some 0:=by
 unfold O6 at h;simp only[Du]at h;obtain⟨⟨⟨⟨⟨⟨⟨⟨j,q⟩,u⟩,z⟩,I⟩,J⟩,L⟩,M⟩,O⟩:=h
 have U:Z7 []=some 0:=by
  unfold Z7 aMp;show bJ (zs []) Ap 0=some 0;rw[Hz ([]:A8 BD) Bj (fun _=>false) 0 (some 0) (fun k i h=>Ip) (fun k=>rfl)];rfl
 have Y:YH []=some 0:=by
  unfold YH aM2;show bJ (aCP []) Ap 0=some 0;rw[Hz ([]:A8 BD) Bj (fun _=>false) 0 (some 0) (fun k i h=>Ip) (fun k=>rfl)];rfl
 unfold Yk;rw[UE j,UE q,U,Y,eq_of_beq u,eq_of_beq z,eq_of_beq I,eq_of_beq J,eq_of_beq L,eq_of_beq M,eq_of_beq O];rfl
def fM (q:LC c):EG (RJ K c) (YG K c):=by
 have J:=q.text;obtain⟨u,z⟩:=aGo (s:=c.Text) AB;unfold RJ aAO YG;rw[u,z];have e:=aA2 c.Text;by_cases j:K=9
 ·subst j;cases h:(c.Text.toList==CS.toList)with
  |false=>exact .ret _
  |true=>
   have I:(c.Text.size:Int)=0:=by rw[e]at h;exact eq_of_beq h
   rw[I];exact .ret _
 rw[show(K==9)=false from by simpa using j];cases K==12<;>cases(c.Text.toList==CS.toList)<;>cases decide ((c.Text.size:Int)>32)<;>cases decide ((c.Text.size:Int)>400)<;>exact .ret _
def aaR (j:LC c):EG (eX K c) (YI c):=by
 have z:=j.via;obtain⟨q,u⟩:=ZO (s:=c.Via) AB;unfold eX YI;rw[q,u];exact IQ (fun _=>.ret _) fun _=>IQ (fun _=>.ret _) fun _=>.ret _
def aKD (h:Ch K JH=some true) (j:(!c.Thread)=true):EG (SQ K c) (XK K c):=by
 unfold SQ XK;rw[h,show c.Thread=false from by simpa using j];cases decide (c.Target<0)<;>cases c.Target==0<;>cases K != 11<;>exact .ret _
def aZB (h:Ch K JH=some true):EG (Hw (SQ K c) (eU K c)) (XK K c):=by
 unfold SQ eU XK Hw;rw[h];cases decide (c.Target<0)<;>cases c.Target==0<;>cases K != 11<;>cases c.Thread<;>exact .ret _
def an5 (j:LC c):EG (XG 6 c) (SV c.Allow):=by
 have q:=j.allow;have :=aYT (l:=c.Allow) AB j.allows;show EG ((WB c.Allow).bind fun x=>some x) _;rw[aAM];exact this
end
def sO (a b:Int):decide (a>=b)= !decide (a<b):=by by_cases h:a<b<;>simp[h]<;>omega
def oU (a b:Int):decide (a<=b)= !decide (a>b):=by by_cases h:a>b<;>simp[h]<;>omega
def ajX {c:D6} (hc:LC c):EG (MS 1 c) (Je 1 c):=by
 have u:Ch 1 J7=some false:=AA
 have z:Ch 1 JV=some false:=AA
 have q:Ch 1 JH=some false:=AA
 have I:Ch 1 MN=some false:=AA
 have J:Ch 1 Lr=some false:=AA
 have L:Ch 1 Kw=some false:=AA
 have O:Ch 1 Ls=some false:=AA
 have U:Ch 1 Ln=some false:=AA
 refine frame (M:=0) (kp:=0) (br:=false) rfl rfl rfl rfl u z q I J L O U Ov (fun h=>Ib) (fun h h'=>rfl) fun j=>?_;unfold MH at j;simp only[PL,ML,Nq,Gw,Du]at j;obtain⟨⟨⟨⟨⟨⟨⟨Y,e1⟩,e2⟩,Z⟩,e4⟩,e5⟩,e6⟩,e7⟩:=j;have hL:NH 0 1 0 c=(some 0):=QE
 rw[hL];unfold Ns;rw[Eh (text0 Y Bj),Eh (show Nv 1 c.N=some 0 from rfl),Eh (Uy q Z),Eh (Qu e4),show((1:Int)==4)=false from rfl,BX,Eh (KH e5),Eh (KH e6),Rx e7];exact .ret _
def ai1 (c:D6):EG (OX 2 c) (Nv 2 c.N):=by
 show EG ((bif c.N<0 then some true else some (decide (c.N>4))).bind fun j=>(bif j then some 2 else some 0)) ((bif c.N>=0 then some (decide (c.N<=4))else some false).bind fun q=>(bif (!q)then some 2 else some 0));rw[sO,oU];cases decide (c.N<0)<;>cases decide (c.N>4)<;>exact .ret _
def adh {c:D6} (q:LC c):EG (MS 2 c) (Je 2 c):=by
 have z:Ch 2 J7=some true:=AA
 have I:Ch 2 JV=some true:=AA
 have u:Ch 2 JH=some false:=AA
 have J:Ch 2 MN=some false:=AA
 have L:Ch 2 Lr=some true:=AA
 have O:Ch 2 Kw=some false:=AA
 have U:Ch 2 Ls=some false:=AA
 have Y:Ch 2 Ln=some false:=AA
 refine frame (M:=19) (kp:=18) (br:=false) rfl rfl rfl rfl z I u J L O U Y Ov (fun h=>Ib) (fun h h'=>Ib) fun j=>?_;unfold MH at j;simp only[PL,ML,Nq,Gw,Du]at j;obtain⟨⟨⟨⟨e2,Z⟩,e5⟩,e6⟩,e7⟩:=j;have hL:NH 19 2 0 c=(Hw (RJ 2 c) (Hw (OX 2 c) (Hw (eX 2 c) (some 0)))):=QE
 rw[hL];unfold Ns;rw[Eh (Uy u Z),show((2:Int)==4)=false from rfl,BX,Eh (KH e5),Eh (KH e6),Rx e7];exact Nc (fM q) (Nc (ai1 c) (Nc (aaR q) (.ret _)))
def afl {c:D6} (j:LC c):EG (MS 3 c) (Je 3 c):=by
 have z:Ch 3 J7=some false:=AA
 have I:Ch 3 JV=some false:=AA
 have u:Ch 3 JH=some false:=AA
 have J:Ch 3 MN=some false:=AA
 have L:Ch 3 Lr=some false:=AA
 have O:Ch 3 Kw=some false:=AA
 have U:Ch 3 Ls=some false:=AA
 have Y:Ch 3 Ln=some true:=AA
 refine frame (M:=128) (kp:=128) (br:=false) rfl rfl rfl rfl z I u J L O U Y Ov (fun h=>Ib) (fun h h'=>Ib) fun q=>?_;unfold MH at q;simp only[PL,ML,Nq,Gw,Du]at q;obtain⟨⟨⟨⟨⟨⟨Z,e1⟩,e2⟩,e3⟩,e4⟩,e5⟩,e6⟩:=q;have hL:NH 128 3 0 c=(aB c.Levels):=QE
 rw[hL];unfold Ns;rw[Eh (text0 Z Bj),Eh (show Nv 3 c.N=some 0 from rfl),Eh (Uy u e3),Eh (Qu e4),show((3:Int)==4)=false from rfl,BX,Eh (KH e5),Eh (KH e6)];exact agQ j.users j.kinds j.names
def afP (c:D6):EG (OX 4 c) (Nv 4 c.N):=by
 show EG ((bif c.N<0 then some true else some (decide (c.N>3))).bind fun j=>(bif j then some 2 else some 0)) ((bif c.N>=0 then some (decide (c.N<=3))else some false).bind fun q=>(bif (!q)then some 2 else some 0));rw[sO,oU];cases decide (c.N<0)<;>cases decide (c.N>3)<;>exact .ret _
def adf {c:D6} (u:LC c):EG (MS 4 c) (Je 4 c):=by
 have z:Ch 4 J7=some false:=AA
 have I:Ch 4 JV=some true:=AA
 have q:Ch 4 JH=some false:=AA
 have J:Ch 4 MN=some false:=AA
 have L:Ch 4 Lr=some false:=AA
 have O:Ch 4 Kw=some true:=AA
 have U:Ch 4 Ls=some false:=AA
 have Y:Ch 4 Ln=some false:=AA
 refine frame (M:=34) (kp:=34) (br:=false) rfl rfl rfl rfl z I q J L O U Y Ov (fun h=>Ib) (fun h h'=>Ib) fun j=>?_;unfold MH at j;simp only[PL,ML,Nq,Gw,Du]at j;obtain⟨⟨⟨⟨⟨Z,e2⟩,e3⟩,e4⟩,e6⟩,e7⟩:=j;have hL:NH 34 4 0 c=(Hw (OX 4 c) (Hw (XG 4 c) (some 0))):=QE
 rw[hL];unfold Ns;rw[Eh (text0 Z Bj),Eh (Uy q e3),Eh (Qu e4),show((4:Int)==4)=true from rfl,Bz];rw[a0Y];exact Nc (afP c) (alN u)
def aZg (c:D6):EG (OX 5 c) (Nv 5 c.N):=by
 show EG ((bif c.N<0 then some true else some (decide (c.N>3))).bind fun j=>(bif j then some 2 else some 0)) ((bif c.N>=0 then some (decide (c.N<=3))else some false).bind fun q=>(bif (!q)then some 2 else some 0));rw[sO,oU];cases decide (c.N<0)<;>cases decide (c.N>3)<;>exact .ret _
def aa5 {c:D6} (hc:LC c):EG (MS 5 c) (Je 5 c):=by
 have u:Ch 5 J7=some false:=AA
 have z:Ch 5 JV=some true:=AA
 have q:Ch 5 JH=some false:=AA
 have I:Ch 5 MN=some false:=AA
 have J:Ch 5 Lr=some false:=AA
 have L:Ch 5 Kw=some false:=AA
 have O:Ch 5 Ls=some false:=AA
 have U:Ch 5 Ln=some false:=AA
 refine frame (M:=2) (kp:=2) (br:=false) rfl rfl rfl rfl u z q I J L O U Ov (fun h=>Ib) (fun h h'=>Ib) fun j=>?_;unfold MH at j;simp only[PL,ML,Nq,Gw,Du]at j;obtain⟨⟨⟨⟨⟨⟨Y,e2⟩,Z⟩,e4⟩,e5⟩,e6⟩,e7⟩:=j;have hL:NH 2 5 0 c=(Hw (OX 5 c) (some 0)):=QE
 rw[hL];unfold Ns;rw[Eh (text0 Y Bj),Eh (Uy q Z),Eh (Qu e4),show((5:Int)==4)=false from rfl,BX,Eh (KH e5),Eh (KH e6),Rx e7];exact Nc (aZg c) (.ret _)
def afK {c:D6} (j:LC c):EG (MS 6 c) (Je 6 c):=by
 have I:Ch 6 J7=some false:=AA
 have u:Ch 6 JV=some false:=AA
 have z:Ch 6 JH=some false:=AA
 have J:Ch 6 MN=some false:=AA
 have L:Ch 6 Lr=some false:=AA
 have O:Ch 6 Kw=some true:=AA
 have U:Ch 6 Ls=some true:=AA
 have Y:Ch 6 Ln=some false:=AA
 refine frame (M:=96) (kp:=96) (br:=false) rfl rfl rfl rfl I u z J L O U Y Ov (fun h=>Ib) (fun h h'=>Ib) fun q=>?_;unfold MH at q;simp only[PL,ML,Nq,Gw,Du]at q;obtain⟨⟨⟨⟨⟨Z,e1⟩,e2⟩,e3⟩,e4⟩,e7⟩:=q;have hL:NH 96 6 0 c=(Hw (XG 6 c) (WB c.gJ)):=QE
 rw[hL];unfold Ns;rw[Eh (text0 Z Bj),Eh (show Nv 6 c.N=some 0 from rfl),Eh (Uy z e3),Eh (Qu e4),show((6:Int)==4)=false from rfl,BX,Rx e7];have u:=j.deny;rw[a0Y];exact Nc (an5 j) (aYT AB j.denies)
def akr {c:D6} (u:LC c):EG (MS 7 c) (Je 7 c):=by
 have z:Ch 7 J7=some true:=AA
 have I:Ch 7 JV=some false:=AA
 have q:Ch 7 JH=some false:=AA
 have J:Ch 7 MN=some false:=AA
 have L:Ch 7 Lr=some false:=AA
 have O:Ch 7 Kw=some false:=AA
 have U:Ch 7 Ls=some false:=AA
 have Y:Ch 7 Ln=some false:=AA
 refine frame (M:=1) (kp:=0) (br:=true) rfl rfl rfl rfl z I q J L O U Y Ov (fun h=>rfl) (fun h h'=>Zf) fun j=>?_;unfold MH at j;simp only[PL,ML,Nq,Gw,Du]at j;obtain⟨⟨⟨⟨⟨⟨e1,e2⟩,Z⟩,e4⟩,e5⟩,e6⟩,e7⟩:=j;have hL:NH 1 7 0 c=(Hw (RJ 7 c) (some 0)):=QE
 rw[hL];unfold Ns;rw[Eh (show Nv 7 c.N=some 0 from rfl),Eh (Uy q Z),Eh (Qu e4),show((7:Int)==4)=false from rfl,BX,Eh (KH e5),Eh (KH e6),Rx e7];exact Nc (fM u) (.ret _)
def aYd (c:D6):EG (OX 8 c) (Nv 8 c.N):=by
 show EG ((bif c.N<0 then some true else some (decide (c.N>1000000000))).bind fun j=>(bif j then some 2 else some 0)) ((bif c.N>=0 then some (decide (c.N<=1000000000))else some false).bind fun q=>(bif (!q)then some 2 else some 0));rw[sO,oU];cases decide (c.N<0)<;>cases decide (c.N>1000000000)<;>exact .ret _
def agL {c:D6} (hc:LC c):EG (MS 8 c) (Je 8 c):=by
 have u:Ch 8 J7=some false:=AA
 have z:Ch 8 JV=some true:=AA
 have q:Ch 8 JH=some false:=AA
 have I:Ch 8 MN=some false:=AA
 have J:Ch 8 Lr=some false:=AA
 have L:Ch 8 Kw=some false:=AA
 have O:Ch 8 Ls=some false:=AA
 have U:Ch 8 Ln=some false:=AA
 refine frame (M:=2) (kp:=0) (br:=true) rfl rfl rfl rfl u z q I J L O U Ov (fun h=>rfl) (fun h h'=>Zf) fun j=>?_;unfold MH at j;simp only[PL,ML,Nq,Gw,Du]at j;obtain⟨⟨⟨⟨⟨⟨Y,e2⟩,Z⟩,e4⟩,e5⟩,e6⟩,e7⟩:=j;have hL:NH 2 8 0 c=(Hw (OX 8 c) (some 0)):=QE
 rw[hL];unfold Ns;rw[Eh (text0 Y Bj),Eh (Uy q Z),Eh (Qu e4),show((8:Int)==4)=false from rfl,BX,Eh (KH e5),Eh (KH e6),Rx e7];exact Nc (aYd c) (.ret _)
def ah5 (c:D6):EG (OX 9 c) (Nv 9 c.N):=by
 show EG ((bif (c.N==1)then some true else some (c.N==2)).bind fun j=>(bif j then some true else some (c.N==6)).bind fun q=>(bif q then some 0 else some 2)) ((bif (c.N==1)then some true else some (c.N==2)).bind fun u=>(bif u then some true else some (c.N==6)).bind fun z=>(bif (!z)then some 2 else some 0));cases c.N==1<;>cases c.N==2<;>cases c.N==6<;>exact .ret _
def aZa {c:D6} (u:LC c):EG (MS 9 c) (Je 9 c):=by
 have z:Ch 9 J7=some true:=AA
 have I:Ch 9 JV=some true:=AA
 have q:Ch 9 JH=some false:=AA
 have J:Ch 9 MN=some false:=AA
 have L:Ch 9 Lr=some false:=AA
 have O:Ch 9 Kw=some false:=AA
 have U:Ch 9 Ls=some false:=AA
 have Y:Ch 9 Ln=some false:=AA
 refine frame (M:=3) (kp:=0) (br:=true) rfl rfl rfl rfl z I q J L O U Y Ov (fun h=>rfl) (fun h h'=>Zf) fun j=>?_;unfold MH at j;simp only[PL,ML,Nq,Gw,Du]at j;obtain⟨⟨⟨⟨⟨e2,Z⟩,e4⟩,e5⟩,e6⟩,e7⟩:=j;have hL:NH 3 9 0 c=(Hw (RJ 9 c) (Hw (OX 9 c) (some 0))):=QE
 rw[hL];unfold Ns;rw[Eh (Uy q Z),Eh (Qu e4),show((9:Int)==4)=false from rfl,BX,Eh (KH e5),Eh (KH e6),Rx e7];exact Nc (fM u) (Nc (ah5 c) (.ret _))
def anD (c:D6):EG (OX 10 c) (Nv 10 c.N):=by
 show EG ((bif c.N<1 then some true else some (decide (c.N>10000))).bind fun j=>(bif j then some 2 else some 0)) ((bif c.N>=1 then some (decide (c.N<=10000))else some false).bind fun q=>(bif (!q)then some 2 else some 0));rw[sO,oU];cases decide (c.N<1)<;>cases decide (c.N>10000)<;>exact .ret _
def aae {c:D6} (hc:LC c):EG (MS 10 c) (Je 10 c):=by
 have u:Ch 10 J7=some false:=AA
 have z:Ch 10 JV=some true:=AA
 have q:Ch 10 JH=some false:=AA
 have I:Ch 10 MN=some false:=AA
 have J:Ch 10 Lr=some false:=AA
 have L:Ch 10 Kw=some false:=AA
 have O:Ch 10 Ls=some false:=AA
 have U:Ch 10 Ln=some false:=AA
 refine frame (M:=2) (kp:=0) (br:=true) rfl rfl rfl rfl u z q I J L O U Ov (fun h=>rfl) (fun h h'=>Zf) fun j=>?_;unfold MH at j;simp only[PL,ML,Nq,Gw,Du]at j;obtain⟨⟨⟨⟨⟨⟨Y,e2⟩,Z⟩,e4⟩,e5⟩,e6⟩,e7⟩:=j;have hL:NH 2 10 0 c=(Hw (OX 10 c) (some 0)):=QE
 rw[hL];unfold Ns;rw[Eh (text0 Y Bj),Eh (Uy q Z),Eh (Qu e4),show((10:Int)==4)=false from rfl,BX,Eh (KH e5),Eh (KH e6),Rx e7];exact Nc (anD c) (.ret _)
def ah3 {c:D6} (u:LC c):EG (MS 11 c) (Je 11 c):=by
 have z:Ch 11 J7=some true:=AA
 have I:Ch 11 JV=some false:=AA
 have q:Ch 11 JH=some true:=AA
 have J:Ch 11 MN=some true:=AA
 have L:Ch 11 Lr=some false:=AA
 have O:Ch 11 Kw=some false:=AA
 have U:Ch 11 Ls=some false:=AA
 have Y:Ch 11 Ln=some false:=AA
 refine frame (M:=13) (kp:=0) (br:=true) rfl rfl rfl rfl z I q J L O U Y Ov (fun h=>rfl) (fun h h'=>Zf) fun j=>?_;unfold MH at j;simp only[PL,ML,Nq,Gw,Du]at j;obtain⟨⟨⟨⟨e1,Z⟩,e5⟩,e6⟩,e7⟩:=j;have hL:NH 13 11 0 c=(Hw (RJ 11 c) (Hw (SQ 11 c) (Hw (eU 11 c) (some 0)))):=QE
 rw[hL];unfold Ns;rw[Eh (show Nv 11 c.N=some 0 from rfl),Eh (Qu Z),show((11:Int)==4)=false from rfl,BX,Eh (KH e5),Eh (KH e6),Rx e7];rw[a0Y,a0Y];exact Nc (fM u) (aZB q)
def ajo {c:D6} (u:LC c):EG (MS 12 c) (Je 12 c):=by
 have z:Ch 12 J7=some true:=AA
 have I:Ch 12 JV=some false:=AA
 have q:Ch 12 JH=some true:=AA
 have J:Ch 12 MN=some false:=AA
 have L:Ch 12 Lr=some false:=AA
 have O:Ch 12 Kw=some false:=AA
 have U:Ch 12 Ls=some false:=AA
 have Y:Ch 12 Ln=some false:=AA
 refine frame (M:=5) (kp:=0) (br:=true) rfl rfl rfl rfl z I q J L O U Y Ov (fun h=>rfl) (fun h h'=>Zf) fun j=>?_;unfold MH at j;simp only[PL,ML,Nq,Gw,Du]at j;obtain⟨⟨⟨⟨⟨e1,Z⟩,e4⟩,e5⟩,e6⟩,e7⟩:=j;have hL:NH 5 12 0 c=(Hw (RJ 12 c) (Hw (SQ 12 c) (some 0))):=QE
 rw[hL];unfold Ns;rw[Eh (show Nv 12 c.N=some 0 from rfl),Eh (Qu e4),show((12:Int)==4)=false from rfl,BX,Eh (KH e5),Eh (KH e6),Rx e7];exact Nc (fM u) (Nc (aKD q Z) (.ret _))
def anU {c:D6} (u:LC c):EG (MS 13 c) (Je 13 c):=by
 have z:Ch 13 J7=some true:=AA
 have I:Ch 13 JV=some false:=AA
 have q:Ch 13 JH=some true:=AA
 have J:Ch 13 MN=some false:=AA
 have L:Ch 13 Lr=some false:=AA
 have O:Ch 13 Kw=some false:=AA
 have U:Ch 13 Ls=some false:=AA
 have Y:Ch 13 Ln=some false:=AA
 refine frame (M:=5) (kp:=0) (br:=true) rfl rfl rfl rfl z I q J L O U Y Ov (fun h=>rfl) (fun h h'=>Zf) fun j=>?_;unfold MH at j;simp only[PL,ML,Nq,Gw,Du]at j;obtain⟨⟨⟨⟨⟨e1,Z⟩,e4⟩,e5⟩,e6⟩,e7⟩:=j;have hL:NH 5 13 0 c=(Hw (RJ 13 c) (Hw (SQ 13 c) (some 0))):=QE
 rw[hL];unfold Ns;rw[Eh (show Nv 13 c.N=some 0 from rfl),Eh (Qu e4),show((13:Int)==4)=false from rfl,BX,Eh (KH e5),Eh (KH e6),Rx e7];exact Nc (fM u) (Nc (aKD q Z) (.ret _))
def abh {c:D6} (u:LC c):EG (MS 14 c) (Je 14 c):=by
 have z:Ch 14 J7=some true:=AA
 have I:Ch 14 JV=some false:=AA
 have q:Ch 14 JH=some true:=AA
 have J:Ch 14 MN=some false:=AA
 have L:Ch 14 Lr=some false:=AA
 have O:Ch 14 Kw=some false:=AA
 have U:Ch 14 Ls=some false:=AA
 have Y:Ch 14 Ln=some false:=AA
 refine frame (M:=5) (kp:=4) (br:=false) rfl rfl rfl rfl z I q J L O U Y Ov (fun h=>Ib) (fun h h'=>Ib) fun j=>?_;unfold MH at j;simp only[PL,ML,Nq,Gw,Du]at j;obtain⟨⟨⟨⟨⟨e1,Z⟩,e4⟩,e5⟩,e6⟩,e7⟩:=j;have hL:NH 5 14 0 c=(Hw (RJ 14 c) (Hw (SQ 14 c) (some 0))):=QE
 rw[hL];unfold Ns;rw[Eh (show Nv 14 c.N=some 0 from rfl),Eh (Qu e4),show((14:Int)==4)=false from rfl,BX,Eh (KH e5),Eh (KH e6),Rx e7];exact Nc (fM u) (Nc (aKD q Z) (.ret _))
def acj (k:Int) {c:D6} (j:LC c):EG (MS k c) (Je k c):=by
 cases q:decide (k>=1)&&decide (k<=14)with
 |false=>
  obtain⟨u,k2⟩:=aEc k;rw[q]at u k2
  have f:∀n:Int,1<=n->n<=14->(k==n)=false:=fun n z I=>by
   rw[SE];rintro rfl;rw[JG (show k>=1 from z),JG I]at q;cases q
  have hm:mG k=some 0:=by
   unfold mG pJ qp;rw[f 2 Bj Bj,f 3 Bj Bj,f 4 Bj Bj,f 5 Bj Bj,f 8 Bj Bj,f 10 Bj Bj,f 6 Bj Bj,f 7 Bj Bj,f 9 Bj Bj,f 11 Bj Bj,f 12 Bj Bj,f 13 Bj Bj,f 14 Bj Bj];rfl
  unfold MS Je;rw[hm,u,k2];exact .ret _
 |true=>
  simp only[Du,I8]at q;have :k=1\/k=2\/k=3\/k=4\/k=5\/k=6\/k=7\/k=8\/k=9\/k=10\/k=11\/k=12\/k=13\/k=14:=AB
  rcases this with rfl|rfl|rfl|rfl|rfl|rfl|rfl|rfl|rfl|rfl|rfl|rfl|rfl|rfl
  ·exact ajX j
  ·exact adh j
  ·exact afl j
  ·exact adf j
  ·exact aa5 j
  ·exact afK j
  ·exact akr j
  ·exact agL j
  ·exact aZa j
  ·exact aae j
  ·exact ah3 j
  ·exact ajo j
  ·exact anU j
  exact abh j
def P5 {α:Type} (p:α->α->AZ) (a b:A8 α):AZ:=((a.length:Int)==(b.length:Int))&& !((a.zip b).any fun x=> !p x.1 x.2)
def lJ {α R:Type} {body:(Int->AL R)->Int->AL R} (p:α->α->AZ) (a b:A8 α) (ha:a.length<=1000) (j:a.length=b.length) (bad:R) (rest:AL R)
 (q:∀k (i:Nat) (h:i<a.length) (h':i<b.length),body k (i:Int)=bif !p a[i] b[i]then some bad else k (Aw ((i:Int)+1))) (u:∀k,body k (a.length:Int)=rest):bJ body Ap 0=bif (a.zip b).any fun x=> !p x.1 x.2 then some bad else rest:=by
 have hl:(a.zip b).length=a.length:=EW
 refine Hz (a.zip b) (by rw[hl];exact aH0 AB) (fun x=> !p x.1 x.2) bad rest (fun k i h=>?_) (fun k=>by rw[hl];exact u k);have z:i<a.length:=AB
 have I:i<b.length:=AB
 rw[q k i z I,aKG]
def len_eq {α:Type} {a b:A8 α} (h:((a.length:Int)==(b.length:Int))=true):a.length=b.length:=aNP
def X3 (x y:BD):AZ:=x.toList==y.toList
def XZ (x y:IJ):AZ:=x.User.toList==y.User.toList&&x.N==y.N
def Uw (x y:Jc):AZ:=x.Kind==y.Kind&&x.N==y.N
def aDZ {a b:A8 BD} (ha:a.length<=1000):oh a b=some (P5 X3 a b)/\TT a b=some (P5 X3 a b):=by
 unfold oh TT P5;simp only[bne];cases h:((a.length:Int)==(b.length:Int))with
 |false=>exact⟨rfl,rfl⟩
 |true=>
  have j:=len_eq h;simp only[FB,BX,Gw];unfold aOh aDl
  rw[lJ X3 a b ha j false (some true) (fun k i h h'=>by simp only[aIh,dec_lt h,Bz,Cx h,Cx h',Ad];rfl) (fun k=>by simp only[aIh,Dy,BX]),
   lJ X3 a b ha j false (some true) (fun k i h h'=>by simp only[aC9,dec_lt h,Bz,Cx h,Cx h',Ad];rfl) (fun k=>aNn)]
  cases(a.zip b).any fun x=> !X3 x.1 x.2<;>exact⟨rfl,rfl⟩
def adJ {a b:A8 IJ} (ha:a.length<=1000):aAr a b=some (P5 XZ a b):=by
 unfold aAr P5;simp only[bne];cases h:((a.length:Int)==(b.length:Int))with
 |false=>rfl
 |true=>
  have j:=len_eq h;simp only[FB,BX,Gw];unfold aV2;rw[lJ XZ a b ha j false (some true) (fun k i h h'=>by simp only[aJN,dec_lt h,Bz,Cx h,Cx h',Ad,aDx,XZ,Nq]) (fun k=>by simp only[aJN,Dy,BX])];cases(a.zip b).any fun x=> !XZ x.1 x.2<;>rfl
def aZv {a b:A8 Jc} (ha:a.length<=1000):aCj a b=some (P5 Uw a b):=by
 unfold aCj P5;simp only[bne];cases h:((a.length:Int)==(b.length:Int))with
 |false=>rfl
 |true=>
  have j:=len_eq h;simp only[FB,BX,Gw];unfold aTy;rw[lJ Uw a b ha j false (some true) (fun k i h h'=>by simp only[aKl,dec_lt h,Bz,Cx h,Cx h',Ad,a1J,Uw,Nq]) (fun k=>by simp only[aKl,Dy,BX])];cases(a.zip b).any fun x=> !Uw x.1 x.2<;>rfl
def aAq (a b:Cc):AZ:=(a.User==b.User)&&(a.Message==b.Message)&&(a.State==b.State)&&(a.gy==b.gy)&&(a.jL==b.jL)&&(a.lV==b.lV)&&(a.gW==b.gW)
def a1x (a b:Cc):AZ:=P5 XZ a.Users b.Users&&(P5 Uw a.Kinds b.Kinds&&aAq a b)
def aaj {a b:Cc} (j:a.Users.length<=1000) (q:a.Kinds.length<=1000):Vx a b=some (a1x a b):=by
 unfold Vx a1x P5;simp only[bne];cases u:((a.Users.length:Int)==(b.Users.length:Int))with
 |false=>rfl
 |true=>
  cases z:((a.Kinds.length:Int)==(b.Kinds.length:Int))with
  |false=>simp
  |true=>
   have I:=len_eq u;have ek:=len_eq z
   have J:ZG a b 0=bif (a.Kinds.zip b.Kinds).any fun x=> !Uw x.1 x.2 then some false else some (aAq a b):=by
    unfold ZG;refine lJ Uw a.Kinds b.Kinds q ek false (some (aAq a b)) (fun k i h h'=>?_) (fun k=>?_)
    ·simp only[nH,dec_lt h,Bz,Cx h,Cx h',Ad,qj,Uw,bne];cases a.Kinds[i].Kind==b.Kinds[i].Kind<;>cases a.Kinds[i].N==b.Kinds[i].N<;>rfl
    simp only[nH,Dy,BX,KO,Ad,Tv];rfl
   simp only[FB,BX,Ad,Gw];unfold yF
   rw[lJ XZ a.Users b.Users j I false (ZG a b 0) (fun k i h h'=>by
    simp only[mO,dec_lt h,Bz,Cx h,Cx h',Ad,qB,XZ,bne]
    cases a.Users[i].User.toList==b.Users[i].User.toList<;>cases a.Users[i].N==b.Users[i].N<;>rfl) (fun k=>by simp only[mO,Dy,BX]),J]
   cases(a.Users.zip b.Users).any fun x=> !XZ x.1 x.2<;>cases(a.Kinds.zip b.Kinds).any fun x=> !Uw x.1 x.2<;>rfl
def aEz (a b:D6):AZ:=(a.Text.toList==b.Text.toList)&&(a.N==b.N)&&(a.Target==b.Target)&&(a.Thread==b.Thread)&&(a.Via.toList==b.Via.toList)&&P5 X3 a.Allow b.Allow&&P5 X3 a.gJ b.gJ&&a1x a.Levels b.Levels
def aaH {a:D6} (b:D6) (ha:RU a):Tz a b=some (aEz a b):=by
 have j:=ha.allow;have q:=ha.deny;have u:=ha.users;have z:=ha.kinds;unfold Tz aEz;rw[(aDZ (a:=a.Allow) AB).2,(aDZ (a:=a.gJ) AB).2,aaj (a:=a.Levels) AB AB];simp only[KO,Ad,Tv]
def ald {a:D6} (b:D6) (ha:RU a):aDG a b=some (aEz a b):=by
 have M:=ha.allow;have O:=ha.deny;have U:=ha.users;have Y:=ha.kinds;unfold aDG aEz a1x aAq;rw[(aDZ (a:=a.Allow) AB).1,(aDZ (a:=a.gJ) AB).1,adJ (a:=a.Levels.Users) AB,aZv (a:=a.Levels.Kinds) AB];simp only[KO,Ad,Tv,dW,bne];generalize(a.Text.toList==b.Text.toList)=j;generalize(a.N==b.N)=q;generalize(a.Target==b.Target)=u;generalize(a.Thread==b.Thread)=z;generalize(a.Via.toList==b.Via.toList)=I;generalize P5 X3 a.Allow b.Allow=J;generalize P5 X3 a.gJ b.gJ=L;generalize P5 XZ a.Levels.Users b.Levels.Users=Z;generalize P5 Uw a.Levels.Kinds b.Levels.Kinds=x9;cases j<;>cases q<;>cases u<;>cases z<;>cases I<;>cases J<;>cases L<;>first|rfl|(simp only[FB,Bool.or_self,BX,Gw,Bool.and_self,Bool.and_assoc])
def agp {e:AV} (j:WS e) (v:AZ):EG (ZI e v) ((Rq e v).bind fun u=>(bif (u != 0)then some u else(Je e.Kind e.Content).bind fun J=>some J)):=by
 have h1:=j.room;have h2:=j.sender;have h3:=j.key;have h4:=j.prev;have h5:=j.auth;unfold ZI Rq;rw[ag4 j,(yH (s:=e.Room) AB).2,(ZO (s:=e.bF) AB).2,aPX AB];cases v with
 |true=>exact .ret _
 |false=>
  simp only[BX,Ad,bne,KO,dW];generalize(VZ e.Room==0)=a;generalize(Qs e.bF==0)=b;generalize VP e.Kind e.Key=L;cases a with
  |false=>exact .ret _
  |true=>
   cases b with
   |false=>exact .ret _
   |true=>
    cases L with
    |false=>exact .ret _
    |true=>
     simp only[FB,Bool.or_self,Bool.and_self,BX,Fin];refine IQ (fun _=>.ret _) fun _=>IQ (fun _=>.ret _) fun hlen=>?_;simp only[ZA,Qv]at hlen;obtain⟨M,O,U⟩:=aS3 (l:=e.bI) AB;obtain⟨Y,Z,q2⟩:=aS3 (l:=e.bQ) AB;rw[O,Z,U,q2];simp only[Ad,KO,dW,Fin];cases M with
     |false=>exact .ret _
     |true=>
     cases Y with
     |false=>exact .ret _
     |true=>
     simp only[FB,BX]
     have hs:decide ((Aw ((e.bI.length:Int)+(e.bQ.length:Int)))>0)=(decide ((e.bI.length:Int)>0)||((e.bQ.length:Int)>0)):=by
      rw[O8 AB AB];by_cases z:(e.bI.length:Int)>0
      ·rw[JG z,JG AB];rfl
      by_cases I:(e.bQ.length:Int)>0
      ·rw[JG I,JG AB,PL]
      rw[JK z,JK I,JK AB];rfl
     rw[hs];generalize(bif ((e.bI.length:Int)==0)then !e.Kind==1 else false)=p;generalize(bif (e.Kind==1)then(decide ((e.bI.length:Int)>0)||((e.bQ.length:Int)>0))else false)=q;cases p with
     |true=>exact .ret _
     |false=>
      cases q with
      |true=>exact .ret _
      |false=>exact EG.bind (acj e.Kind j.content) fun x=>.ret _
def aWm {e:AV} (q:WS e):EG (Qh e) (U1 e):=by
 have j:=agp q;unfold Qh U1 aAc;rw[show ZP e.Kind=SK e.Kind from rfl];simp only[Fin,bne,KO,Ad];refine IQ (fun _=>j _) fun _=>IQ (fun _=>j _) fun _=>?_;have hs:∃b,SK e.Kind=some b:=by unfold SK;cases decide (e.Kind>=1)<;>cases decide (e.Kind<=10)<;>exact⟨_,rfl⟩
 obtain⟨b,u⟩:=hs;rw[u];simp only[Ad,Fin];refine IQ (fun _=>j _) fun _=>IQ (fun _=>?_) fun _=>j _;cases e.Kind==2 with
 |true=>exact j _
 |false=>exact j _
def aV7 {e:AV} (j:UY e):a0d e=some (UD e==e.Hash)/\a1G e=some (UD e==e.Hash):=by
 unfold a0d a1G;rw[(aHo j).1,(aHo j).2];exact⟨rfl,rfl⟩
def akj {e:AV} (j:UY e) (v:AZ):EG (Zv e v) (lR e v):=by
 have J:e.bF.size<=2000:=j.sender;unfold Zv lR;obtain⟨q,u⟩:=aJG j;obtain⟨z,I⟩:=Xj (s:=e.bF) AB;rw[q,u,z,I];refine IQ (fun _=>.ret _) fun _=>?_;simp only[Ad];refine IQ (fun _=>.ret _) fun _=>?_;unfold aAV aFY;show EG (bif !((e.nU.Server.toList==(splitB e.bF (Jt e.bF)).2.1.toList)&&((e.nU.Sum==e.Id)&&true))then some 12 else some 0) _;simp only[bne];cases(e.nU.Server.toList==(splitB e.bF (Jt e.bF)).2.1.toList)<;>cases(e.nU.Sum==e.Id)<;>exact .ret _
def Jk {a:Int} {c:AZ} {X:AL Int} (h:(bif c then some a else X)=some 0) (ha:a≠0):c=false/\X=some 0:=by
 cases c with
 |true=>exact absurd (Dq h) ha
 |false=>exact⟨rfl,h⟩
def TF {a:Int} {x:AL Int} (h:(bif a != 0 then some a else x)=some 0):a=0/\x=some 0:=by
 by_cases ha:a=0
 ·subst ha;exact⟨rfl,h⟩
 rw[show(a != 0)=true from by simpa using ha]at h;exact absurd (Dq h) ha
def firsts {α R:Type} {body:(Int->AL R)->Int->AL R} {ok:R} (l:A8 α) (hl:l.length<=9223372036854775807) (P:Nat->Prop)
 (I:∀k (i:Nat),i<l.length->body k (i:Int)=some ok->P i/\k ((i+1:Nat):Int)=some ok) (u:Nat) (h:bJ body Ap (u:Int)=some ok):∀i,u<=i->i<l.length->P i:=by
 have key:∀n (i:Nat) m,i+n=l.length->n<m->bJ body m (i:Int)=some ok->∀j,i<=j->j<l.length->P j:=by
  intro n
  induction n with
  |zero=>intro i m hi _ _ j q z;omega
  |succ n J=>
   intro i m hi hm L j q z;obtain⟨m,rfl⟩:∃M,m=M+1:=⟨m-1,AB⟩
   obtain⟨a,b⟩:=I (bJ body m) i AB L;rcases aO2 q with rfl|q
   ·exact a
   exact J (i+1) m AB AB b j q z
 intro i q z;have O:Ap=9223372036854775808:=rfl;exact key (l.length-u) u Ap AB AB h i q z
def gq {α:Type} {l:A8 α} {Q:α->Prop} (h:∀i,0<=i->i<l.length->∀x,l[i]? =some x->Q x):∀x∈l,Q x:=fun x j=>by
 obtain⟨i,hi,rfl⟩:=I5 j;exact h i (Ea _) hi _ (EL hi)
def amU (s:BD) (a b:Nat) (j:b<=s.size):(s.extract a b).size=b-a:=by rw[aC1];omega
def aW3 {l:A8 Int} {p:Int->AZ} (h:Qg l p=true):l.length<=32:=(aXY h).2
def xU {s:BD} {m:Int} (h:Ht s m=true):s.size<=100:=by
 unfold Ht UH at h;simp only[Du,I8]at h;have u:=h.2.1.1;have j:=aW3 h.2.1.2
 have q:(CU (QC s)).length<=32:=by
  have :=h.2.2;unfold Yg at this;simp only[Du]at this;exact aW3 this.1.1
 rw[Ij]at j q;unfold Vh at j;unfold QC at q;rw[amU _ _ _ AB]at j q;omega
def aSM {s:BD} (hs:s.size<=9223372036854775807) (h:Yt s=some 0):s.size<=100/\Ht s 64=true:=by
 rw[(ZO hs).2]at h;have h:=Dq h;unfold Qs at h;cases hm:Ht s 64 with
 |true=>exact⟨xU hm,rfl⟩
 |false=>rw[hm]at h;cases h
def aik {s:BD} (hs:s.size<=9223372036854775807) (h:iU s=some 0):s.size<=100/\Ht s 33=true:=by
 rw[(yH hs).2]at h;have h:=Dq h;unfold VZ at h;cases hm:Ht s 33 with
 |true=>exact⟨xU hm,rfl⟩
 |false=>rw[hm]at h;cases h
def aUW {s:BD} (hs:s.size<=9223372036854775807) (h:lY s=some 0):s.size<=100:=by
 rw[(aGo hs).2]at h;have h:=Dq h;unfold aD2 at h;split at h
 ·omega
 split at h
 ·cases h
 omega
def aOj {l:A8 BD} (hl:l.length<=9223372036854775807) (hs:∀s∈l,s.size<=9223372036854775807) (h:SV l=some 0):l.length<=100/\∀s∈l,s.size<=100:=by
 unfold SV at h;obtain⟨u,h⟩:=Jk h Bj;refine⟨by have :=KI u;omega,gq (firsts l hl (fun i=>∀x,l[i]? =some x->x.size<=100) (fun k i hi j=>?_) 0 h)⟩;unfold sD at j;rw[DR hi]at j;obtain⟨x,z,j⟩:=EM j;obtain⟨e,j⟩:=TF j;subst e;rw[wrap_succ i AB]at j;exact⟨fun y q=>by rw[EL hi]at q;obtain rfl:=Dq q;exact aUW (hs _ (Ew hi)) z,j⟩
def aeO {c:D6} (hl:c.Allow.length<=9223372036854775807) (hs:∀s∈c.Allow,s.size<=9223372036854775807) (h:eM c=some 0):c.Allow.length<=100/\∀s∈c.Allow,s.size<=100:=by
 unfold eM at h;obtain⟨x,_,h⟩:=EM h;obtain⟨_,h⟩:=Jk h Bj;obtain⟨I,h⟩:=Jk h Bj;refine⟨by have :=KI I;omega,gq (firsts c.Allow hl (fun i=>∀x,c.Allow[i]? =some x->x.size<=100) (fun k i hi j=>?_) 0 h)⟩;unfold aDi xE at j;rw[DR hi]at j;obtain⟨x,J,j⟩:=EM j;obtain⟨e,j⟩:=Jk j Bj;have q:x=0:=SH
 subst q;refine⟨fun y u=>by rw[EL hi]at u;obtain rfl:=Dq u;exact(aik (hs _ (Ew hi)) J).1,?_⟩;cases hp:decide ((i:Int)>0)with
 |true=>
  rw[hp,Bz]at j;obtain⟨y,_,j⟩:=EM j;obtain⟨z,_,j⟩:=EM j;obtain⟨_,j⟩:=Jk j Bj
  rwa [wrap_succ i AB]at j
 |false=>
  rw[hp,BX,BX]at j
  rwa [wrap_succ i AB]at j
def alI {l:A8 IJ} (hl:l.length<=9223372036854775807) (hs:∀u∈l,u.User.size<=9223372036854775807) (h:Z7 l=some 0):l.length<=100/\∀u∈l,u.User.size<=100:=by
 unfold Z7 at h;obtain⟨O,h⟩:=Jk h Bj;refine⟨by have :=KI O;omega,gq (firsts l hl (fun i=>∀x,l[i]? =some x->x.User.size<=100) (fun k i hi q=>?_) 0 h)⟩
 have J:∀v,jI l (i:Int) k v=some 0->k ((i+1:Nat):Int)=some 0:=fun v j=>by
  unfold jI at j;obtain⟨_,j⟩:=Jk j Bj;obtain⟨y,_,j⟩:=EM j;obtain⟨z,_,j⟩:=EM j;obtain⟨_,j⟩:=Jk j Bj
  rwa [wrap_succ i AB]at j
 unfold zs at q;rw[DR hi]at q;obtain⟨x,L,U⟩:=EM q;obtain⟨e,hd⟩:=Jk U Bj;have I:x=0:=SH
 rw[I]at L;refine⟨fun y M=>by rw[EL hi]at M;obtain rfl:=Dq M;exact(aSM (hs _ (Ew hi)) L).1,?_⟩;cases hp:decide ((i:Int)>0)with
 |true=>
  rw[hp,Bz]at hd;obtain⟨y,_,Y⟩:=EM hd;obtain⟨z,_,Z⟩:=EM Y;exact J _ Z
 |false=>
  rw[hp,BX]at hd;exact J _ hd
def adv {l:A8 Jc} (h:YH l=some 0):l.length<=100:=by
 unfold YH at h;obtain⟨j,_⟩:=Jk h Bj;have :=KI j;omega
def empty_of {s:BD} (h:(s.toList==CS.toList)=true):s.size<=100:=by rw[aA2]at h;have :=eq_of_beq h;omega
def aQa {l:Cc} (h:O6 l=true):l.Users=[]/\l.Kinds=[]:=by
 unfold O6 at h;simp only[Du]at h;exact⟨UE h.1.1.1.1.1.1.1.1,UE h.1.1.1.1.1.1.1.2⟩
def ag9 {k:Int} {c:D6} (L:LC c) (h:Je k c=some 0):RU c:=by
 unfold Je at h;rw[(aEc k).2,Ad]at h;obtain⟨x2,O,h⟩:=EM h;obtain⟨e2,h⟩:=Jk h Bj;subst e2
 have J:Zz k c=some true:=by
  cases hk:(decide (k>=1)&&(k<=14))with
  |false=>rw[hk]at O;cases O
  |true=>
   rw[hk]at O;obtain⟨y,U,M⟩:=EM (show(Zz k c).bind (fun x4=>some (!x4))=some false from O);have M:=Dq M;cases y with
   |true=>exact U
   |false=>cases M
 obtain⟨x6,_,h⟩:=EM h;obtain⟨x7,Y,h⟩:=EM h;cases x7 with
 |true=>
  have M:iQ (c.Text.toList==CS.toList) (c.N==0) (c.Target==0) (!c.Thread) (c.Via.toList==CS.toList) ((c.Allow.length:Int)==0) ((c.gJ.length:Int)==0) (O6 c.Levels)=true:=by
   cases x6 with
   |false=>cases Y
   |true=>rw[aUe]at Y;exact Dq Y
  unfold iQ at M;simp only[Du]at M;obtain⟨⟨⟨⟨⟨⟨⟨t1,_⟩,_⟩,_⟩,t5⟩,t6⟩,t7⟩,t8⟩:=M;have p:=aQa t8;have q1:=empty_of t1;have q2:=empty_of t5;have a1:=UE t6;have a2:=UE t7;refine⟨?_,?_,?_,?_,AB,AB,?_,?_,?_⟩<;>first|rw[a1]|rw[a2]|rw[p.1]|rw[p.2]
  all_goals first|exact Ea _|exact fun x hx=>absurd hx G5
 |false=>
  rw[BX]at h;obtain⟨x11,j,h⟩:=EM h;obtain⟨e,h⟩:=TF h;subst e;obtain⟨qQ,_,h⟩:=EM h;obtain⟨_,h⟩:=TF h;obtain⟨x15,_,h⟩:=EM h;obtain⟨_,h⟩:=TF h;obtain⟨x17,I,h⟩:=EM h;obtain⟨e,h⟩:=TF h;subst e
  have ht:c.Text.size<=2000:=by
   unfold YG at j;cases h9:k==9 with
   |true=>
    rw[h9,Bz]at j;cases Z:(c.Text.toList==CS.toList)with
    |true=>have :=empty_of Z;omega
    |false=>
     rw[Z,BX]at j;obtain⟨y,U,j⟩:=EM j;obtain rfl:=Dq j;have :=aUW L.text U;omega
   |false=>
    rw[h9,BX]at j;obtain⟨y,_,j⟩:=EM j;obtain⟨_,j⟩:=Jk j Bj;obtain⟨z,M,j⟩:=EM j;obtain⟨e,_⟩:=Jk j Bj;subst e;cases hd:decide ((c.Text.size:Int)>400)with
    |true=>rw[hd]at M;cases M
    |false=>have :=KI hd;omega
  have hv:c.Via.size<=2000:=by
   unfold YI at I;cases Z:(c.Via.toList==CS.toList)with
   |true=>have :=empty_of Z;omega
   |false=>
    rw[Z,BX]at I;obtain⟨_,I⟩:=Jk I Bj;obtain⟨y,U,I⟩:=EM I;obtain rfl:=Dq I;have :=(aSM L.via U).1;omega
  have Ig:∀{l:A8 BD},(∀s∈l,s.size<=100)->∀s∈l,s.size<=2000:=fun h s hs=>FC (h s hs) AB;cases h4:k==4 with
  |true=>
   have e4:=eq_of_beq h4;subst e4;rw[TW,Bz]at h;obtain⟨y,U,h⟩:=EM h;obtain rfl:=Dq h;obtain⟨r1,r2⟩:=aeO L.allow L.allows U;rw[aWd (K:=4) (c:=c) (show _=some false by kernel_rfl) (show _=some true by kernel_rfl) (show _=some false by kernel_rfl) (show _=some false by kernel_rfl) (show _=some false by kernel_rfl) (show _=some true by kernel_rfl) (show _=some false by kernel_rfl) (show _=some false by kernel_rfl)]at J;have ho:=Dq J;unfold MH at ho;simp only[Du,ML]at ho;have d:=UE ho.1.2;have p:=aQa ho.2;refine⟨r1,?_,?_,?_,ht,hv,Ig r2,?_,?_⟩<;>first|rw[d]|rw[p.1]|rw[p.2]
   all_goals first|exact Ea _|exact fun x hx=>absurd hx G5
  |false=>
   rw[h4,BX]at h;obtain⟨y1,hy1,h⟩:=EM h;obtain⟨e,h⟩:=TF h;subst e;obtain⟨y2,hy2,h⟩:=EM h;obtain⟨e,h⟩:=TF h;subst e;obtain⟨y3,q,h⟩:=EM h;obtain rfl:=Dq h;unfold Yk at q;obtain⟨z1,hz1,q⟩:=EM q;obtain⟨e,q⟩:=TF q;subst e;obtain⟨z2,hz2,q⟩:=EM q;obtain⟨e,q⟩:=TF q;subst e;obtain⟨a1,a2⟩:=aOj L.allow L.allows hy1;obtain⟨d1,d2⟩:=aOj L.deny L.denies hy2;obtain⟨u1,u2⟩:=alI L.users L.names hz1;exact⟨a1,d1,u1,adv hz2,ht,hv,Ig a2,Ig d2,fun u hu=>FC (u2 u hu) AB⟩
structure iZ (e:AV):Prop where
 kind:1<=e.Kind/\e.Kind<=14
 state:e.State=I7 e.Kind
 keyed:e.Key=CS\/e.Kind=2\/e.Kind=9
 room:Ht e.Room 33=true
 sender:Ht e.bF 64=true
 key:VP e.Kind e.Key=true
 time:0<=e.Time/\e.Time<=1000000000
 depth:1<=e.Depth/\e.Depth<=100000
 prev:e.bI.length<=10/\Inc e.bI/\∀x∈e.bI,0<=x
 auth:e.bQ.length<=8/\Inc e.bQ/\∀x∈e.bQ,0<=x
 short:e.bI=[]->e.Kind=1
 form:e.Kind=1->e.bI=[]/\e.bQ=[]
 content:Je e.Kind e.Content=some 0
 small:UY e
def aRB {l:A8 Int} (hl:l.length<=9223372036854775807) (h:eS l=some true):Inc l/\∀x∈l,0<=x:=by
 unfold eS aKa at h
 have u:=firsts l hl (fun i=>∀x,l[i]? =some x->0<=x/\∀y,0<i->l[i-1]? =some y->y<x) (fun k i hi q=>by
  have J:∀v,dM k (i:Int) v=some true->v=false/\k ((i+1:Nat):Int)=some true:=fun v L=>by
   unfold dM at L;cases v with
   |true=>cases L
   |false=>rw[BX,wrap_succ i AB]at L;exact⟨rfl,L⟩
  unfold aE0 at q;rw[DR hi]at q;cases M:decide (l[i]<0)with
  |true=>rw[M,Bz]at q;cases(J _ q).1
  |false=>
   have h0:=KI M;rw[M,BX]at q;cases hp:decide ((i:Int)>0)with
   |false=>
    have hp0:=KI hp;rw[hp,BX]at q;refine⟨fun x z=>?_,(J _ q).2⟩;rw[EL hi]at z;obtain rfl:=Dq z;exact⟨AB,fun y h0 O=>AB⟩
   |true=>
    rw[hp,Bz,Cx hi,Ad,wz hi hl hp,Ad]at q;obtain⟨U,Y⟩:=J _ q;refine⟨fun x z=>?_,Y⟩;rw[EL hi]at z;obtain rfl:=Dq z;refine⟨AB,fun y h0 O=>?_⟩;rw[EL AB]at O;obtain rfl:=Dq O
    have :=KI U;omega) 0 h
 have I:∀i,(hi:i+1<l.length)->l[i]<l[i+1]:=fun i hi=>(u (i+1) AB hi _ (EL hi)).2 _ AB (EL AB);refine⟨?_,fun x z=>?_⟩
 ·rw[Inc,KC];intro i j hi J Z
  induction j with
  |zero=>omega
  |succ j ih=>
   have U:=I j J;rcases aO2 (Nat.le_of_lt_succ Z)with rfl|Y
   ·exact U
   have :=ih AB Y;omega
 obtain⟨i,hi,rfl⟩:=I5 z;exact(u i (Ea _) hi _ (EL hi)).1
def uV {c:AZ} {X:AL AZ} {f:AZ->AL Int} {v:Int} (j:f true≠some v) (h:((bif c then some true else X).bind f)=some v):c=false/\X.bind f=some v:=by
 cases c with
 |true=>exact absurd h j
 |false=>exact⟨rfl,h⟩
def alG {e:AV} (M:WS e) (h:U1 e=some 0):iZ e:=by
 unfold U1 at h;obtain⟨x1,j,h⟩:=EM h;obtain⟨e1,h⟩:=TF h;subst e1;obtain⟨x3,h3,h⟩:=EM h;obtain rfl:=Dq h;have L:=ag9 M.content h3
 have O:∀v,Rq e v=some 0->v=false:=fun v hv=>by
  cases v with
  |true=>cases hv
  |false=>rfl
 have Z:Rq e false=some 0/\(1<=e.Kind/\e.Kind<=14)/\e.State=I7 e.Kind/\(e.Key=CS\/e.Kind=2\/e.Kind=9):=by
  unfold aAc at j;cases c1:decide (e.Kind<1)with
  |true=>rw[c1,Bz]at j;cases O _ j
  |false=>
   cases c2:decide (e.Kind>14)with
   |true=>rw[c1,c2,BX,Bz]at j;cases O _ j
   |false=>
    rw[c1,c2,BX,BX,yV,Ad]at j;have k1:=KI c1;have k2:=KI c2;cases c3:(e.State==I7 e.Kind)with
    |false=>rw[c3,JC,Bz]at j;cases O _ j
    |true=>
     rw[c3,FB,BX]at j;refine⟨?_,⟨AB,AB⟩,eq_of_beq c3,?_⟩
     all_goals cases c4:(e.Key.toList==CS.toList)with
     |true=>rw[c4,FB,BX]at j;first|exact j|exact .inl (toList_inj (eq_of_beq c4))
     |false=>
      rw[c4,JC,Bz]at j;cases c5:(e.Kind != 2)with
      |false=>rw[c5,BX]at j;first|exact j|exact .inr (.inl (by simpa using c5))
      |true=>
       rw[c5,Bz]at j;have :=O _ j;rw[this]at j
       first|exact j|exact .inr (.inr aMi)
 clear j O;obtain⟨j,hk,hst,U⟩:=Z;unfold Rq at j;rw[BX,(yH (s:=e.Room) M.room).2,(ZO (s:=e.bF) M.sender).2,aPX M.key]at j;simp only[Ad]at j
 have z:Ht e.Room 33=true:=by
  cases hm:Ht e.Room 33 with
  |true=>rfl
  |false=>unfold VZ at j;rw[hm]at j;cases j
 have r0:VZ e.Room=0:=by unfold VZ;rw[z];rfl
 rw[r0,QG,BX,Ad]at j
 have I:Ht e.bF 64=true:=by
  cases hm:Ht e.bF 64 with
  |true=>rfl
  |false=>unfold Qs at j;rw[hm]at j;cases j
 have u0:Qs e.bF=0:=by unfold Qs;rw[I];rfl
 rw[u0,QG,BX,Ad]at j
 have u:VP e.Kind e.Key=true:=by
  cases hm:VP e.Kind e.Key with
  |true=>rfl
  |false=>rw[hm]at j;cases j
 rw[u,FB,BX]at j;obtain⟨t1,j⟩:=uV yI j;rw[Ad]at j;obtain⟨t2,j⟩:=uV yI j;rw[Ad]at j;obtain⟨t3,j⟩:=uV yI j;rw[Ad]at j;obtain⟨t4,j⟩:=Jk j Bj;obtain⟨t5,j⟩:=uV yI j;rw[Ad]at j;obtain⟨t6,j⟩:=Jk j Bj;obtain⟨x21,h21,j⟩:=EM j;obtain⟨t7,j⟩:=uV yI j;rw[Option.bind_assoc]at j;obtain⟨x24,h24,j⟩:=EM j;rw[Ad]at j;obtain⟨t8,j⟩:=Jk j Bj;obtain⟨vX,Y,j⟩:=EM j;obtain⟨t9,j⟩:=Jk j Bj;obtain⟨x29,J,j⟩:=EM j;obtain⟨t10,_⟩:=Jk j Bj;have e21:x21=true:=by simpa using t7
 have e24:x24=true:=by simpa using t8
 subst e21 e24 t9 t10;have p1:=KI t5;have p2:=KI t6;have r1:=aRB M.prev h21;have r2:=aRB M.auth h24;have d1:=KI t1;have d2:=KI t2;have d3:=KI t3;have d4:=KI t4
 have hkz:e.Key.size<=2000:=by
  rcases U with h|h|h
  ·rw[h];exact Ea _
  ·unfold VP at u;rw[Di h]at u;have :Qs e.Key=0:=Vd
   unfold Qs at this;cases hm:Ht e.Key 64 with
   |true=>have :=xU hm;omega
   |false=>rw[hm]at this;cases this
  unfold VP at u;rw[Dp AB,Di h]at u;unfold oO at u;simp only[Du,I8]at u;have :=u.1.2;omega
 have z1:=xU z;have z2:=xU I;refine⟨hk,hst,U,z,I,u,⟨AB,AB⟩,⟨AB,AB⟩,⟨AB,r1⟩,⟨AB,r2⟩,fun hp=>?_,fun hk1=>?_,h3,⟨?_,?_,L.allow,L.deny,L.users,L.kinds,?_,?_,hkz,L.text,L.via,Ea _,L.allows,L.denies,L.names⟩⟩
 ·rw[hp]at Y;have :=Dq Y;simpa using this
 ·rw[hk1]at J;have J:((bif (e.bI.length:Int)>0 then some true else some (decide ((e.bQ.length:Int)>0))).bind fun x31=>some x31)=some false:=J;cases q:decide ((e.bI.length:Int)>0)with
  |true=>rw[q]at J;cases J
  |false=>
   rw[q]at J;have q2:=Dq J;have :=KI q;have :=KI q2;exact⟨Hg AB,Hg AB⟩
 ·show e.bI.length<=40;omega
 ·show e.bQ.length<=40;omega
 ·show e.Room.size<=2000;omega
 show e.bF.size<=2000;omega
def aLf {e:AV} (J:WS e):∃c,zn e=some c/\WX e=some c/\(c=0->iZ e/\FD e):=by
 obtain⟨x,z,j⟩:=aWm J;unfold zn WX;rw[z,j,Ad,Ad];cases u:x != 0 with
 |true=>exact⟨x,rfl,rfl,fun h=>by subst h;cases u⟩
 |false=>
  obtain rfl:x=0:=Vd
  have L:=alG J j;have hs:=L.small;have I:e.bF.size<=2000:=hs.sender;rw[BX,BX,(aV7 hs).1,(aV7 hs).2,aPf _ hs.content,aSw];simp only[Ad];rw[ald _ hs.content,aaH _ hs.content];simp only[Ad]
  have key:∀v,∃c,Zv e v=some c/\lR e v=some c/\(c=0->iZ e/\FD e):=fun v=>by
   obtain⟨c,c1,c2⟩:=akj hs v;refine⟨c,c1,c2,fun M=>⟨L,?_⟩⟩;subst M;unfold Zv at c1;obtain⟨_,c1⟩:=Jk c1 Bj;rw[(aJG hs).1,Ad]at c1;obtain⟨_,c1⟩:=Jk c1 Bj;rw[(Xj (s:=e.bF) AB).1,Ad]at c1;obtain⟨c3,_⟩:=Jk (show(bif !((e.nU.Server.toList==(splitB e.bF (Jt e.bF)).2.1.toList)&&((e.nU.Sum==e.Id)&&true))then some 12 else some 0)=some (0:Int)from c1) Bj
   have O:e.nU.Server=(splitB e.bF (Jt e.bF)).2.1:=by
    cases q:(e.nU.Server.toList==(splitB e.bF (Jt e.bF)).2.1.toList)with
    |true=>exact toList_inj (eq_of_beq q)
    |false=>rw[q]at c3;cases c3
   have U:=(aiR e.bF I).2.2;exact⟨hs.prev,hs.auth,hs.allow,hs.deny,hs.users,hs.kinds,hs.room,hs.sender,hs.key,hs.text,hs.via,by rw[O];exact U,hs.allows,hs.denies,hs.names⟩
  cases(!(UD e==e.Hash))with
  |true=>rw[Bz,Bz];exact key _
  |false=>rw[BX,BX];exact key _
def aIQ {f g:(Int->AL Int)->Int->AL Int} (N lo:Nat) (hs:∀k k' (i:Nat),lo<=i->i<N->EG (k ((i+1:Nat):Int)) (k' ((i+1:Nat):Int))->EG (f k (i:Int)) (g k' (i:Int))) (z:∀k k',EG (f k (N:Int)) (g k' (N:Int))):
 ∀n (i:Nat),lo<=i->i+n=N->∀m j,n<m->n<j->EG (bJ f m (i:Int)) (bJ g j (i:Int)):=by
 intro n
 induction n with
 |zero=>
  intro i u hi m j I J;obtain⟨m,rfl⟩:∃q,m=q+1:=⟨m-1,AB⟩
  obtain⟨j,rfl⟩:∃q,j=q+1:=⟨j-1,AB⟩
  have :i=N:=AB
  subst this;exact z _ _
 |succ n L=>
  intro i u hi m j I J;obtain⟨m,rfl⟩:∃q,m=q+1:=⟨m-1,AB⟩
  obtain⟨j,rfl⟩:∃q,j=q+1:=⟨j-1,AB⟩
  exact hs _ _ i u AB (L (i+1) AB AB m j AB AB)
def lasts {R:Type} {body:(Int->AL R)->Int->AL R} {ok:R} (N:Nat) (O:N<=9223372036854775807) (P:Nat->Prop)
 (L:∀k (i:Nat),i<N->body k (i:Int)=some ok->P i/\k ((i+1:Nat):Int)=some ok) (q:Nat) (U:q<=N) (h:bJ body Ap (q:Int)=some ok):(∀i,q<=i->i<N->P i)/\∃k,body k (N:Int)=some ok:=by
 have key:∀n (i:Nat) m,i+n=N->n<m->bJ body m (i:Int)=some ok->(∀j,i<=j->j<N->P j)/\∃k,body k (N:Int)=some ok:=by
  intro n
  induction n with
  |zero=>
   intro i m hi hm z;obtain⟨m,rfl⟩:∃I,m=I+1:=⟨m-1,AB⟩
   have :i=N:=AB
   subst this;exact⟨fun j u J=>AB,_,z⟩
  |succ n M=>
   intro i m hi hm z;obtain⟨m,rfl⟩:∃I,m=I+1:=⟨m-1,AB⟩
   obtain⟨a,b⟩:=L (bJ body m) i AB z;obtain⟨c,d⟩:=M (i+1) m AB AB b;refine⟨fun j u J=>?_,d⟩;rcases aO2 u with rfl|u
   ·exact a
   exact c j u J
 have Y:Ap=9223372036854775808:=rfl;exact key (N-q) q Ap AB AB h
def aT4 {α:Type} {l:A8 α} {i:Nat} (h:i+1<l.length) (hl:l.length<=1000000):Ak l (Aw (((i+1:Nat):Int)-1))=some l[i]:=by
 rw[show Aw (((i+1:Nat):Int)-1)=(i:Int) by rw[bg];omega,Cx AB]
def ang {l:A8 AV} (L:∀e∈l,WS e) (hl:l.length<=1000):EG (Pq l) (Qw l):=by
 by_cases I:l=[]
 ·subst I;exact⟨0,AA,AA⟩
 have q:0<l.length:=Za.2 I;have M:Ap=9223372036854775807+1:=rfl
 have O:EG (aAo l 1) (aL8 l 1):=by
  unfold aAo aL8;refine aIQ l.length 1 (fun k k' i z hi u=>?_) (fun k k'=>?_) (l.length-1) 1 (EZ _) AB Ap Ap AB AB
  ·obtain⟨i,rfl⟩:∃j,i=j+1:=⟨i-1,AB⟩
   unfold a0h aH5;rw[DR hi,dec_lt hi,Bz,aT4 hi AB,Ad,Ad,Cx hi,Ad,wrap_succ (i+1) AB];show EG (bif l[i+1].Id<=l[i].Id then some 8 else k _) (bif l[i].Id>=l[i+1].Id then some 8 else k' _);exact IQ (fun _=>.ret _) fun _=>u
  unfold a0h aH5;rw[Dy];exact .ret _
 have J:Ak l 0=some l[0]:=Cx (i:=0) q
 have U:EG (uz l 0) (aHv l 1):=by
  have Y:∀k,YX l k 0=k 1:=fun k=>by
   unfold YX;rw[show decide ((0:Int)<(l.length:Int))=true by simpa using q,Bz,J,Ad,Ad,TW];rfl
  have Z:uz l 0=bJ (YX l) 9223372036854775807 1:=by
   unfold uz;rw[M];exact Y _
  rw[Z];unfold aHv;refine aIQ l.length 1 (fun k k' i z hi u=>?_) (fun k k'=>?_) (l.length-1) 1 (EZ _) AB _ Ap AB AB
  ·unfold YX aJS;rw[DR hi,DR hi,J,Ad,Ad,wrap_succ i AB];exact IQ (fun _=>.ret _) fun _=>u
  unfold YX aJS;rw[Dy];exact O
 unfold Pq Qw;rw[JK (show ¬(l.length:Int)>2000 by omega),BX,BX];unfold aJs aO6;refine aIQ l.length 0 (fun k k' i _ hi u=>?_) (fun k k'=>?_) l.length 0 (EZ _) AB Ap Ap AB AB
 ·unfold zV aA4;obtain⟨c,c1,c2,_⟩:=aLf (L _ (Ew hi));rw[DR hi,DR hi,c1,c2,Ad,Ad,wrap_succ i AB];exact IQ (fun _=>.ret _) fun _=>u
 unfold zV aA4;rw[Dy];exact U
structure V8 (l:List AV):Prop where
 ev:∀e∈l,iZ e/\FD e
 room:∀x∈l,∀y∈l,x.Room=y.Room
 inc:Inc (l.map (·.Id))
def an3 {f:Nat->Int}:∀(n i j:Nat),(∀k,i<=k->k<j->f k<f (k+1))->i+n=j->0<n->f i<f j:=by
 intro n
 induction n with
 |zero=>intro i j _ _ h;omega
 |succ n z=>
  intro i j h q _;rcases XP n with u|u
  ·subst u;rw[←q];exact h i (EZ _) AB
  have a:=h i (EZ _) AB;have b:=z (i+1) j (fun k J I=>h k AB I) AB u;omega
def ad8 {l:A8 AV} (hw:∀e∈l,WS e) (hl:l.length<=1000) (h:Pq l=some 0):V8 l:=by
 unfold Pq at h;rw[JK (show ¬(l.length:Int)>2000 by omega),BX]at h;unfold aJs at h
 obtain⟨p1,k1,h⟩:=lasts l.length AB (fun i=>∀x,l[i]? =some x->iZ x/\FD x) (fun k i hi u=>by
  unfold zV at u;obtain⟨c,c1,_,c3⟩:=aLf (hw _ (Ew hi));rw[DR hi,c1,Ad,wrap_succ i AB]at u;obtain⟨e,u⟩:=TF u
  exact⟨fun x I=>by rw[EL hi]at I;obtain rfl:=Dq I;exact c3 e,u⟩) 0 (Ea _) h
 unfold zV at h;rw[Dy,BX]at h;unfold uz at h
 obtain⟨p2,k2,h⟩:=lasts l.length AB (fun i=>∀x y,l[i]? =some x->l[0]? =some y->x.Room=y.Room) (fun k i hi u=>by
  unfold YX at u;have g0:Ak l 0=some l[0]:=Cx (i:=0) AB;rw[DR hi,g0,Ad,wrap_succ i AB]at u;obtain⟨e,u⟩:=Jk u Bj;refine⟨fun x y I J=>?_,u⟩;rw[EL hi]at I;rw[EL AB]at J;obtain rfl:=Dq I;obtain rfl:=Dq J
  exact toList_inj SH) 0 (Ea _) h
 unfold YX at h;rw[Dy,BX]at h;refine⟨gq p1,fun x I y J=>?_,?_⟩
 ·have key:∀x∈l,∀y,l[0]? =some y->x.Room=y.Room:=gq fun i hi M x I y J=>p2 i hi M x y I J;have h0:0<l.length:=List.length_pos_of_mem I;have Y:l[0]? =some l[0]:=EL h0;rw[key x I _ Y,key y J _ Y]
 by_cases Z:l=[]
 ·subst Z;exact .nil
 have L:0<l.length:=Za.2 Z;unfold aAo at h
 obtain⟨p3,_⟩:=lasts l.length AB (fun i=>∀j x y,i=j+1->l[i]? =some x->l[j]? =some y->y.Id<x.Id) (fun k i hi u=>by
  unfold a0h at u;rw[DR hi]at u;obtain⟨z,hz,u⟩:=EM u;obtain⟨e,u⟩:=Jk u Bj;rw[wrap_succ i AB]at u;refine⟨fun j x y O I J=>?_,u⟩;subst O;rw[aT4 hi AB]at hz;rw[EL hi]at I;rw[EL AB]at J;obtain rfl:=Dq I;obtain rfl:=Dq J;obtain rfl:=Dq hz
  have :=KI e;omega) 1 L h
 rw[Inc,cD,KC];intro i j hi O hij
 have :=an3 (f:=fun q=>(l.getD q DI).Id) (j-i) i j (fun k h1 h2=>by
  have U:k+1<l.length:=AB
  have :=p3 (k+1) AB U k l[k+1] l[k] rfl (EL U) (EL AB)
  simpa[List.getD,EL U,EL (show k<l.length by omega)]using this) AB AB
 simpa[List.getD,EL hi,EL O]using this
def V8.ok {l:A8 AV} (h:V8 l) (hl:l.length<=100):Lm l:=⟨hl,fun e j=>(h.ev e j).2,VQ h.inc,fun e j=>(h.ev e j).1.depth⟩
def ahZ {l:A8 AV} (j:∀e∈l,WS e) (hl:l.length<=100):∃c,Pq l=some c/\Qw l=some c/\(c=0->V8 l):=by
 obtain⟨c,c1,c2⟩:=ang j AB;exact⟨c,c1,c2,fun h=>ad8 j AB (by rw[c1,h])⟩
def ah6 {l:A8 AV} (q:Qw l=some 0) (hl:l.length<=100):∀x∈l,WX x=some 0:=by
 unfold Qw at q;obtain⟨_,h⟩:=Jk q Bj;unfold aO6 at h
 obtain⟨z,_⟩:=lasts l.length AB (fun i=>∀x,l[i]? =some x->WX x=some 0) (fun k i hi j=>by
  unfold aA4 at j;rw[DR hi]at j;obtain⟨y,I,j⟩:=EM j;obtain⟨e,j⟩:=TF j;subst e;rw[wrap_succ i AB]at j
  exact⟨fun x u=>by rw[EL hi]at u;obtain rfl:=Dq u;exact I,j⟩) 0 (Ea _) h
 exact gq z
def KR (x:F6):Ie:=⟨x.id,x.before,x.after,x.err⟩
def Tc (t:A8 F6) (x:Int):Ie×AZ:=match Iz t x with
 |some y=>(KR y,true)
 |none=>(VL,false)
def aVz (t:A8 F6) (x:Int):(Tc t x).1.After=QD t x:=by unfold Tc QD;cases Iz t x<;>rfl
def amf (t:A8 F6) (x:Int):(Tc t x).1.Err=errOf t x:=by unfold Tc errOf;cases Iz t x<;>rfl
def aBH (t:A8 F6) (x:Int) (ht:t.length<=1000000):jG (t.map KR) x=some (Tc t x):=by
 unfold jG aRN;have hm:(t.map KR).length=t.length:=Dc ..;refine eP.eq (Yr (body:=aGW (t.map KR) x) (Q:=(· =Tc t x)) (fun n a _=>∃i:Nat,a=i/\i+n=t.length/\∀j,(q:j<i)->(hl:j<t.length)->¬(t[j].id==x)=true) ?_ Ap t.length 0 _ (fuel_lt AB) ⟨0,rfl,AB,fun j q=>AB⟩);rintro n a b k ⟨i,rfl,O,z⟩ L;unfold aGW;by_cases hi:i<t.length
 ·have u:i<(t.map KR).length:=AB
  rw[DR u,Cx u,Ad,TV];show eP (bif t[i].id==x then some (KR t[i],true)else k _ b) _;cases J:t[i].id==x with
  |true=>
   have I:Iz t x=some t[i]:=by
    unfold Iz;rw[List.find?_eq_some_iff_getElem];exact⟨J,i,hi,rfl,fun j q=>by have :=z j q AB;simpa using this⟩
   exact .ret (by unfold Tc;rw[I])
  |false=>
   refine L (n-1) _ _ AB ⟨i+1,wrap_succ i AB,AB,fun j q hl=>?_⟩;by_cases e:j=i
   ·subst e;rw[J];simp
   exact z j AB hl
 have :i=t.length:=AB
 subst this;rw[←hm,Dy]
 have I:Iz t x=none:=by
  unfold Iz;rw[aAW];intro y M;obtain⟨j,q,rfl⟩:=I5 M;exact z j q q
 exact .ret (by unfold Tc;rw[I])
def aPO (t:A8 Ie) (x:Int):a1l t x=jG t x:=rfl
def agB (l:A8 AV) (t:A8 F6) (e:AV) (s:A8 BJ) (hl:l.length<=100) (hs:E9 l) (z:FD e) (M:s.length<=100) (ht:t.length<=1000):vC l (t.map KR) e s=some (TS l t e s):=by
 have Z:=z.auth;have h2:=yX l s
 have I:∀v,qK e (t.map KR) l s v=some (bif v != 0 then v else bif e.bQ.any (fun x=>errOf t x != 0)then 16 else NR e (KJ l s)):=fun v=>by
  unfold qK aXe
  refine eP.eq (JX e.bQ.length (fuel_lt AB) (fun i a=>a=bif v != 0 then v else bif (e.bQ.take i).any (fun x=>errOf t x != 0)then 16 else 0) (by cases q:v != 0 with
   |true=>rfl
   |false=>exact OQ) (fun i a k hi ha J=>?_) fun a k ha=>?_)
  ·unfold aH3 Mid;rw[DR hi,aPO,aBH _ _ AB,Ad,amf,wrap_succ i AB];have O:(bif a==0 then some (errOf t e.bQ[i] != 0)else some false)=some (a==0&&errOf t e.bQ[i] != 0):=by cases a==0<;>rfl
   rw[O,Ad]
   have j:∀b:Int,b=(bif a==0&&errOf t e.bQ[i] != 0 then 16 else a)->b=bif v != 0 then v else bif (e.bQ.take (i+1)).any (fun x=>errOf t x != 0)then 16 else 0:=fun b U=>by
    rw[zT hi,U,ha];cases q:v != 0 with
    |true=>
     have :(v==0)=false:=OQ
     simp only[Bz,this,aLC,BX]
    |false=>
     simp only[BX];cases(e.bQ.take i).any (fun x=>errOf t x != 0)<;>cases errOf t e.bQ[i] != 0<;>rfl
   cases L:(a==0&&errOf t e.bQ[i] != 0)with
   |true=>exact J _ (j 16 (by rw[L];rfl))
   |false=>exact J _ (j a (by rw[L];rfl))
  unfold aH3;rw[Dy,BX,ha,Gg,aUu l s hl AB,Ad,aEe e (KJ l s) AB (aN1 hs _) z];cases q:v != 0 with
  |true=>simp only[Bz,q];exact .ret rfl
  |false=>
   cases e.bQ.any (fun x=>errOf t x != 0)with
   |true=>exact .ret rfl
   |false=>exact .ret rfl
 unfold vC TS Src;rw[aZZ l e hl z,Ad,aTc l e AB AB,Ad,aEe e _ (FC (aD0 l e) AB) (hs.from e) z,Ad,I,I];have u:(TU l e != 0)= !(TU l e==0):=rfl;rw[u];cases Y:TU l e==0 with
 |true=>rfl
 |false=>rw[JC,Bz,Bz,u,Y];rfl
def aIZ (l:A8 AV):∀(ids:A8 Int) (t:A8 F6),(ids.foldl (fun t id=>t++[V3 l t (ev l id)]) t).length=t.length+ids.length
 | [],t=>rfl
 |x::ids,t=>by rw[Gt,aIZ l ids,En,HY];simp;omega
def aaX {l:A8 AV} (h:Lm l):aBd l=some ((Fa l).map KR):=by
 have hl:=h.len;have hs:=h.small;have M:=aGT l;unfold aBd;rw[ahF l AB,Ad];unfold Fa;generalize Qd l=ids at M;unfold aWU;refine eP.eq (JX ids.length (fuel_lt AB) (fun i a=>a=(NV l (ids.take i)).map KR) rfl (fun i a k hi ha hk=>?_) fun a k ha=>?_)
 ·have ht:N9 l (NV l (ids.take i)):=aBO hl hs _ _ fun y O=>absurd O G5
  have U:(NV l (ids.take i)).length<=100:=by
   have :=aIZ l (ids.take i) [];unfold NV;rw[this,GK,NM];omega
  have q:=aUo l hi;have he:=aOI hs ids[i];have Y:=he.prev;generalize NV l (ids.take i)=t at ha ht U q;subst ha;unfold aI5;rw[DR hi,Lc l _ AB,Ad];have I:(He l ids[i]).1=ev l ids[i]:=rfl;unfold aVb;refine Qr (body:=aFm (He l ids[i]) l k (i:Int)) (Q:=_) (fun n a b c=>∃j:Nat,b=j/\j+n=(ev l ids[i]).bI.length/\c=t.map KR/\a=((ev l ids[i]).bI.take j).map (QD t)) ?_ Ap (ev l ids[i]).bI.length [] 0 (t.map KR) (fuel_lt AB) ⟨0,rfl,AB,rfl,rfl⟩;rintro n a b c k2 ⟨j,rfl,hn,rfl,ha⟩ Z;unfold aFm;rw[I];by_cases hj:j<(ev l ids[i]).bI.length
  ·have hal:a.length<=j:=jP
   rw[DR hj,aPO,aBH _ _ AB,Ad,aVz,EC GZ,Ad,wrap_succ j AB];exact Z (n-1) _ _ _ AB ⟨j+1,rfl,AB,rfl,by rw[map_take hj,ha]⟩
  have :j=(ev l ids[i]).bI.length:=AB
  subst this;rw[Gg]at ha;subst ha;rw[Dy,BX];have hp:=ht.stB hl hs Y;have J:=hp.length
  have hJ:eP (xH l (He l ids[i]) k (i:Int) (t.map KR) ⟨(ev l ids[i]).Id,stB l t (ev l ids[i]),[],0⟩) (fun x=>x=(NV l ids).map KR):=by
   unfold xH;rw[I];show eP ((vC l (t.map KR) (ev l ids[i]) (stB l t (ev l ids[i]))).bind _) _;rw[agB l t (ev l ids[i]) _ hl hs he AB AB,Ad];have u:V3 l t (ev l ids[i])=dP (ev l ids[i]) (stB l t (ev l ids[i])) (TS l t (ev l ids[i]) (stB l t (ev l ids[i]))):=rfl;rw[u]at q;generalize TS l t (ev l ids[i]) (stB l t (ev l ids[i]))=r at q;generalize stB l t (ev l ids[i])=s at q J
   have L:∀y:F6,y=dP (ev l ids[i]) s r->eP (xW k (i:Int) (t.map KR) (KR y)) (fun x=>x=(NV l ids).map KR):=fun y O=>by
    unfold xW;rw[EC (by simp only[QO,Dc];omega),Ad,wrap_succ i AB];exact hk _ (by rw[q,O,LP];rfl)
   show eP ((bif r==0 then(SK (ev l ids[i]).Kind).bind fun z=>some z else some false).bind _) _;rw[yV,show(bif r==0 then(some (I7 (ev l ids[i]).Kind)).bind fun z=>some z else some false)=some (r==0&&I7 (ev l ids[i]).Kind) by cases r==0<;>rfl,Ad];cases hc:(r==0&&I7 (ev l ids[i]).Kind)with
   |true=>
    rw[Bz];show eP ((aZ s (ev l ids[i]).Kind (ev l ids[i]).Key (ev l ids[i]).Id).bind _) _;rw[aJo _ _ _ _ AB,Ad];exact L ⟨(ev l ids[i]).Id,s,Gm s (ev l ids[i]).Kind (ev l ids[i]).Key (ev l ids[i]).Id,r⟩ (by unfold dP;rw[hc];rfl)
   |false=>
    rw[BX];exact L ⟨(ev l ids[i]).Id,s,s,r⟩ (by unfold dP;rw[hc];rfl)
  by_cases hz:(ev l ids[i]).bI=[]
  ·have hst:stB l t (ev l ids[i])=[]:=by unfold stB;rw[hz];rfl
   rw[hst]at hJ;rw[hz];exact hJ
  have hpos:0<(ev l ids[i]).bI.length:=Za.2 hz;rw[JG WL,Bz,aSb (ht.okay hl hs _ AB),Ad];exact hJ
 unfold aI5;rw[Dy];exact .ret dA
def aWJ (l:A8 AV) (t:A8 F6) (hl:l.length<=1000) (ht:t.length<=1000):aD6 l (t.map KR)=some (F7 l t):=by
 unfold aD6 aU8;refine eP.eq (JX l.length (fuel_lt AB) (fun i a=>a=F7 (l.take i) t) rfl (fun i a k hi ha q=>?_) fun a k ha=>?_)
 ·have z:a.length<=i:=aSN
  unfold aGe aAJ;have j:(bif (Tc t l[i].Id).2 then some ((Tc t l[i].Id).1.Err==0)else some false)=some (U4 t l[i].Id):=by unfold Tc U4;cases Iz t l[i].Id<;>rfl
  rw[DR hi,aBH _ _ AB,Ad,j,Ad,wrap_succ i AB];cases u:U4 t l[i].Id with
  |true=>
   rw[Bz,Cx hi,Ad,EC GZ,Ad];exact q _ (by rw[aCo hi,u,ha];rfl)
  |false=>exact q _ (by rw[aCo hi,u,ha];simp)
 unfold aGe;rw[Dy];exact .ret dA
def amI (l:A8 AV) (t:A8 F6) (hl:l.length<=100) (hs:E9 l) (ht:N9 l t) (j:t.length<=1000):aEu l (t.map KR)=some (Ic l t):=by
 have ha:=Y4 l t;have q:=nN l (F7 l t);unfold aEu zD Ic;rw[aWJ l t AB j,Ad,aOP l _ AB hs AB,Ad,Ad];generalize IU l (F7 l t)=H at q;unfold aOW;refine eP.eq (JX H.length (fuel_lt AB) (fun i a=>a=(H.take i).map (QD t)) rfl (fun i a k hi ha u=>?_) fun a k ha=>?_)
 ·have z:a.length<=i:=jP
  unfold aGK;rw[DR hi,aBH _ _ AB,Ad,aVz,EC GZ,Ad,wrap_succ i AB];exact u _ xw
 rw[Gg]at ha;unfold aGK;rw[Dy,BX,ha,aSb (ht.okay hl hs _ AB),Ad];cases H with
 |nil=>exact .ret rfl
 |cons x H=>exact .ret rfl
def aUL {l:A8 AV} {c:Int} (u:Qw l=some c) (h:c=0->Lm l):nP l=some ((Jo l c).map KR)/\N9 l (Jo l c)/\(Jo l c).length<=l.length:=by
 unfold nP jO Jo;rw[u,Ad];cases z:c==0 with
 |false=>exact⟨rfl,fun y q=>absurd q G5,Ea _⟩
 |true=>
  have j:=h (eq_of_beq z);have hlen:(Fa l).length=l.length:=by rw[←aGT l];have :=aIZ l (Qd l) [];simpa[Fa,NV]using this
  rw[Bz,aWb l j.len j.small j.dep,Ad,Ad,Ad,Gw];cases hd:KG l==0 with
  |false=>exact⟨rfl,fun y q=>absurd q G5,Ea _⟩
  |true=>
   rw[FB,BX,aaX j,Ad,Bz];exact⟨rfl,aIf j,aV hlen⟩
def aTG {l:A8 AV} {c:Int} (j:Qw l=some c) (h:c=0->Lm l) (hl:l.length<=100) (hs:E9 l):WA l=some (Ic l (Jo l c)):=by
 obtain⟨q,u,z⟩:=aUL j h;unfold WA;rw[q,Ad,amI l _ hl hs u AB];rfl
def aI1 (t:A8 F6) (x:Int):A8 BJ×Int:=match Iz t x with
 |some y=>(y.before,bif y.err != 0 then 2 else 4)
 |none=>([],0)
section
variable {l:A8 AV} {c:Int}
def ahc (u:Pq l=some c) (h:c=0->Lm l) (id:Int):aID l id=some (aI1 (Jo l c) id):=by
 unfold aID;refine eP.eq ((run_eq l u h).bind fun o z=>?_);rcases z with⟨j,rfl⟩|⟨j,_,T,rfl,q⟩
 ·rw[j];exact .ret rfl
 rw[j];simp only[jd];unfold aQj aTF aI1;rw[q.r,q.b];cases Iz (Fa l) id with
 |none=>exact .ret rfl
 |some y=>
  show eP ((bif y.err != 0 then some 2 else some 4).bind fun I=>some (y.before,I)) (fun r=>r=(y.before,bif y.err != 0 then 2 else 4));cases y.err != 0<;>exact .ret rfl
def aZ5 (u:Pq l=some c) (h:c=0->Lm l):qw l=some (F7 l (Jo l c)):=by
 unfold qw;refine eP.eq ((run_eq l u h).bind fun o j=>?_);rcases j with⟨q,rfl⟩|⟨q,j,T,rfl,z⟩
 ·rw[q,aFH];exact .ret rfl
 rw[q];show eP ((Zn T.1 T.2.1 T.2.2 l).bind _) _;rw[aRU z j.len];exact .ret rfl
end
def ajs {l:A8 AV} {c:Int} (q:Qw l=some c) (h:c=0->Lm l):jO l=some (c==0&&KG l==0):=by
 unfold jO;rw[q,Ad];cases u:c==0 with
 |false=>rfl
 |true=>
  have j:=h (eq_of_beq u);rw[Bz,aWb l j.len j.small j.dep];rfl
def ae9 {l:A8 AV} (hd:KG l=0):Jo l 0=Fa l:=by unfold Jo;rw[hd];rfl
def Sv (l:A8 AV) (e:AV):Nat:=l.findIdx fun x=> !decide (x.Id<e.Id)
def XI (l:A8 AV) (e:AV):A8 AV:=l.take (Sv l e)++e::l.drop (Sv l e)
def atd (e x:AV):AZ:= !(x.Room.toList==e.Room.toList)
def agC (l:A8 AV) (e:AV):Sv l e<=l.length:=tC
def aln (l:A8 AV) (e:AV):(XI l e).length=l.length+1:=by
 have :=agC l e;unfold XI;rw[En,HY,GK,L6];omega
def aNQ {l:A8 AV} {e x:AV}:x∈XI l e↔x=e\/x∈l:=by
 unfold XI;rw[Iy,FK];constructor
 ·rintro(h|h|h)
  ·exact .inr (lN h)
  ·exact .inl h
  exact .inr (qY h)
 rintro(h|h)
 ·exact .inr (.inl h)
 rw[←Rs (Sv l e) l]at h;rcases Iy.1 h with h|h
 ·exact .inl h
 exact .inr (.inr h)
section
variable {l:A8 AV} {e:AV} (hl:l.length <= 1000)
include hl
end
end
section
set_option maxHeartbeats 1000000
def aQA {α:Type} (f:α->Int):∀L:A8 α,L≠[]->∃x∈L,∀y∈L,f y<=f x
 | [],h=>absurd rfl h
 | [a],_=>⟨a,H8 ..,fun y j=>by rw[Md.1 j];exact Yi _⟩
 |a::b::L,_=>by
  obtain⟨x,q,h⟩:=aQA f (b::L) (List.cons_ne_nil _ _);by_cases u:f x<=f a
  ·refine⟨a,H8 ..,fun y j=>?_⟩;rcases FK.1 j with rfl|j
   ·exact Yi _
   exact Int.le_trans (h y j) u
  refine⟨x,IG _ q,fun y j=>?_⟩;rcases FK.1 j with rfl|j
  ·omega
  exact h y j
def aQE {l:A8 AV} {ids:A8 Int} {x:Int}:x∈IU l ids↔x∈ids/\∀y∈ids,JF l x y=false:=by
 unfold IU;rw[Hy,KN,ND,List.any_eq_false];exact⟨fun⟨a,b⟩=>⟨a,fun y j=>by simpa using b y j⟩,fun⟨a,b⟩=>⟨a,fun y j=>by simp[b y j]⟩⟩
def ajC (l:A8 AV) (ids:A8 Int):Inc (IU l ids):=(KW ids).sublist Qo
def aYy {l:A8 AV} (hd:KG l=0) {ids:A8 Int} {x:Int} (j:x∈ids) (h:∀y∈ids,(ev l y).Depth<=(ev l x).Depth):x∈IU l ids:=by
 refine aQE.2 ⟨j,fun y q=>?_⟩;unfold JF;cases u:dQ l y with
 |false=>rfl
 |true=>
  cases z:ER (ev l y).bI x with
  |false=>rw[Gw,Bool.and_false]
  |true=>
   have :=((aYi hd (NW (OL u).1)).2 x (LZ.1 z)).2;have :=h y q;omega
def aOy {l:A8 AV} (hd:KG l=0) {ids:A8 Int} (h:ids≠[]):IU l ids≠[]:=by
 obtain⟨x,j,hm⟩:=aQA (fun y=>(ev l y).Depth) ids h;exact fun e=>by have :=aYy hd j hm;rw[e]at this;cases this
def afo {α:Type} {lt:α->α->AZ} (hi:∀a,lt a a=false) (ha:∀a b,lt a b=true->lt b a=false) {S:A8 α} (h:S.Pairwise fun a b=>lt a b=true) {i:Nat} (hl:i<S.length):(S.filter (lt S[i])).length=S.length-1-i:=by
 have e:S=S.take (i+1)++S.drop (i+1):=(Rs ..).symm;have hp:=h;rw[e,lM]at hp
 have I:(S.take (i+1)).filter (lt S[i])=[]:=by
  rw[rP];intro a u;obtain⟨j,z,rfl⟩:=I5 u;rw[GK]at z;rw[kP];rcases xG j i with q|q
  ·rw[ha _ _ (KC.1 h j i AB hl q)];exact Bool.false_ne_true
  have :j=i:=AB
  subst this;rw[hi];exact Bool.false_ne_true
 have J:(S.drop (i+1)).filter (lt S[i])=S.drop (i+1):=by
  rw[nC];intro a u;obtain⟨j,z,rfl⟩:=I5 u;rw[L6]at z;rw[iO];exact KC.1 h i (i+1+j) hl AB AB
 have L:S.filter (lt S[i])=S.drop (i+1):=by
  generalize S[i]=x at I J
  calc S.filter (lt x)=(S.take (i+1)++S.drop (i+1)).filter (lt x):=by rw[Rs]
   _=S.drop (i+1):=by rw[Py,I,J,Iq]
 rw[L,L6];omega
def Wh (l:A8 AV) (hs:A8 Int) (x:Int):Nat:=(hs.filter fun y=>Ii (ev l x) (ev l y)).length
def MV (l:A8 AV) (hs:A8 Int):A8 Int:=hs.filter fun x=>Wh l hs x<10
def ac0 {l:A8 AV} {hs:A8 Int} (h:Inc hs):Inc (MV l hs):=h.sublist Qo
def rM {l:A8 AV}:∀{hs:A8 Int},(∀x∈hs,dQ l x=true)->ofIds l hs=hs.map (ev l)
 | [],_=>rfl
 |x::hs,h=>by
  have j:=rM (hs:=hs) fun y q=>h y (IG _ q);unfold ofIds at j ⊢;rw[QM,(OL (h x (H8 ..))).1,j];rfl
def ad4 (a:AV):Ii a a=false:=by unfold Ii;simp
def abZ (a b:AV) (h:Ii a b=true):Ii b a=false:=by
 unfold Ii at *;simp only[ZN,I8,Du,PU]at h;rw[ZA,tZ,Qv,Qv,SE];omega
def aEB {l:A8 AV} {hs:A8 Int} (q:∀x∈hs,dQ l x=true) {S:A8 AV} (hp:S.Perm (ofIds l hs)) (I:S.Pairwise fun a b=>Ii a b=true) {i:Nat} (hi:i<S.length):ev l S[i].Id=S[i]/\S[i].Id∈hs/\Wh l hs S[i].Id=S.length-1-i:=by
 have hm:S[i]∈ofIds l hs:=hp.mem_iff.1 (Ew hi);rw[rM q]at hm hp;obtain⟨x,u,e⟩:=Fh.1 hm;have j:S[i].Id=x:=by rw[←e];exact(OL (q x u)).2
 have z:ev l S[i].Id=S[i]:=by rw[j];exact e
 refine⟨z,by rw[j];exact u,?_⟩;unfold Wh;rw[z];have J:(hs.filter fun y=>Ii S[i] (ev l y)).length=((hs.map (ev l)).filter (Ii S[i])).length:=by rw[List.filter_map,Dc];rfl
 rw[J,←(hp.filter _).length_eq,afo ad4 abZ I hi]
def ac1 {l:A8 AV} {hs:A8 Int} (M:Inc hs) (z:∀x∈hs,dQ l x=true) {S:A8 AV} (hp:S.Perm (ofIds l hs)) (J:S.Pairwise fun a b=>Ii a b=true):Ee ((S.drop (S.length-10)).map (·.Id))=MV l hs:=by
 refine Ci (KW _) (ac0 M) fun x=>?_;unfold MV;rw[KN,Hy,I8,Fh];constructor
 ·rintro⟨e,O,rfl⟩;obtain⟨j,U,rfl⟩:=I5 O;rw[L6]at U;rw[iO];obtain⟨_,Y,I⟩:=aEB z hp J (i:=S.length-10+j) AB;exact⟨Y,by rw[I];omega⟩
 rintro⟨L,hm⟩;have q:ev l x∈S:=by rw[hp.mem_iff,rM z];exact Fh.2 ⟨x,L,rfl⟩
 have u:=(OL (z x L)).2;obtain⟨i,hi,e⟩:=I5 q;obtain⟨_,_,I⟩:=aEB z hp J hi;rw[e,u]at I;refine⟨ev l x,?_,u⟩;have :i-(S.length-10)<(S.drop (S.length-10)).length:=a1j
 refine List.mem_iff_getElem.2 ⟨i-(S.length-10),this,?_⟩;rw[iO,←e];congr 1;omega
def Wp (l:A8 AV) (ids:A8 Int):Int:=ids.foldl (fun d x=>max d ((ev l x).Depth+1)) 0
def foldl_max {α:Type} (f:α->Int):∀(L:A8 α) (a:Int),a<=L.foldl (fun d x=>max d (f x)) a/\(∀x∈L,f x<=L.foldl (fun d x=>max d (f x)) a)/\(L.foldl (fun d x=>max d (f x)) a=a\/∃x∈L,L.foldl (fun d x=>max d (f x)) a=f x)
 | [],a=>⟨Yi _,fun x h=>absurd h G5,.inl rfl⟩
 |y::L,a=>by
  obtain⟨z,I,j⟩:=foldl_max f L (max a (f y));rw[Gt];have J:a<=max a (f y):=Int.le_max_left ..;have M:f y<=max a (f y):=Int.le_max_right ..;refine⟨Int.le_trans J z,fun x u=>?_,?_⟩
  ·rcases FK.1 u with rfl|u
   ·exact Int.le_trans M z
   exact I x u
  rcases j with j|⟨x,u,j⟩
  ·rcases Int.le_total a (f y)with q|q
   ·exact .inr ⟨y,H8 ..,by rw[j,Int.max_eq_right q]⟩
   exact .inl (by rw[j,Int.max_eq_left q])
  exact .inr ⟨x,IG _ u,j⟩
def akH {α β:Type} {f:α->Int} {g:β->Int} {L:A8 α} {M:A8 β} {a b:Int} (j:L≠[]) (O:∀x∈L,∃y∈M,f x=g y) (h2:∀y∈M,∃x∈L,f x=g y) (ha:∀x∈L,a<=f x) (hb:∀y∈M,b<=g y):L.foldl (fun d x=>max d (f x)) a=M.foldl (fun d x=>max d (g x)) b:=by
 obtain⟨p1,U,p3⟩:=foldl_max f L a;obtain⟨q1,Y,q3⟩:=foldl_max g M b;obtain⟨z,q⟩:=List.exists_mem_of_ne_nil _ j;obtain⟨w,Z,ew⟩:=O z q;have r1:=U z q;have r2:=ha z q;have r3:=Y w Z;have r4:=hb w Z
 have le1:L.foldl (fun d x=>max d (f x)) a<=M.foldl (fun d x=>max d (g x)) b:=by
  rcases p3 with e|⟨x,u,e⟩
  ·rw[e];omega
  obtain⟨y,I,J⟩:=O x u;rw[e,J];exact Y y I
 have Ig:M.foldl (fun d x=>max d (g x)) b<=L.foldl (fun d x=>max d (f x)) a:=by
  rcases q3 with e|⟨y,I,e⟩
  ·rw[e];omega
  obtain⟨x,u,J⟩:=h2 y I;rw[e,←J];exact U x u
 omega
def Nk (s:A8 BJ) (k:BJ):Option Int:=(s.find? fun x=>Gz x k).map (·.Id)
def Ro (e:AV) (s:A8 BJ):A8 Int:=Ee ((keysOf e).filterMap (Nk s))
def ada (e:AV) (s:A8 BJ):(Ro e s).length<=5:=by
 have j:=MG ((keysOf e).filterMap (Nk s));have q:=aGJ (Nk s) (keysOf e);have u:=RS e;unfold Ro;omega
end
section
set_option maxHeartbeats 1000000
section
variable {l m:A8 AV} {s:A8 BJ} {e:AV} (hp:JU l s) (hA:e.bQ = Ro e s) (hm:∀ a ∈ e.bQ, Ef m a = Ef l a)
include hp hA hm
end
def anM {l:A8 AV} {e:AV} (hi:Inc (l.map (·.Id))) (U:e.Id∉l.map (·.Id)):Inc ((XI l e).map (·.Id)):=by
 have hp:l.Pairwise fun a b=>a.Id<b.Id:=cD.1 hi;have I:∀x∈l,x.Id≠e.Id:=fun x q h=>U (Fh.2 ⟨x,q,h⟩)
 have L:∀x∈l.take (Sv l e),x.Id<e.Id:=fun x q=>by
  obtain⟨j,z,rfl⟩:=I5 q;rw[GK]at z;rw[kP];have :=aJV (p:=fun x:AV=> !decide (x.Id<e.Id)) (xs:=l) (i:=j) (by unfold Sv at z;omega);simpa using this
 have M:∀x∈l.drop (Sv l e),e.Id<x.Id:=fun x q=>by
  obtain⟨j,z,rfl⟩:=I5 q;rw[L6]at z;rw[iO];have u:Sv l e<l.length:=AB
  have Z:¬(l[Sv l e].Id<e.Id):=by
   show ¬(l[l.findIdx fun x=> !decide (x.Id<e.Id)].Id<e.Id);have :=aAv (p:=fun x:AV=> !decide (x.Id<e.Id)) (xs:=l) (w:=u);simpa using this
  have Y:l[Sv l e].Id<=l[Sv l e+j].Id:=by
   rcases XP j with rfl|O
   ·exact Yi _
   exact Int.le_of_lt (KC.1 hp _ _ u AB AB)
  have :=I _ (Ew (show Sv l e+j<l.length by omega));omega
 unfold Inc;rw[cD];unfold XI;rw[lM,Pj];refine⟨hp.sublist (aFv ..),⟨M,hp.sublist (aA1 ..)⟩,fun a ha b J=>?_⟩;rcases FK.1 J with rfl|J
 ·exact L a ha
 exact Int.lt_trans (L a ha) (M b J)
structure ZT (l:List AV) (e:AV):Prop where
 facts:V8 l
 len:l.length<=50
 deep:KG l=0
 ver:∀x∈l,WX x=some 0
 fresh:dQ l e.Id=false
 good:WX e=some 0
 small:FD e
 room:∀x∈l,x.Room=e.Room
 prev:e.bI=IU l (F7 l (Fa l))
 some_:F7 l (Fa l)≠[]
 low:∀x∈e.bI,(ev l x).Depth<e.Depth
 next:∃x∈e.bI,(ev l x).Depth=e.Depth-1
 auth:e.bQ=Ro e (Ic l (Fa l))
section
variable {l:A8 AV} {e:AV} (h:ZT l e)
include h
theorem ZT.ok:Lm l:=h.facts.ok aKt
theorem ZT.aHN:iZ e:=by
 obtain⟨c,c1,c2,c3⟩:=aLf h.small.wide;rw[h.good]at c2;exact(c3 (Dq c2).symm).1
theorem ZT.aGY:e.Id∉l.map (·.Id):=fun hm=>by have :=aE4.2 hm;rw[h.fresh]at this;cases this
theorem ZT.aF5:V8 (XI l e):=by
 refine⟨fun x j=>?_,fun x j y J=>?_,anM h.facts.inc h.aGY⟩
 ·rcases aNQ.1 j with rfl|j
  ·exact⟨h.aHN,h.small⟩
  exact h.facts.ev x j
 rcases aNQ.1 j with z|q<;>rcases aNQ.1 J with I|u
 ·rw[z,I]
 ·rw[z];exact(h.room y u).symm
 ·rw[I];exact h.room x q
 exact h.facts.room x q y u
theorem ZT.len':(XI l e).length<=51:=by have :=h.len;rw[aln];omega
theorem ZT.ok':Lm (XI l e):=h.aF5.ok (by have :=h.len';omega)
end
end
section
def aDO {α:Type} {body:(Int->AL AZ)->Int->AL AZ} (l:A8 α) (hl:l.length<=1000) (rest:AL AZ) (j:∀k (i:Nat) (h:i<l.length),body k (i:Int)=k (Aw ((i:Int)+1))) (q:∀k,body k (l.length:Int)=rest):bJ body Ap 0=rest:=by
 have key:∀n (i:Nat),i+n=l.length->∀m,n<m->bJ body m (i:Int)=rest:=by
  intro n
  induction n with
  |zero=>
   intro i hi m hm;obtain⟨m,rfl⟩:∃k,m=k+1:=⟨m-1,AB⟩
   rw[show i=l.length by omega];exact q _
  |succ n u=>
   intro i hi m hm;obtain⟨m,rfl⟩:∃k,m=k+1:=⟨m-1,AB⟩
   have :=j (bJ body m) i AB;rw[wrap_succ i AB]at this;exact this.trans (u (i+1) AB m AB)
 exact key l.length 0 AB Ap (fuel_lt AB)
def aC7 (n:Int):(n != n)=false:=Bh
def aT3 {l:A8 Int} (h:l.length<=1000):ou l l=some true:=by
 unfold ou aVI;rw[aC7,BX];exact aDO l h _ (fun k i h=>by simp only[aIS,dec_lt h,Bz,Cx h,Ad,QG,BX]) (fun k=>by simp only[aIS,Dy,BX])
def aYG {l:A8 BD} (h:l.length<=1000):TT l l=some true:=by
 unfold TT aDl;rw[aC7,BX];exact aDO l h _ (fun k i h=>aWv) (fun k=>aNn)
def aa1 {l:Cc} (j:l.Users.length<=1000) (q:l.Kinds.length<=1000):Vx l l=some true:=by
 have u:ZG l l 0=some true:=by
  unfold ZG;exact aDO l.Kinds q _ (fun k i h=>by simp only[nH,dec_lt h,Bz,Cx h,Ad,QG,BX,qj]) (fun k=>by simp only[nH,Dy,BX,TW,Bz,Ad])
 unfold Vx;rw[aC7,aC7,BX,Ad,BX];unfold yF;exact aDO l.Users j _ (fun k i h=>by simp only[mO,dec_lt h,Bz,Cx h,Ad,TW,FB,QG,BX,qB]) (fun k=>by simp only[mO,Dy,BX];exact u)
def aZK {c:D6} (j:c.Allow.length<=1000) (q:c.gJ.length<=1000) (u:c.Levels.Users.length<=1000) (z:c.Levels.Kinds.length<=1000):Tz c c=some true:=by
 unfold Tz;simp only[TW,Bz,Ad,aYG j,aYG q,aa1 u z]
def aVj {e:AV} (h:FD e):yh e e=some true:=by
 have :=h.prev;have :=h.auth;have j:=h.allow;have q:=h.deny;have u:=h.users;have z:=h.kinds;unfold yh;simp only[TW,Bz,Ad,aT3 (l:=e.bI) AB,aT3 (l:=e.bQ) AB,aZK (c:=e.Content) AB AB AB AB]
end
section
set_option maxRecDepth 20000
set_option maxHeartbeats 1000000
section
variable {l:A8 AV} {s:A8 BJ} (hl:l.length <= 100) (hsm:E9 l) (hs:s.length <= 100)
include hl hsm hs
end
structure xu (l:List AV) (t:List F6):Prop where
 len:l.length<=100
 small:E9 l
 at_:∀id,aID l id=some (aI1 t id)
 acc:qw l=some (F7 l t)
 tbl:nP l=some (t.map KR)
 tok:N9 l t
 aHO:t.length<=l.length
 nd:t≠[]->(l.map (·.Id)).Nodup
def ah7 {l:A8 AV} {c:Int} (hs:E9 l) (hl:l.length<=100) (c1:Pq l=some c) (c2:Qw l=some c) (c3:c=0->V8 l):xu l (Jo l c):=by
 have j:c=0->Lm l:=fun q=>(c3 q).ok hl;obtain⟨z,I,J⟩:=aUL c2 j;refine⟨hl,hs,ahc c1 j,aZ5 c1 j,z,I,J,fun u=>?_⟩;unfold Jo at u;by_cases q:c=0
 ·exact(j q).nodup
 rw[SE.2 q]at u;exact absurd rfl u
def ahE {l:A8 AV} (hs:E9 l) (hl:l.length<=100):∃c,xu l (Jo l c)/\Pq l=some c/\Qw l=some c/\(c=0->V8 l):=by
 obtain⟨c,c1,c2,c3⟩:=ahZ (fun e j=>(hs e j).wide) hl;exact⟨c,ah7 hs hl c1 c2 c3,c1,c2,c3⟩
section
variable {l:A8 AV} {t:A8 F6} (h:xu l t)
include h
end
end
section
set_option maxRecDepth 20000
set_option maxHeartbeats 1000000
def ai6 (l:A8 AV) (hl:l.length<=1000):kJ l=some (l.map (·.Id)):=by
 unfold kJ;have j:Iw 8 (0:Int) 0 (l.length:Int)=some []:=aSQ
 rw[j,Ad];unfold aP1;refine eP.eq (JX l.length (fuel_lt AB) (fun i a=>a=(l.take i).map (·.Id)) rfl (fun i a k hi ha q=>?_) fun a k ha=>?_)
 ·have u:a.length<=1000:=jP
  unfold aLA;rw[DR hi,EC GZ,Ad,wrap_succ i AB];exact q _ xw
 rw[Gg]at ha;unfold aLA;rw[Dy,BX,ha];exact .ret rfl
section
variable {l:A8 AV} {t:A8 F6} (h:xu l t)
include h
end
end
section
set_option maxRecDepth 20000
set_option maxHeartbeats 1000000
def aFQ :jM=some true:=AA
def aR5 (x y:Int):Pv x y=max x y:=by
 unfold Pv;by_cases h:y>x
 ·rw[JG h,Bz,Int.max_eq_right AB]
 rw[JK h,BX,Int.max_eq_left AB]
def akI (a b:AV):Ig (F9 a) (F9 b)= !Ii b a:=by
 rw[Ph,kL,ND];unfold Ii F9;rw[ZA,tZ,Qv,Qv,SE];simp only;omega
def aVd :∀{L:A8 AV},(L.map (·.Id)).Nodup->ay (L.map F9)=true
 | [],_=>rfl
 |e::L,h=>by
  rw[JR,NY]at h;rw[JR];unfold ay;rw[aVd h.2,Nq,ND];cases j:(L.map F9).contains (F9 e)with
  |false=>rfl
  |true=>
   exfalso;have hm:F9 e∈L.map F9:=WV
   obtain⟨y,u,q⟩:=Fh.1 hm;exact h.1 (Fh.2 ⟨y,u,BK Prod.snd q⟩)
def aQt {l:A8 AV} {hs:A8 Int} (j:∀x∈hs,dQ l x=true):(ofIds l hs).map (·.Id)=hs:=by
 rw[rM j,Yx]
 conv=>rhs;rw[←List.map_id hs]
 exact aMd fun x q=>(OL (j x q)).2
def akp {l:A8 AV} {hs:A8 Int} (I:Inc hs) (J:∀x∈hs,dQ l x=true) (hl:hs.length<=1000):∃S,fG (ofIds l hs)=some S/\S.Perm (ofIds l hs)/\S.Pairwise fun a b=>Ii a b=true:=by
 have q:((ofIds l hs).map (·.Id)).Nodup:=by rw[aQt J];exact VQ I
 have hlen:=Z8 l hs;have hp:=V4 (fun x y=>Ig (F9 x) (F9 y)) (ofIds l hs);refine⟨MZ (fun x y=>Ig (F9 x) (F9 y)) (ofIds l hs),?_,hp,?_⟩
 ·unfold fG;rw[Di ⟨AB,aVd q⟩]
 have L:=aAG (le:=fun x y=>Ig (F9 x) (F9 y)) (fun x y z=>aNv (F9 x) (F9 y) (F9 z)) (fun x y=>aPA (F9 x) (F9 y)) (ofIds l hs);have u:((MZ (fun x y=>Ig (F9 x) (F9 y)) (ofIds l hs)).map (·.Id)).Nodup:=(hp.map _).nodup_iff.2 q;rw[a1i,cD]at u;refine(L.and u).imp fun{a b} ⟨j,M⟩=>?_;rw[akI,ND]at j;unfold Ii at j ⊢;rw[ZA,tZ,Qv,Qv,SE]at j;simp only[ZN,I8,Du,PU];omega
def ama {l:A8 AV} {hs:A8 Int} (hl:l.length<=1000) (hi:hs.length<=1000) {S:A8 AV} (h:fG (ofIds l hs)=some S) (J:S.length<=1000):aBv l hs=some (S.drop (S.length-10)):=by
 unfold aBv aHZ;rw[aUb l hs hl AB,Ad,h,Ad]
 have hm:VJ (S.length:Int) 10=((min S.length 10:Nat):Int):=by
  unfold VJ;by_cases q:(10:Int)<(S.length:Int)
  ·rw[JG q,Bz];omega
  rw[JK q,BX];omega
 rw[hm]
 have j:Iw 376 DI ((min S.length 10:Nat):Int) ((min S.length 10:Nat):Int)=some (List.replicate (min S.length 10) DI):=by
  unfold Iw;rw[Di ⟨AB,Yi _,AB⟩,ZX]
 have z:Aw ((S.length:Int)-((min S.length 10:Nat):Int))=((S.length-10:Nat):Int):=by
  rw[O8 AB AB];omega
 rw[j,Ad,z,Uj AB,Ad];unfold gCopy;have u:(S.drop (S.length-10)).length=min S.length 10:=a1j
 have I:(List.replicate (min S.length 10) DI).drop (min S.length 10)=[]:=aDF (by rw[List.length_replicate];exact EZ _);rw[List.length_replicate,Qj (aV u),u,I,PK]
def aiF {l:A8 AV} {hs:A8 Int} (hl:l.length<=1000) (hi:hs.length<=1000):a0O l hs=some (MV l hs):=by
 unfold a0O aOU;refine eP.eq (JX hs.length (fuel_lt AB) (fun i a=>a=(hs.take i).filter fun x=>Wh l hs x<10) rfl (fun i a k u ha U=>?_) fun a k ha=>?_)
 ·have hal:a.length<=1000:=by
   rw[ha];have :=Jr (fun x=>Wh l hs x<10) (hs.take i);rw[GK]at this;omega
  unfold aId;rw[DR u,Lc l _ AB,Ad];unfold aVC;refine Qr (body:=aLh hs l (He l hs[i]) (i:Int) k) (Q:=_) (fun m Y I J=>∃j:Nat,I=j/\j+m=hs.length/\Y=(((hs.take j).filter fun y=>Ii (ev l hs[i]) (ev l y)).length:Int)/\J=a) ?_ Ap hs.length 0 0 a (fuel_lt AB) ⟨0,rfl,AB,rfl,rfl⟩;rintro m Y I J f ⟨j,rfl,hm,rfl,rfl⟩ Z
  have M:((hs.take j).filter fun y=>Ii (ev l hs[i]) (ev l y)).length<=1000:=by
   have :=Jr (fun y=>Ii (ev l hs[i]) (ev l y)) (hs.take j);rw[GK]at this;omega
  unfold aLh;by_cases hj:j<hs.length
  ·rw[DR hj,Lc l _ AB,Ad]
   have hc:(bif (He l hs[j]).1.Depth>(He l hs[i]).1.Depth then some true else(bif ((He l hs[j]).1.Depth==(He l hs[i]).1.Depth)then some (decide ((He l hs[j]).1.Id>(He l hs[i]).1.Id))else some false).bind fun z=>some z)=some (Ii (ev l hs[i]) (ev l hs[j])):=by
    show(bif (ev l hs[j]).Depth>(ev l hs[i]).Depth then some true else(bif ((ev l hs[j]).Depth==(ev l hs[i]).Depth)then some (decide ((ev l hs[j]).Id>(ev l hs[i]).Id))else some false).bind fun z=>some z)=_;unfold Ii;have e1:((ev l hs[j]).Depth==(ev l hs[i]).Depth)=((ev l hs[i]).Depth==(ev l hs[j]).Depth):=by rw[Ph,PU,PU];exact⟨fun h=>h.symm,fun h=>h.symm⟩
    rw[e1];show(bif (ev l hs[i]).Depth<(ev l hs[j]).Depth then _ else _)=_;cases decide ((ev l hs[i]).Depth<(ev l hs[j]).Depth)<;>cases(ev l hs[i]).Depth==(ev l hs[j]).Depth<;>rfl
   rw[hc,Ad];have q:=uM (p:=fun y=>Ii (ev l hs[i]) (ev l y)) hj;cases L:Ii (ev l hs[i]) (ev l hs[j])with
   |true=>
    rw[Bz];unfold zA;refine Z (m-1) _ _ _ AB ⟨j+1,wrap_succ j AB,AB,?_,rfl⟩;rw[wrap_succ _ AB,q,L,En];rfl
   |false=>
    rw[BX];unfold zA;refine Z (m-1) _ _ _ AB ⟨j+1,wrap_succ j AB,AB,?_,rfl⟩;rw[q,L];simp
  have :j=hs.length:=AB
  subst this;rw[Gg]at M;rw[Dy,BX,Gg];have O:(((hs.filter fun y=>Ii (ev l hs[i]) (ev l y)).length:Int)<10)↔Wh l hs hs[i]<10:=by unfold Wh;omega
  have q:=uM (p:=fun x=>Wh l hs x<10) u;rw[jU.2 O];unfold aDn;cases L:decide (Wh l hs hs[i]<10)with
  |true=>
   rw[Bz,Cx u,Ad,EC GZ,Ad,wrap_succ i AB];exact U _ (by rw[q,L,ha];rfl)
  |false=>
   rw[BX,wrap_succ i AB];exact U _ (by rw[q,L,ha];simp)
 rw[Gg]at ha;unfold aId;rw[Dy,BX,ha];exact .ret rfl
def ad3 {L:A8 Int} (h:L.Nodup):Qc L=Ee L:=by
 have q:=tH L;have j:(Qc L).Nodup:=(UJ L).nodup_iff.2 h;rw[a1i]at j;refine Ci ((q.and j).imp fun{a b} h=>AB) (KW L) fun x=>?_;rw[(UJ L).mem_iff,KN]
def aVt {e:AV} {s:A8 BJ} {i:Nat} (h:i<(keysOf e).length):((keysOf e).take (i+1)).filterMap (Nk s)=((keysOf e).take i).filterMap (Nk s)++(Nk s (keysOf e)[i]).toList:=by
 rw[Ot h,Zw,QM,aLT];cases Nk s (keysOf e)[i]<;>rfl
def aM1 (e:AV) (s:A8 BJ) (i:Nat):(((keysOf e).take i).filterMap (Nk s)).length<=5:=by
 have j:=aGJ (Nk s) ((keysOf e).take i);have q:=RS e;rw[GK]at j;omega
def aOo {α:Type} {p:α->AZ} {L:A8 α} {j:Nat} (q:j<L.length) (h:(L.take j).find? p=none) (u:p L[j]=true):L.find? p=some L[j]:=
 calc L.find? p=(L.take j++L.drop j).find? p:=by rw[Rs]
  _=some L[j]:=by rw[Zt,h,Lh q,VD,u];rfl
def akt (k x:BJ):yU (J3 k) x=some (Gz x k):=by
 unfold yU J3 Gz;simp only;rw[Ir];cases x.Kind==k.Kind<;>rfl
def ahz (e:AV) (s:A8 BJ) (hs:s.length<=1000):kn e s=some (Ro e s):=by
 unfold kn;rw[aND,Ad];have U:=RS e;have z:((keysOf e).map J3).length=(keysOf e).length:=Dc ..;unfold aQd;refine eP.eq (JX ((keysOf e).map J3).length (fuel_lt AB) (fun i a=>a=((keysOf e).take i).filterMap (Nk s)) rfl (fun i a k hi ha Y=>?_) fun a k ha=>?_)
 ·have I:i<(keysOf e).length:=AB
  have J:a.length<=5:=by rw[ha];exact aM1 e s i
  unfold aM4;rw[DR hi,TV];unfold aSk;have hst:=aVt (s:=s) I
  have u:∀r,r=((keysOf e).take (i+1)).filterMap (Nk s)->eP (vP k (i:Int) r) (· =Ro e s):=fun r Z=>by
   unfold vP;rw[wrap_succ i AB];exact Y _ Z
  refine JX s.length (fuel_lt AB) (fun j b=>b=a/\(s.take j).find? (fun x=>Gz x (keysOf e)[i])=none) ⟨rfl,rfl⟩ (fun j b f L q hf=>?_) fun b f q=>?_
  ·obtain⟨rfl,q⟩:=q;unfold aJK;rw[DR L];simp only;rw[akt,Ad];cases O:Gz s[j] (keysOf e)[i]with
   |true=>
    rw[Bz,EC GZ,Ad];refine u _ ?_
    have M:s.find? (fun x=>Gz x (keysOf e)[i])=some s[j]:=by
     exact aOo L q O
    rw[hst,ha];unfold Nk;rw[M];rfl
   |false=>
    rw[BX,wrap_succ j AB];refine hf _ ⟨rfl,?_⟩;rw[Ot L,Zt,q,VD,O];rfl
  obtain⟨rfl,q⟩:=q;unfold aJK;rw[Dy,BX];refine u _ ?_;rw[Gg]at q;rw[hst,ha];unfold Nk;rw[q,aFP,aIu,PK]
 rw[z,Gg]at ha;unfold aM4;have J:a.length<=5:=by rw[ha];have :=aM1 e s (keysOf e).length;rwa [Gg]at this
 rw[Dy,BX,ZM _ AB,Ad,ha];exact .ret rfl
def alD (e:AV) (s:A8 BJ) (hs:s.length<=1000):uy e s=some (Ro e s):=by
 unfold uy;rw[aD4,Ad];have Y:=RS e;unfold aPI;refine eP.eq (JX (keysOf e).length (fuel_lt AB) (fun i a=>a=Ee (((keysOf e).take i).filterMap (Nk s))) rfl (fun i a k hi ha Z=>?_) fun a k ha=>?_)
 ·have hal:a.length<=5:=by
   rw[ha];exact FC (MG _) (aM1 e s i)
  have hst:=aVt (s:=s) hi
  have q:∀r,r=Ee (((keysOf e).take (i+1)).filterMap (Nk s))->eP (k r (Aw ((i:Int)+1))) (· =Ro e s):=fun r hr=>by
   rw[wrap_succ i AB];exact Z _ hr
  unfold aLP;rw[dec_lt hi,Bz];unfold aSP;refine Qr (body:=aKo s (keysOf e) (i:Int) k) (Q:=_) (fun m b c d=>∃j:Nat,d=j/\j+m=s.length/\((c=false/\b=a/\(s.take j).find? (fun x=>Gz x (keysOf e)[i])=none)\/(c=true/\b=Ee (((keysOf e).take (i+1)).filterMap (Nk s))))) ?_ Ap s.length a false 0 (fuel_lt AB) ⟨0,rfl,AB,.inl ⟨rfl,rfl,rfl⟩⟩;rintro m b c d f ⟨j,rfl,hm,hI⟩ O;unfold aKo;rcases hI with⟨rfl,rfl,J⟩|⟨rfl,rfl⟩
  ·by_cases u:j<s.length
   ·rw[dec_lt u,Bz,Ad,JC,Bz,Cx u,Ad,Cx hi,Ad,Ad,Ad,Ir];have L:(s[j].Kind==(keysOf e)[i].Kind&&(s[j].Key=(keysOf e)[i].Key))=Gz s[j] (keysOf e)[i]:=rfl
    have z:(bif (s[j].Kind==(keysOf e)[i].Kind)then eu s (j:Int) b f false (decide (s[j].Key=(keysOf e)[i].Key))else eu s (j:Int) b f false false)=eu s (j:Int) b f false (Gz s[j] (keysOf e)[i]):=by
     rw[←L];cases s[j].Kind==(keysOf e)[i].Kind<;>rfl
    rw[z];unfold eu a1m;cases U:Gz s[j] (keysOf e)[i]with
    |true=>
     rw[Bz,Cx u,Ad,dz _ _ AB,Ad]
     have M:s.find? (fun x=>Gz x (keysOf e)[i])=some s[j]:=by
      exact aOo u J U
     refine O (m-1) _ _ _ AB ⟨j+1,wrap_succ j AB,AB,.inr ⟨rfl,?_⟩⟩;rw[hst,ha];unfold Nk;rw[M];unfold Ee;rw[Ve];rfl
    |false=>
     rw[BX];refine O (m-1) _ _ _ AB ⟨j+1,wrap_succ j AB,AB,.inl ⟨rfl,rfl,?_⟩⟩;rw[Ot u,Zt,J,VD,U];rfl
   have :j=s.length:=AB
   subst this;rw[Dy,BX,Ad,BX];refine q _ ?_;rw[Gg]at J;rw[hst,ha];unfold Nk;rw[J,aFP,aIu,PK]
  have I:(bif (j:Int)<(s.length:Int) then some (!true)else some false)=some false:=by cases decide ((j:Int)<(s.length:Int))<;>rfl
  rw[I,Ad,BX];exact q _ rfl
 rw[Gg]at ha;unfold aLP;rw[Dy,BX,ha];exact .ret rfl
def roomOf (l:A8 AV):BD:=(l.getD 0 DI).Room
def VE (l:A8 AV) (t:A8 F6) (e:AV):AV:=
 { e with Room:=roomOf l,State:=I7 e.Kind,Depth:=Wp l (MV l (IU l (F7 l t))),bI:=MV l (IU l (F7 l t)),bQ:=Ro e (Ic l t) }
def aSe {l:A8 AV} (h:l≠[]):Ak l 0=some (l.getD 0 DI):=by
 cases l with
 |nil=>exact absurd rfl h
 |cons x l=>rfl
def aMu {α:Type} (g:α->Int) (f:AV->α->AV) (j:∀a x,f a x={ a with Depth:=max a.Depth (g x) }):∀(L:A8 α) (a:AV),L.foldl f a={ a with Depth:=L.foldl (fun d x=>max d (g x)) a.Depth }
 | [],a=>rfl
 |x::L,a=>by rw[Gt,Gt,aMu g f j L,j]
def adw {l:A8 AV} {t:A8 F6} {x:Int} (j:x∈F7 l t):dQ l x=true:=by
 obtain⟨y,q,rfl⟩:=Fh.1 j;exact aE4.2 (Fh.2 ⟨y,(Hy.1 q).1,rfl⟩)
def aXw {l:A8 AV} {t:A8 F6}:∀x∈IU l (F7 l t),dQ l x=true:=fun _ j=>adw (aQE.1 j).1
section
variable {l:A8 AV} {t:A8 F6} {c:Int} (h:xu l t) (c1:Pq l = some c) (c2:Qw l = some c) (c3:c = 0->V8 l) (ht:t = Jo l c)
include h c1 c2 c3 ht
theorem aNy (ha:F7 l t≠[]):c=0/\KG l=0/\t=Fa l:=by
 unfold Jo at ht;cases j:c==0 with
 |false=>rw[j,aLC,BX]at ht;rw[ht,aFH]at ha;exact absurd rfl ha
 |true=>
  cases q:KG l==0 with
  |false=>rw[j,q,Bool.and_false,BX]at ht;rw[ht,aFH]at ha;exact absurd rfl ha
  |true=>rw[j,q]at ht;exact⟨eq_of_beq j,eq_of_beq q,ht⟩
theorem aXt :(Ic l t).length<=100:=by
 have j:c=0->Lm l:=fun q=>(c3 q).ok h.len;have :=(aWD (l:=l) (c:=c) j).length;rw[ht];have :=h.len;omega
theorem aeX (e:AV):Rh l e=some (bif F7 l t==[]then(DI,[],26)else bif Wp l (MV l (IU l (F7 l t)))>100000 then(DI,[],29)else(VE l t e,Ic l t,0)):=by
 have hlen:=h.len;have hal:=Y4 l t;have ho:c=0->Lm l:=fun h0=>(c3 h0).ok hlen;have hcur:=aXt h c1 c2 c3 ht;unfold Rh;rw[h.acc,Ad];by_cases ha:F7 l t=[]
 ·rw[ha];rfl
 have hne:((F7 l t).length:Int)≠0:=fun q=>ha (Hg AB)
 have hb:(F7 l t==[])=false:=by
  cases hq:F7 l t with
  |nil=>exact absurd hq ha
  |cons x L=>rfl
 rw[SE.2 hne,BX,hb,BX,aQJ l _ hlen h.small AB,Ad];obtain⟨k0,kd,kt⟩:=aNy h c1 c2 c3 ht ha;have aHP:l≠[]:=fun q=>ha aE9;have hhl:=nN l (F7 l t);have hH:=ajC l (F7 l t);have J:∀x∈IU l (F7 l t),dQ l x=true:=aXw;have M:=aOy kd ha;unfold VE;generalize IU l (F7 l t)=hs at hhl hH J M;obtain⟨S,s1,Z,s3⟩:=akp hH J AB;have hSl:S.length=hs.length:=by rw[Z.length_eq,rM J,Dc]
 rw[ama AB AB s1 AB,Ad,aSe aHP,Ad,aKb,Ad];have hP:=ac1 hH J Z s3
 have j:∀x∈S.drop (S.length-10),1<=x.Depth/\x.Depth<=100000:=fun x I=>by
  have hm:=Z.mem_iff.1 (qY I);exact(ho k0).dep _ (a0J hm)
 have hnd:((S.drop (S.length-10)).map (·.Id)).Nodup:=by
  have h1:(S.map (·.Id)).Nodup:=by
   have :=(Z.map (·.Id)).nodup_iff.2 (by rw[aQt J];exact VQ hH);exact this
  exact h1.sublist ((aA1 _ _).map _)
 have O:(S.drop (S.length-10)).foldl (fun d x=>max d (x.Depth+1)) 1=Wp l (MV l hs):=by
  unfold Wp;refine akH (fun q=>?_) (fun x I=>?_) (fun y hy=>?_) (fun x I=>?_) (fun y hy=>?_)
  ·have :=BK List.length q;rw[L6,NM]at this;have :0<hs.length:=Za.2 M;omega
  ·refine⟨x.Id,by rw[←hP];exact KN.2 (Fh.2 ⟨x,I,rfl⟩),?_⟩;obtain⟨i,hi,e1⟩:=I5 (qY I);have :=(aEB J Z s3 hi).1;rw[e1]at this;rw[this]
  ·rw[←hP,KN]at hy;obtain⟨x,I,rfl⟩:=Fh.1 hy;refine⟨x,I,?_⟩;obtain⟨i,hi,e1⟩:=I5 (qY I);have :=(aEB J Z s3 hi).1;rw[e1]at this;rw[this]
  ·have :=(j x I).1;omega
  have hk:dQ l y=true:=J y (Hy.1 hy).1;have :=((ho k0).dep _ (NW (OL hk).1)).1;omega
 have hPl:(S.drop (S.length-10)).length<=100:=a1j
 generalize S.drop (S.length-10)=T at hP j hnd O hPl;unfold aUq;rw[jA (body:=aFL T l) T AB (fun(a:AV) x=>{ a with Depth:=max a.Depth (x.Depth+1) }) (fun _ _=>True) (fun v8=>(bif v8.Depth>100000 then some (DI,[],29)else(kJ T).bind fun U=>(Me U).bind fun u=>(bZ l).bind fun z=>(kn ({ v8 with bI:=u }) z).bind fun Y=>some ({ { v8 with bI:=u }with bQ:=Y },z,0))) trivial]
 ·rw[aMu (fun x:AV=>x.Depth+1) _ (fun a x=>rfl)];show(bif decide (T.foldl (fun d x=>max d (x.Depth+1)) 1>100000)then some (DI,[],(29:Int))else(kJ T).bind fun U=>(Me U).bind fun u=>(bZ l).bind fun z=>(kn { e with Room:=roomOf l,State:=I7 e.Kind,Depth:=T.foldl (fun d x=>max d (x.Depth+1)) 1,bI:=u } z).bind fun Y=>some ({ e with Room:=roomOf l,State:=I7 e.Kind,Depth:=T.foldl (fun d x=>max d (x.Depth+1)) 1,bI:=u,bQ:=Y },z,0))=_;rw[O,ai6 T AB,Ad]
  have hso:Me (T.map (·.Id))=some (MV l hs):=by
   unfold Me;rw[Di WL,ad3 hnd,hP]
  have hcu:bZ l=some (Ic l t):=by rw[ht];exact am3 c1 ho
  rw[hso,Ad,hcu,Ad,ahz _ _ AB,Ad];cases decide (Wp l (MV l hs)>100000)<;>rfl
 ·intro k a i hi _;refine⟨trivial,?_⟩;have I:=j _ (Ew hi);unfold aFL;rw[DR hi,aR5,O8 (x:=T[i].Depth+1) AB AB]
 intro k a _;unfold aFL;rw[Dy,BX]
theorem ana :aCY l=some (IU l (F7 l t)):=by
 have hlen:=h.len;have j:=h.aHO;have q:=Y4 l t;unfold aCY zD;rw[h.tbl,Ad,aWJ l t AB AB,Ad,aOP l _ AB h.small AB];rfl
theorem alh (e:AV) (he0:e.Depth=0) (x:Int) (J:U1 (VE l t e)=some x):QA l e=some (bif F7 l t==[]then(DI,26)else bif Wp l (MV l (IU l (F7 l t)))>100000 then(DI,29)else bif x != 0 then(DI,x)else(VE l t e,0)):=by
 have hlen:=h.len;have hal:=Y4 l t;have ho:c=0->Lm l:=fun h0=>(c3 h0).ok hlen;have hcur:=aXt h c1 c2 c3 ht;have u:=ajs c2 ho;unfold QA;rw[ana h c1 c2 c3 ht,Ad,u,Ad];by_cases ha:F7 l t=[]
 ·rw[ha];show((bif !(c==0&&KG l==0)then some true else some (((IU l []).length:Int)==0)).bind _)=_
  have :(bif !(c==0&&KG l==0)then some true else some (((IU l []).length:Int)==0))=some true:=by
   cases(c==0&&KG l==0)<;>rfl
  rw[this];rfl
 have hb:(F7 l t==[])=false:=by
  cases hq:F7 l t with
  |nil=>exact absurd hq ha
  |cons x L=>rfl
 obtain⟨k0,kd,kt⟩:=aNy h c1 c2 c3 ht ha;have O:=aOy kd ha;have U:l≠[]:=fun q=>ha aE9;have hhl:=nN l (F7 l t);have hK:∀x∈IU l (F7 l t),dQ l x=true:=aXw;have hne:((IU l (F7 l t)).length:Int)≠0:=fun q=>O (Hg AB);have hr:(c==0&&KG l==0)=true:=by rw[k0,kd];rfl
 rw[hr,FB,BX,SE.2 hne,Ad,BX,hb,BX,aSe U,Ad,yV,Ad,aiF AB AB,Ad];unfold VE at J ⊢;generalize IU l (F7 l t)=hs at hhl hK J;have hPl:(MV l hs).length<=100:=FC (Jr _ _) AB;have Y:∀x∈MV l hs,1<=(ev l x).Depth/\(ev l x).Depth<=100000:=fun x J=>(ho k0).dep _ (NW (OL (hK x (Hy.1 J).1)).1);have I:Wp l (MV l hs)=(MV l hs).foldl (fun d x=>max d ((ev l x).Depth+1)) 0:=rfl;generalize MV l hs=P at hPl Y J I;unfold aXX;rw[jA (body:=aF3 l) P AB (fun(a:AV) x=>{ a with Depth:=max a.Depth ((ev l x).Depth+1) }) (fun _ a=>a.bI=P) (fun z=>(WA l).bind fun x15=>(uy z x15).bind fun M=>(bif (({ z with bQ:=M }).Depth)>100000 then some (DI,29)else(U1 ({ z with bQ:=M })).bind fun j=>(bif (j != 0)then some (DI,j)else some ({ z with bQ:=M },0)))) rfl]
 ·rw[aMu (fun x:Int=>(ev l x).Depth+1) _ (fun a x=>rfl)];have hcu:WA l=some (Ic l t):=by rw[ht];exact aTG c2 ho hlen h.small
  rw[hcu,Ad,alD _ _ AB,Ad];show(bif decide (P.foldl (fun d x=>max d ((ev l x).Depth+1)) e.Depth>100000)then some (DI,(29:Int))else(U1 { e with Room:=roomOf l,State:=I7 e.Kind,Depth:=P.foldl (fun d x=>max d ((ev l x).Depth+1)) e.Depth,bI:=P,bQ:=Ro e (Ic l t) }).bind fun j=>(bif (j != 0)then some (DI,j)else some ({ e with Room:=roomOf l,State:=I7 e.Kind,Depth:=P.foldl (fun d x=>max d ((ev l x).Depth+1)) e.Depth,bI:=P,bQ:=Ro e (Ic l t) },0)))=_;rw[he0,←I,J,Ad];cases decide (Wp l P>100000)<;>cases x != 0<;>rfl
 ·intro k a i hi Z;refine⟨Z,?_⟩;have J:=Y _ (Ew hi);have hi':i<a.bI.length:=by rw[Z];exact hi
  unfold aF3;rw[DR hi',Lc l _ AB,Ad,aR5];show k _ ({ a with Depth:=max a.Depth (Aw ((ev l a.bI[i]).Depth+1)) })=_;have e1:a.bI[i]=P[i]:=by simp only[Z]
  rw[e1,O8 (x:=(ev l P[i]).Depth+1) AB AB]
 intro k a Z;unfold aF3;rw[Z,Dy,BX]
end
end
end Go.Proofs.YtkkdimcnpacjhaaGreat
