/- Part 3 of the laws' proofs (short forms by wip/shrink2.py). -/
import Derived.Test.YtfmoknlmaldmlaaGreatRa2
set_option linter.defProp false
set_option linter.unnecessarySimpa false
set_option linter.unusedSectionVars false
set_option linter.unusedVariables false
set_option linter.unusedSimpArgs false
namespace Go.Proofs.YtfmoknlmaldmlaaGreat
open Go.RowKit Go.Proofs.Tryz
variable {A:Type}{b:Ad}{u v z:A}
section
variable {P:Cc} {σ:BR} {Q:Exit->BR->Prop} {c:CB} {x y:Code}
def Di (h:(bif b then u else v)=z)(j:u=z->Bo P x σ Q)(q:v=z->Bo P y σ Q)(I:σ.get c=.d (.lit (.bool b)):=by kernel_rfl):Bo P (.cond c x y) σ Q:=
 Bo.cond b I (λe=>j (SK e h)) (λe=>q (RZ e h))
def Bq (h:(bif b then u else v)=z)(j:u=z->Q .normal σ)(q:v=z->Bo P y σ Q)(I:σ.get c=.d (.lit (.bool b)):=by kernel_rfl):Bo P (.cond c .skip y) σ Q:=Di h (λe=>Ew (j e)) q I
def BL (h:(bif b then u else v)=z)(j:u=z->Bo P x σ Q)(q:v=z->Q .normal σ)(I:σ.get c=.d (.lit (.bool b)):=by kernel_rfl):Bo P (.cond c x .skip) σ Q:=Di h j (λe=>Ew (q e)) I
end
section
variable {P:Cc} {ops:Bg Oper} {o:Oper} {rest:A8 Oper} {σ σ':BR} {K:Exit->BR->Prop} {ns:A8 (CB×Ap)} {x:Ap} {es':A8 Bd}
def Dn.f (h:CJ P o ns σ.ents x es')(k:Dn P ops rest (σ.put o.dst x es') K)(j:(ns.map λn=>σ.get n.1)=ns.map (·.2):=by kernel_rfl)(q:LK ops σ o.guard=some true:=by kernel_rfl)(u:(MF ns).all (tmpsOf o).contains=true:=by kernel_rfl):Dn P ops (o::rest) σ K:=Dn.e es' h k rfl j q u
def Fh.f {rs:A8 Ap}{ess:A8 (A8 Bd)}{bs:A8 Ad}(h:CJ P o ns σ.ents x es')(k:Fh P ops rest (σ.put o.dst x es') rs ess bs σ')(j:(ns.map λn=>σ.get n.1)=ns.map (·.2):=by kernel_rfl)(q:LK ops σ o.guard=some true:=by kernel_rfl)(u:(MF ns).all (tmpsOf o).contains=true:=by kernel_rfl):Fh P ops (o::rest) σ (x::rs) (es'::ess) (true::bs) σ':=Fh.e es' h k rfl j q u
end
def ak (h:(bif b then u else v)=z):(b=true/\u=z)\/(b=false/\v=z):=by
 grind
variable {a:A}
def CQ {b:A}(h:some a=some b):a=b:=Dx h
variable {α β γ:Type}{x:AB α}{y:α->AB β}{z:γ}
def gK {f:α->β->AB γ}(h:(x.bind λa=>(y a).bind (f a))=some z):∃a,x=some a/\∃b,y a=some b/\f a b=some z:=by
 obtain⟨a,h1,h⟩:=Dq h;obtain⟨b,h2,h⟩:=Dq h
 grind
variable {δ:Type}{w:α->β->AB δ}
def a3t {f:α->β->δ->AB γ}(h:(x.bind λa=>(y a).bind λb=>(w a b).bind (f a b))=some z):∃a,x=some a/\∃b,y a=some b/\∃d,w a b=some d/\f a b d=some z:=by
 obtain⟨a,h1,b,h2,h⟩:=gK h;obtain⟨d,h3,h⟩:=Dq h
 grind
variable {G:Prop}
def AV {f:α->AB β}{z:β}(h:x.bind f=some z)(k:∀a,x=some a->f a=some z->G):G:=by
 obtain⟨a,h1,h⟩:=Dq h;exact k a h1 h
def Bv {f:α->β->AB γ}(h:(x.bind λa=>(y a).bind (f a))=some z)(k:∀a,x=some a->∀b,y a=some b->f a b=some z->G):G:=by
 obtain⟨a,h1,b,h2,h⟩:=gK h;exact k a h1 b h2 h
def Ho {f:α->β->δ->AB γ}(h:(x.bind λa=>(y a).bind λb=>(w a b).bind (f a b))=some z)(k:∀a,x=some a->∀b,y a=some b->∀d,w a b=some d->f a b d=some z->G):G:=by
 obtain⟨a,h1,b,h2,d,h3,h⟩:=a3t h
 grind
variable {e t:Bz}{j:Bg (Nat×CB)}{len q size:Nat}{x y:CB}{z:BI}{σ:BR}
section
variable {P:Cc} {o:Oper} {es:A8 Bd} {α:Type}
def aX7 {P:Cc}(T:Kn P)(t n:Nat):Ad:=match Pj t T.sl with
 |some e=>match Pj e T.ty with
  |some (_,m)=>Nat.beq m n
  |none=>false
 |none=>false
def BK [T:Kn P]{i:Int}(enc:α->D){l:A8 α}{a:α}(h:Au l i=some a)(j:o.op=.indexAddr t x y:=by exact rfl)(hs:aX7 T t (enc a).cells.length=true:=by kernel_rfl):
 CJ P o [(x,.d (BZ enc l)),(y,.d (.lit (.int .i64 i)))] es (.d (.ref (enc a).cells 0)) es:=by
 unfold aX7 at hs;split at hs
 ·rename_i e h1;split at hs
  ·rename_i agg m h2;exact ZG enc h (T.hsl.mem _ (Nr h1)) (T.hty.mem _ (Nr h2)) (aAk hs).symm j
  cases hs
 cases hs
def BN [T:Kn P](enc:α->D)(l:A8 α)(j:o.op=.call { callee:=.builtin .len,args:= #[x],argTypes:= #[t] }:=by exact rfl)(q:(Pj t T.sl).isSome=true:=by kernel_rfl):
 CJ P o [(x,.d (BZ enc l))] es (.d (Ai l.length)) es:=by
 obtain⟨e,h1⟩:=SA.1 q;exact aZq enc l (T.hsl.mem _ (Nr h1)) j
def EG (hE:GU P t e size q)(J:(P.info? e).bind (·.zero)=some z)(ys:A8 D)(L:o.op=.buildSlice t len j:=by exact rfl)(h1:z.cells.all (·.oneCell')=true:=by kernel_rfl)(u:z.cells.size=size:=by kernel_rfl)(hlen:Nat.ble (len*size) 16777216=true:=by kernel_rfl)(hp:Ot (λi=>some (i*size,size)) (len*size) j.toList (ys.map .d)=true:=by kernel_rfl)(M:MI (λi=>some (i*size,size)) (Ro z (len*size)) j.toList (ys.map .d)=flat ys:=by kernel_rfl)(hl:ys.length=len:=by kernel_rfl)(I:ys.all (λy=>y.cells.length=size)=true:=by kernel_rfl):
 CJ P o (Oq j.toList (ys.map .d)) es (.d (.sl ys)) es:=aFL hE J h1 u (Dt hlen) (ys.map .d) ys hp M hl I L
def I7 (hE:GU P t e size q)(J:(P.info? e).bind (·.zero)=some z)(ys:A8 D)(L:o.op=.buildSlice t len j:=by exact rfl)(h1:z.cells.all (·.oneCell')=true:=by kernel_rfl)(u:z.cells.size=size:=by kernel_rfl)(hlen:Nat.ble (len*size) 16777216=true:=by kernel_rfl)(hp:Ot (λi=>some (i*size,size)) (len*size) j.toList (ys.map .d)=true:=by kernel_rfl)(M:MI (λi=>some (i*size,size)) (Ro z (len*size)) j.toList (ys.map .d)=flat ys:=by kernel_rfl)(hl:ys.length=len:=by kernel_rfl)(I:ys.all (λy=>y.cells.length=size)=true:=by kernel_rfl):
 CJ P o (Oq j.toList (ys.map .d)) es (.aQ es.length) (es++[.arr e size ys]):=a2W hE J h1 u (Dt hlen) (ys.map .d) ys hp M hl I L
def Dn.aM {ops:Bg Oper}{l:A8 Oper}{K:Exit->BR->Prop}[T:Kn P]{M:BR->Prop}(n:Nat)(k:M (OT (Gf T ops n l σ)))(hl:l.length=n:=by kernel_rfl)(h:(Gf T ops n l σ).isSome=true:=by kernel_rfl):Dn P ops l σ (Jw M K):=
 .a n (by rw[a7r (QE hl)];exact .aX k) h
end
def EY {z:A}(h:(bif b then u else v)=z)(j:b=true->u=z->G)(k2:b=false->v=z->G):G:=by
 grind
section
variable {P:Cc} {ops:Bg Oper} {l:A8 Oper} {σ S:BR} {K:Exit->BR->Prop}
def Dn.aN [T:Kn P](k:K .normal (OT (Gf T ops l.length l σ)))(h:(Gf T ops l.length l σ).isSome=true:=by kernel_rfl):Dn P ops l σ K:=.a l.length (by rw[PS];exact .nil k) h
def D8 [T:Kn P]{id:Nat}(k:K .normal (OT (Gf T ops ops.toList.length ops.toList σ)))(h:(Gf T ops ops.toList.length ops.toList σ).isSome=true:=by kernel_rfl):Bo P (.region id ops false) σ K:=CV (Dn.aN k h)
def aRu :Ap->Ad
 | .junk=>false
 |_=>true
def Ak (π:A8 (Nat×Ad))(h1:WY σ.base σ.ents π=true:=by kernel_rfl)(h2:S=⟨NQ π (S.slots.map aRu) σ.slots,Tv σ.ents π,σ.base⟩:=by kernel_rfl):CO σ S:=af8 (S.slots.map aRu) π h1 h2
end
section
variable {P:Cc} {f:FuncId} {fn:Func} {c:Code} {α β γ δ ε:Type}
def Ed.h1 (j:P.funcs[f]? =some fn) (q:fn.body=some c) (F:α->AB ε) (a:α->Ap) (R:ε->Ap) (k:∀x r,F x=some r->Bo P c (.enter [a x] fn.ntmps []) (gI P fn (R r) [])) ⦃x:α⦄ ⦃r:ε⦄ (h:F x=some r):Ed P f [a x] [] (R r) []:=.dR j q (k x r h)
def Dj:=@Ed.h1
def Ed.h2 (j:P.funcs[f]? =some fn) (q:fn.body=some c) (F:α->β->AB ε) (a:α->Ap) (b:β->Ap) (R:ε->Ap) (k:∀x y r,F x y=some r->Bo P c (.enter [a x,b y] fn.ntmps []) (gI P fn (R r) [])) ⦃x:α⦄ ⦃y:β⦄ ⦃r:ε⦄ (h:F x y=some r):Ed P f [a x,b y] [] (R r) []:=.dR j q (k x y r h)
def DV:=@Ed.h2
def Ed.h3 (j:P.funcs[f]? =some fn) (q:fn.body=some c) (F:α->β->γ->AB ε) (a:α->Ap) (b:β->Ap) (d:γ->Ap) (R:ε->Ap) (k:∀x y z r,F x y z=some r->Bo P c (.enter [a x,b y,d z] fn.ntmps []) (gI P fn (R r) [])) ⦃x:α⦄ ⦃y:β⦄ ⦃z:γ⦄ ⦃r:ε⦄ (h:F x y z=some r):Ed P f [a x,b y,d z] [] (R r) []:=.dR j q (k x y z r h)
def Nl:=@Ed.h3
def Ed.o1 (j:P.funcs[f]? =some fn) (q:fn.body=some c) (F:α->AB ε) (a:α->Ap) (R:ε->Bd) (k:∀x r,F x=some r->Bo P c (.enter [a x] fn.ntmps []) (gI P fn (.aQ 0) [R r])) ⦃x:α⦄ ⦃r:ε⦄ (h:F x=some r):Ed P f [a x] [] (.aQ 0) [R r]:=.dR j q (k x r h)
def LQ:=@Ed.o1
def Ed.o2 (j:P.funcs[f]? =some fn) (q:fn.body=some c) (F:α->β->AB ε) (a:α->Ap) (b:β->Ap) (R:ε->Bd) (k:∀x y r,F x y=some r->Bo P c (.enter [a x,b y] fn.ntmps []) (gI P fn (.aQ 0) [R r])) ⦃x:α⦄ ⦃y:β⦄ ⦃r:ε⦄ (h:F x y=some r):Ed P f [a x,b y] [] (.aQ 0) [R r]:=.dR j q (k x y r h)
def Gg:=@Ed.o2
end
def aZ1 (o:AB A)(f:A->Ap):Ap:=match o with
 |none=>.d (.lit (.pointer none))
 |some a=>f a
def aeH (o:AB A)(f:A->A8 Bd):A8 Bd:=match o with
 |none=>[]
 |some a=>f a
variable {B:Type}
def jC (o:AB A)(x:AB B)(f:A->AB B):AB B:=match o with
 |none=>x
 |some a=>f a
variable {z:AB B}
def aBI {x:AB B}{f:A->AB B}(h:jC none x f=z):x=z:=h
def aBC {x:AB B}{f:A->AB B}(h:jC (some a) x f=z):f a=z:=h
variable {t':Bz}
section
variable {P:Cc} {o:Oper} {es:A8 Bd}
def a5a {k off:Nat}(q:P.underlying t=some (.pointer (P.pointee t)))(z:o.op=.binOp .eql t x y t':=by exact rfl):CJ P o [(x,.ptr k off),(y,.d (.lit (.pointer none)))] es (.d (E9 false)) es:=
 .pure λ_ _ a w _ _ j=>⟨.bool false,by
  have h1:=(FX j).1;have h2:=(FX j).2.lit;simp only at h1 h2;generalize I:a.eval x=u at h1;cases h1 with
  |ptr _ _ b s L=>
   have J:(eqGuard .eql t x y (Value.pointer (some ⟨b,off,none⟩)) (.pointer none)).run P w=.ok () w:=by
    unfold eqGuard;simp[pure,Sem.run_pure']
   simp only[execOp,z,I,h2,G6,J,GL,run_eql_pointer_nil w t _ q,Hf]
   rfl,.d _ _ (.lit _)⟩
def a5s (q:P.underlying t=some (.pointer (P.pointee t)))(u:o.op=.binOp .eql t x y t':=by exact rfl):CJ P o [(x,.d (.lit (.pointer none))),(y,.d (.lit (.pointer none)))] es (.d (E9 true)) es:=
 .pure λ_ _ a w _ _ j=>⟨.bool true,by
  have h1:=(FX j).1.lit;have h2:=(FX j).2.lit;simp only at h1 h2
  have z:(eqGuard .eql t x y (Value.pointer none) (.pointer none)).run P w=.ok () w:=by
   unfold eqGuard;simp[pure,Sem.run_pure']
  simp only[execOp,u,h1,h2,G6,z,GL,run_eql_pointer_nil w t _ q,Hf]
  rfl,.d _ _ (.lit _)⟩
end
def aIy :A8 ResultVar->Ad
 | []=>true
 | .tmp _::rs=>aIy rs
 |_::_=>false
def a8K (σ:BR):A8 ResultVar->A8 Ap
 | []=>[]
 | .tmp t::rs=>σ.slots.getD t .junk::a8K σ rs
 |_::rs=>.junk::a8K σ rs
def aRL {P:Cc}{σ:BR}:∀{rs:A8 ResultVar},aIy rs=true->ZU P σ rs (a8K σ rs)
 | [],_=>trivial
 | .tmp _::_,h=>⟨rfl,aRL h⟩
def Et {P:Cc}{rs:A8 ResultVar}{j:Ap}{E':A8 Bd}(π:A8 (Nat×Ad))(ha:aIy rs=true:=by kernel_rfl)(q:WY σ.base σ.ents π=true:=by kernel_rfl)(u:j=(oZ (a8K σ rs)).back π:=by kernel_rfl)(z:E'=Tv σ.ents π:=by kernel_rfl):
 ∃xs π,ZU P σ rs xs/\WY σ.base σ.ents π=true/\j=(oZ xs).back π/\E'=Tv σ.ents π:=⟨_,π,aRL ha,q,u,z⟩
def ama (o:Oper):Nat:=o.after.toList.foldl (λm e=>bif Region.binds .any e then Nat.lor m (2^e.on)else m) 0
def ahW (o:Oper):Ad:=match o.op with
 | .alloc _=>true
 | .box .. =>true
 |_=>false
def aOW :A8 Oper->Nat->A8 (Nat×Nat×Ad)
 | [],_=>[]
 |o::l,i=>(2^i,ama o,ahW o)::aOW l (i+1)
def aPJ (m a:Nat):A8 (Nat×Nat)->Nat->AB Nat
 | [],_=>none
 |s::S,j=>bif Nat.beq s.1 m&&Nat.beq s.2 a then some j else aPJ m a S (j+1)
def a3p (m a k:Nat):A8 (Nat×Nat×Ad)->Nat->A8 (Nat×Nat)->A8 (Nat×Nat×Nat)->A8 (Nat×Nat)×A8 (Nat×Nat×Nat)
 | [],_,S,T=>(S,T)
 |(b,e,w)::l,i,S,T=>bif Nat.beq (Nat.land m b) 0&&Nat.beq (Nat.land m e) e then
    (match aPJ (m+b) (bif w then 64*a+i+1 else a) S 0 with
    |some j=>a3p m a k l (i+1) S ((k,i,j)::T)
    |none=>a3p m a k l (i+1) (S++[(m+b,bif w then 64*a+i+1 else a)]) ((k,i,S.length)::T))
  else a3p m a k l (i+1) S T
def aPh (E:A8 (Nat×Nat×Ad)):Nat->Nat->A8 (Nat×Nat)->A8 (Nat×Nat×Nat)->A8 (Nat×Nat×Nat)
 |0,_,_,T=>T.reverse
 |n+1,k,S,T=>match S[k]? with
  |some (m,a)=>match a3p m a k E 0 S T with
   |(S,T)=>aPh E n (k+1) S T
  |none=>T.reverse
def Vm (ops:Bg Oper):A8 (Nat×Nat×Nat):=aPh (aOW ops.toList 0) 2000 0 [(0,0)] []
def aD8 :A8 (Nat×Nat×Nat)->A8 (A8 Nat)->Nat->A8 (A8 Nat)
 | [],N,_=>N
 |t::Tr,N,n=>bif Nat.beq t.2.2 n then aD8 Tr (N++[t.2.1::N.getD t.1 []]) (n+1)else aD8 Tr N n
def QO (ops:Bg Oper):A8 (A8 Nat):=aD8 (Vm ops) [[]] 1
section
variable {P:Cc} [T:Kn P] {id:Nat} {ops:Bg Oper} {σ:BR} {Q:Exit->BR->Prop} {y:Code}
def Bo.aDO (L:A8 (Jp P))(j:Nat)(q:Q .normal (Gw T L ops σ ((QO ops).getD j [])))(hm:P.follows .mixedOrders=true:=by kernel_rfl)(u:iO ops (QO ops) (Vm ops) [j]=true:=by kernel_rfl)(z:((Vm ops).map λt=>MK T L ops (Gw T L ops σ ((QO ops).getD t.1 [])) t.2.1)=(Vm ops).map λt=>some (Gw T L ops σ ((QO ops).getD t.2.2 []),NM L t.2.1):=by kernel_rfl)(I:(QO ops).getD 0 [0]=[]:=by kernel_rfl):Bo P (.region id ops true) σ Q:=
 Bo.node1 L _ _ j q hm u I z
def dB (L:A8 (Jp P))(j:Nat)(q:Bo P y (Gw T L ops σ ((QO ops).getD j [])) Q)(hm:P.follows .mixedOrders=true:=by kernel_rfl)(u:iO ops (QO ops) (Vm ops) [j]=true:=by kernel_rfl)(z:((Vm ops).map λt=>MK T L ops (Gw T L ops σ ((QO ops).getD t.1 [])) t.2.1)=(Vm ops).map λt=>some (Gw T L ops σ ((QO ops).getD t.2.2 []),NM L t.2.1):=by kernel_rfl)(I:(QO ops).getD 0 [0]=[]:=by kernel_rfl):Bo P (.seq (.region id ops true) y) σ Q:=
 Bo.aKG L _ _ j q hm u I z
def Bo.awG (L:A8 (Jp P))(F:A8 Nat)(j:BR)(q:PE (λk=>eU (Gw T L ops σ ((QO ops).getD k [])) j) F)(u:Bo P y j Q)(hm:P.follows .mixedOrders=true:=by kernel_rfl)(z:iO ops (QO ops) (Vm ops) F=true:=by kernel_rfl)(I:((Vm ops).map λt=>MK T L ops (Gw T L ops σ ((QO ops).getD t.1 [])) t.2.1)=(Vm ops).map λt=>some (Gw T L ops σ ((QO ops).getD t.2.2 []),NM L t.2.1):=by kernel_rfl)(J:(QO ops).getD 0 [0]=[]:=by kernel_rfl):Bo P (.seq (.region id ops true) y) σ Q:=
 Bo.aKH L _ _ F j q u hm z J I
end
end Go.Proofs.YtfmoknlmaldmlaaGreat
namespace Go
open Go.Proofs.YtfmoknlmaldmlaaGreat
variable {P:Cc}
def a2D (w:Ba)(U Y ty q:Bz)(b o u I:Nat)(a:Addr)(z J k n:Nat)(cs:A8 BI)(Z:P.underlying U=some (.slice q))(hs:(P.info? q).map (·.size)=some k)(hn:n=Nat.min z u)(hl:cs.length=n*k)(L:∀j v,cs[j]? =some v->w.cell? (a.add j)=some v)(hc:∀j,j<cs.length->(w.cell? ⟨b,o+j,none⟩).isSome=true)(hf:∀j,j<cs.length->w.frozen? ⟨b,o+j,none⟩=false)(h1:∀v∈cs,v.oneCell'=true):
 (Builtin.copy_ #[U,Y] ty #[.slice (some ⟨b,o,none⟩) u I,.slice (some a) z J]).run P w=.ok (goInt n) (w.setCells b o cs):=by
 have M:=aWo (P:=P) w a cs L;have hst:=run_storeCells_cells (P:=P) b o cs 0 w (by simpa using hc) (by simpa using hf) h1;rw[hl]at M;cases O:P.info? q with
 |none=>simp[O]at hs
 |some i=>
  have hi:i.size=k:=by simpa[O]using hs
  simp[Builtin.copy_,a6d Z,Builtin.lenOf,Builtin.firstCells,sizeOf,typeInfo,O,hi,←hn,M,hst]
end Go
namespace Go.Proofs.YtfmoknlmaldmlaaGreat
open Go.Proofs.Tryz
open Go.Shelf Go.RowKit Go.Lib
variable {es:A8 Bd}{k:Nat}{ok:Nat->Prop}{w:Ba}
section
variable {K V:Type} [BEq K]
def aUn {α β:Type}(f:α->β):∀(l:A8 α) (j:Nat),(l.map f).eraseIdx j=(l.eraseIdx j).map f
 | [],_=>rfl
 |_::_,0=>rfl
 |x::l,j+1=>BJ (f x:: ·) (aUn f l j)
def Ln :A8 (K×V)->K->A8 (K×V)
 | [],_=>[]
 |p::l,k=>bif k==p.1 then l else p::Ln l k
def aUz {ek:K->BI}{kd:TypeDesc}(hs:∀a b,Instr.sameNow kd (ek a) (ek b)=some (a==b))(k:K):∀(m:A8 (K×V)) (l:A8 MapEntry) (i:Nat),l.map (·.key)=m.map (λp=>ek p.1)->
 (Instr.findNow kd (ek k) l i=some none/\Ln m k=m)\/∃(j:Nat) (e:MapEntry),Instr.findNow kd (ek k) l i=some (some (i+j,e.val))/\j<l.length/\Ln m k=m.eraseIdx j
 | [],[],_,_=>.inl ⟨rfl,rfl⟩
 | [],_::_,_,h=>J9
 |_::_,[],_,h=>J9
 |p::m,e::l,i,h=>by
  simp only[Gh,a1Y]at h;cases q:(k==p.1)with
  |true=>
   refine .inr ⟨0,e,?_,Bf,?_⟩
   ·simp[Instr.findNow,h.1,hs,q]
   simp[Ln,q]
  |false=>
   rcases aUz hs k m l (i+1) h.2 with⟨h1,h2⟩|⟨j,e',h1,h2,h3⟩
   ·refine .inl ⟨?_,?_⟩
    ·simp[Instr.findNow,h.1,hs,q,h1]
    simp[Ln,q,h2]
   refine .inr ⟨j+1,e',?_,LJ,?_⟩
   ·simp[Instr.findNow,h.1,hs,q,h1];omega
   simp[Ln,q,h3]
def KW.erase {es:A8 (BI×D)}{ms:Bg MapEntry}{clock:Nat}(h:KW ok w es ms clock){j:Nat}(z:j<ms.size):KW ok w (es.eraseIdx j) (ms.eraseIdxIfInBounds j) clock:=by
 have hE:ms.eraseIdxIfInBounds j=ms.eraseIdx j z:=by simp[Array.eraseIdxIfInBounds,z]
 have hl:=h.len
 have key:∀(i:Nat) (m:MapEntry),(ms.eraseIdx j z)[i]? =some m->∃q,(∀e,(es.eraseIdx j)[i]? =some e->es[q]? =some e)/\ms[q]? =some m/\q=(if i<j then i else i+1):=λi m hm=>by
  rw[Array.getElem?_eraseIdx]at hm;refine⟨if i<j then i else i+1,λe u=>?_,?_,rfl⟩
  ·rw[List.getElem?_eraseIdx]at u;split at u<;>rename_i c
   ·rw[ET c];exact u
   rw[Ef c];exact u
  split at hm<;>rename_i c
  ·rw[ET c];exact hm
  rw[Ef c];exact hm
 rw[hE];refine⟨by rw[Array.size_eraseIdx,List.length_eraseIdx];split<;>omega,λi e m u hm=>?_,λi k m n I hm J=>?_⟩
 ·obtain⟨q,h1,h2,_⟩:=key i m hm;exact h.ent q e m (h1 e u) h2
 obtain⟨q,_,h2,L⟩:=key i m hm;obtain⟨k',_,M,O⟩:=key k n J;exact h.inc q k' m n (by rw[L,O];split<;>split<;>omega) h2 M
def agE {P:Cc}{o:Oper}{t kt vt u:Bz}{x y:CB}{ek:K->BI}(ev:V->D){m:A8 (K×V)}{key:K}(ht:P.underlying t=some (.map kt vt))(hk:KeyTy P kt ek)(I:es[k]? =some (.map (m.map (CS ek ev))))(ho:o.op=.call { callee:=.builtin .delete,args:= #[x,y],argTypes:= #[t,u] }:=by exact rfl):
 CJ P o [(x,.mp k),(y,.d (.lit (ek key)))] es .junk (es.set k (.map ((Ln m key).map (CS ek ev)))):=
 .eff λC ok H a w hm hn=>by
  obtain⟨hd,J,L⟩:=Hq hm.ent hm.hlen I;obtain⟨b,ms,clock,h1,h2,h3⟩:=L;have M:=TY (hn (x,.mp k) Bf) J;have O:=(hn (y,.d (.lit (ek key))) Bf).lit;simp only at M O;obtain⟨kd,q,hs⟩:=hk.same;have U:ms.toList.map (·.key)=m.map (λp=>ek p.1):=a8y
  have z:=hk.check;rcases aUz (i:=0) hs key m ms.toList U with⟨Y,Z⟩|⟨j,e,Y,q2,Z⟩
  ·obtain⟨r1,r2,r3⟩:=zf (P:=P) hm I J h1 h2 h3;refine⟨.tuple #[],_,ok,H,.inl ?_,r3,.refl _,?_,.junk _⟩
   ·simp[execOp,ho,resolve,invoke,builtin,Builtin.delete_,M,O,h1,underlying,ht,RI h2,z,Instr.findKey,q,Y,r1]
   rw[Z];exact r2
  have hM:=h3.erase (j:=j) lS;obtain⟨r1,r2,r3⟩:=zf (P:=P) hm I J h1 h2 hM;refine⟨.tuple #[],_,ok,H,.inl ?_,r3,.refl _,?_,.junk _⟩
  ·simp[execOp,ho,resolve,invoke,builtin,Builtin.delete_,M,O,h1,underlying,ht,RI h2,z,Instr.findKey,q,Y,r1]
  rw[Z,←aUn];exact r2
end
set_option linter.unusedVariables false
set_option linter.unusedSimpArgs false
set_option maxHeartbeats 4000000 in
set_option maxRecDepth 100000 in
def amP (b n c i vb vc:Nat)(cs vs:A8 BI)(w:Ba)(hi:i<n)(hroom:n+1<=c)(hc63:c<=9223372036854775807)(hvb:vb≠b)(hcl:cs.length=n*29)(hvl:vs.length=29)(hcs:∀j v,cs[j]? =some v->w.cell? ⟨b,j,none⟩=some v)(hsp:∀j,j<(n+1)*29->(w.cell? ⟨b,j,none⟩).isSome=true)(hfz:∀j,j<(n+1)*29->w.frozen? ⟨b,j,none⟩=false)(hvs:∀j v,vs[j]? =some v->w.cell? ⟨vb,j,none⟩=some v)(h1c:∀v∈cs,v.oneCell'=true)(h1v:∀v∈vs,v.oneCell'=true)(tA tB:Bz)(kA kB:Nat)(hsa:w.shape? vb=some (tA,kA))(hsb:w.shape? b=some (tB,kB))(hkB:kB≠0)(hfa:w.frozen? ⟨vb,0,none⟩=false)(hfe:w.frozen? ⟨vb,kA,none⟩=false):
 Calls Aw 140 #[.slice (some ⟨b,0,none⟩) n c,.int .i64 i,.slice (some ⟨vb,0,none⟩) 1 vc] w λe w'=>
  e=.returned (.slice (some ⟨b,0,none⟩) (n+1) c)/\w'=(w.drew.setCells b ((i+1)*29) (cs.drop (i*29))).setCells b (i*29) vs:=by
 have hz2:¬((i:Int)=(n:Int)):=AQ
 have hw1:BA ((i:Int)+1)=(i:Int)+1:=P8
 have hw2:BA ((n:Int)+1)=(n:Int)+1:=P8
 have hb1:(0:Int)<=(i:Int)+1:=AQ
 have hin:i<=n:=AQ
 have htn:((i:Int)+1).toNat=i+1:=AQ
 have aR7:((n:Int)+1).toNat=n+1:=AQ
 have hb2:¬(c=i+1):=AQ
 have hb3:(i:Int)<=(n:Int)+1:=AQ
 have hb4:¬(c=i):=AQ
 have hb5:¬((c:Int)<(n:Int)+1):=AQ
 have z:(Aw.info? 38).map (·.size)=some 29:=AA
 have U:∀w,(Go.sizeOf 38).run Aw w=.ok 29 w:=λw=>by
  cases Y:Aw.info? 38 with
  |none=>simp[Y]at z
  |some i=>
   have h0:i.size=29:=by simpa[Y]using z
   simp[sizeOf,typeInfo,Y,h0]
 have Z:∀lb cb,(callFunc 218 #[.slice (some ⟨vb,0,none⟩) 1 vc,.slice (some ⟨b,(i+1)*29,none⟩) lb cb]).run Aw w=.ok (.value (.bool false)) w:=λlb cb=>by
  rw[run_callFunc_extern func218 AA AA AA (e:=Extern.SlicesOverlaps.overlaps #[22,22] #[4]) AA,
   Lib.run_overlaps_apart w 22 4 38 wJ 29 U ⟨vb,0,none⟩ ⟨b,(i+1)*29,none⟩ 1 vc lb cb hvb tA tB kA kB hsa hsb hkB hfa hfe]
  rfl
 have I:(cs.drop (i*29)).length=(n-i)*29:=by rw[LY,hcl,Nat.sub_mul]
 have J:∀ty BH sc,(Builtin.copy_ #[22,22] ty #[.slice (some ⟨b,(i+1)*29,none⟩) (n-i) BH,.slice (some ⟨b,i*29,none⟩) (n+1-i) sc]).run Aw w.drew=.ok (goInt (n-i:Nat)) (w.drew.setCells b ((i+1)*29) (cs.drop (i*29))):=λty BH sc=>
  a2D w.drew _ _ ty 38 b ((i+1)*29) (n-i) BH ⟨b,i*29,none⟩ (n+1-i) sc 29 (n-i) (cs.drop (i*29)) wJ z a8r I
   (λj v q=>by rw[kJ];exact hcs (i*29+j) v (by rwa [WR]at q))
   (λj q=>hsp _ aFC) (λj q=>hfz _ aFC) (λv hv=>h1c v (aJz hv))
 obtain⟨W1,u⟩:∃W1,W1=w.drew.setCells b ((i+1)*29) (cs.drop (i*29)):=⟨_,rfl⟩
 have L:∀k,k<(n+1)*29->(W1.cell? ⟨b,k,none⟩).isSome=true:=λk hk=>by
  rw[u];exact isSome_setCells b (cs.drop (i*29)) ((i+1)*29) w.drew (λj q=>hsp _ aFC) _ (hsp k hk)
 have M:∀(W:Ba),(∀x,W.cell? x=W1.cell? x)->(∀x,W.frozen? x=W1.frozen? x)->∀ty BH,(Builtin.copy_ #[22,22] ty #[.slice (some ⟨b,i*29,none⟩) (n+1-i) BH,.slice (some ⟨vb,0,none⟩) 1 vc]).run Aw W=.ok (goInt (1:Nat)) (W.setCells b (i*29) vs):=λW O hWf ty BH=>
  a2D W _ _ ty 38 b (i*29) (n+1-i) BH ⟨vb,0,none⟩ 1 vc 29 1 vs wJ z a8r (by rw[hvl])
   (λj v q=>by
    rw[kJ,O,u,World.cell?_setCells_out b _ _ _ _ (λh _=>absurd h hvb),KD]
    exact hvs j v q)
   (λj q=>by rw[O];exact L _ AQ) (λj q=>by rw[hWf,u,World.frozen?_setCells];exact hfz _ AQ) h1v
 rw[←u]at J;have mixed:Aw.follows .mixedOrders=true:=AA
 go_enter func140,Tryz.ntmps140
 go_wp2_with (simp only[Z])
 go_region_law_o (refine step_copy_runI rfl _ _ 22 22 rfl _ _ a6S a6S (J _ _ _) ?_)
 go_wp2_with (at_builtin;refine wpList_copy_runI _ rfl _ _ 22 22 rfl _ _ rfl rfl (M _ (λ_=>rfl) (λ_=>rfl) _ _) ?_)
 go_ret
 first|exact⟨rfl,rfl⟩|exact⟨rfl,by rw[u]⟩
set_option maxHeartbeats 4000000 in
set_option maxRecDepth 100000 in
def abO (b n c i vb vc:Nat)(cs vs:A8 BI)(w:Ba)(hi:i<n)(hnc:n<=c)(hroom:c<n+1)(hbig:(n+1)*376<=140737488355328)(hcl:cs.length=n*29)(hvl:vs.length=29)(hcs:∀j v,cs[j]? =some v->w.cell? ⟨b,j,none⟩=some v)(hvs:∀j v,vs[j]? =some v->w.cell? ⟨vb,j,none⟩=some v)(h1c:∀v∈cs,v.oneCell'=true)(h1v:∀v∈vs,v.oneCell'=true):
 Calls Aw 140 #[.slice (some ⟨b,0,none⟩) n c,.int .i64 i,.slice (some ⟨vb,0,none⟩) 1 vc] w λe w'=>∃G ROW,e=.returned (.slice (some ⟨w.heap.size,0,none⟩) (n+1) G)/\n+1<=G/\G<=maxLen/\G*29<=ROW.size/\ROW.toList.take (i*29)=cs.take (i*29)/\
  w'=(((w.alloc (.cells ROW 38)).drew.setCells w.heap.size (i*29) vs).drew).setCells w.heap.size ((i+1)*29) (cs.drop (i*29)):=by
 have hE:GU Aw 22 38 29 376:=KP AA;obtain⟨i0,z0,hi0,hz0,hzs,hzb,hzc⟩:=hE.info;have hsz:(Aw.info? 38).map (·.size)=some 29:=by rw[hi0];simp[hzs]
 have mixed:Aw.follows .mixedOrders=true:=AA
 have hz2:¬((i:Int)=(n:Int)):=AQ
 have hz3:(c:Int)<(n:Int)+1:=AQ
 have hil:i*29<cs.length:=AQ
 have hbw:b<w.heap.size:=block_lt_of_cell (hcs 0 _ (EO AQ));have hvw:vb<w.heap.size:=block_lt_of_cell (hvs 0 _ (EO AQ));have hkk:(n:Int)+1-(i:Int)=((n+1-i:Nat):Int):=AQ
 have O:i+(n+1-i)=n+1:=AQ
 have U:(cs.take (i*29)).length=i*29:=kn
 have L:(Builtin.firstCells i0.size i (.slice (some ⟨b,0,none⟩) i c)).run Aw w.drew=.ok (cs.take (i*29)).toArray w.drew:=by
  rw[hzs]
  exact run_firstCells_some w.drew 29 i ⟨b,0,none⟩ i c (cs.take (i*29)) (by rw[U]) (λj v q=>by
   rw[kJ,KD];rw[a9a]at q;split at q
   ·exact hcs j v q
   cases q)
 have J:∀ty,(Builtin.append_ #[22,3] ty #[.slice (some ⟨b,0,none⟩) i c,.int .i64 ((n:Int)+1-(i:Int))]).run Aw w=
  .ok (.slice (some ⟨w.heap.size,0,none⟩) (n+1) (grownCap w (n+1) c 38)) (w.drew.alloc (.cells ((cs.take (i*29)).toArray++Builtin.zeroCells z0.cells (n+1-i)++Builtin.zeroCells z0.cells (grownCap w (n+1) c 38-(n+1))) 38)):=λty=>by
  have h:=Lib.run_append_grow_zeros w 22 3 ty 38 i0 z0 .i64 .i64 hE.und AA hi0 hz0 (some ⟨b,0,none⟩) i c (cs.take (i*29)) L (n+1-i) AQ AQ AQ AQ (by rw[hzb];omega) (by rw[hzb,O];exact growslice_fits AQ AQ);rw[O]at h;rw[hkk];exact h
 have hGn:n+1<=grownCap w (n+1) c 38:=wC w _ _ _;have Y:=a1a w (n+1) c 38 qH;obtain⟨G,hG⟩:∃G,G=grownCap w (n+1) c 38:=⟨_,rfl⟩
 obtain⟨ROW,u⟩:∃ROW:Bg BI,ROW=(cs.take (i*29)).toArray++Builtin.zeroCells z0.cells (n+1-i)++Builtin.zeroCells z0.cells (G-(n+1)):=⟨_,rfl⟩
 rw[←hG]at J hGn Y;rw[←u]at J
 have hRl:ROW.size=G*29:=by
  rw[u];simp[Builtin.zeroCells,hzc];omega
 have hRt:ROW.toList.take (i*29)=cs.take (i*29):=by
  rw[u];simp[JO];rw[tX U]
 obtain⟨W1,z⟩:∃W1,W1=w.drew.alloc (.cells ROW 38):=⟨_,rfl⟩
 rw[←z]at J
 have hN:∀j,j<(n+1)*29->(W1.cell? ⟨w.heap.size,j,none⟩).isSome=true:=λj q=>by
  rw[z,World.cell?_alloc_at (w:=w.drew) ROW _ w.heap.size j rfl,qQ AQ];rfl
 have hNf:∀j,W1.frozen? ⟨w.heap.size,j,none⟩=false:=λj=>by rw[z];exact World.frozen?_alloc_at (w:=w.drew) ROW _ w.heap.size j rfl
 have hOb:∀j v,w.cell? ⟨b,j,none⟩=some v->W1.cell? ⟨b,j,none⟩=some v:=λj v h=>by rw[z,World.cell?_alloc_past (w:=w.drew) _ b j hbw];exact h
 have hOv:∀j v,w.cell? ⟨vb,j,none⟩=some v->W1.cell? ⟨vb,j,none⟩=some v:=λj v h=>by rw[z,World.cell?_alloc_past (w:=w.drew) _ vb j hvw];exact h
 have hcpA:∀(W:Ba),(∀x,W.cell? x=W1.cell? x)->(∀x,W.frozen? x=W1.frozen? x)->∀ty BH,(Builtin.copy_ #[22,22] ty #[.slice (some ⟨w.heap.size,i*29,none⟩) (n+1-i) BH,.slice (some ⟨vb,0,none⟩) 1 vc]).run Aw W=.ok (goInt (1:Nat)) (W.setCells w.heap.size (i*29) vs):=λW I Z ty BH=>
  a2D W _ _ ty 38 w.heap.size (i*29) (n+1-i) BH ⟨vb,0,none⟩ 1 vc 29 1 vs hE.und hsz a8r (by rw[hvl])
   (λj v q=>by rw[kJ,I,KD];exact hOv _ v (hvs j v q))
   (λj q=>by rw[I];exact hN _ AQ) (λj q=>by rw[Z];exact hNf _) h1v
 have hG63:G<=9223372036854775807:=by unfold maxLen at Y;omega
 have hGi:¬(G=i):=AQ
 have hGim:¬(G=i+1):=AQ
 have hci:¬(c=i):=AQ
 have hbN:b≠w.heap.size:=AQ
 have hdl:(cs.drop (i*29)).length=(n-i)*29:=by rw[LY,hcl,Nat.sub_mul]
 have M:∀(W:Ba),(∀x,W.cell? x=(W1.setCells w.heap.size (i*29) vs).cell? x)->(∀x,W.frozen? x=(W1.setCells w.heap.size (i*29) vs).frozen? x)->∀ty BH sc,(Builtin.copy_ #[22,22] ty #[.slice (some ⟨w.heap.size,(i+1)*29,none⟩) (n-i) BH,.slice (some ⟨b,i*29,none⟩) (n-i) sc]).run Aw W=.ok (goInt (n-i:Nat)) (W.setCells w.heap.size ((i+1)*29) (cs.drop (i*29))):=λW I Z ty BH sc=>
  a2D W _ _ ty 38 w.heap.size ((i+1)*29) (n-i) BH ⟨b,i*29,none⟩ (n-i) sc 29 (n-i) (cs.drop (i*29)) hE.und hsz a8r hdl
   (λj v q=>by
    rw[kJ,I,World.cell?_setCells_out _ _ _ _ _ (λh _=>absurd h hbN)]
    exact hOb _ v (hcs (i*29+j) v (by rwa [WR]at q)))
   (λj q=>by rw[I];exact isSome_setCells _ vs (i*29) W1 (λt ht=>hN _ AQ) _ (hN _ (by rw[hdl]at q;omega)))
   (λj q=>by rw[Z,World.frozen?_setCells];exact hNf _) (λv hv=>h1c v (aJz hv))
 subst z;have hE1:∀x,((w.alloc (.cells ROW 38)).drew).cell? x=(w.drew.alloc (.cells ROW 38)).cell? x:=λx=>rfl;have hE2:∀x,((w.alloc (.cells ROW 38)).drew).frozen? x=(w.drew.alloc (.cells ROW 38)).frozen? x:=λx=>rfl;have hF1:∀x,(((w.alloc (.cells ROW 38)).drew.setCells w.heap.size (i*29) vs).drew).cell? x=((w.drew.alloc (.cells ROW 38)).setCells w.heap.size (i*29) vs).cell? x:=λx=>rfl;have hF2:∀x,(((w.alloc (.cells ROW 38)).drew.setCells w.heap.size (i*29) vs).drew).frozen? x=((w.drew.alloc (.cells ROW 38)).setCells w.heap.size (i*29) vs).frozen? x:=λx=>rfl;have hw1:BA ((i:Int)+1)=(i:Int)+1:=P8
 have hw2:BA ((n:Int)+1)=(n:Int)+1:=P8
 have hw3:BA ((n:Int)+1-(i:Int))=(n:Int)+1-(i:Int):=P8
 have hb1:(0:Int)<=(i:Int)+1:=AQ
 have hin:i<=n:=AQ
 have htn:((i:Int)+1).toNat=i+1:=AQ
 have hb3:(i:Int)<=(n:Int):=AQ
 clear hkk O L u hG hil U
 go_enter func140,Tryz.ntmps140
 go_wp2_with (first
  |(at_builtin;refine wY _ rfl _ _ _ _ rfl _ _ rfl rfl _ _ (J _) ?_)
  |(at_builtin;refine wpList_copy_runI _ rfl _ _ 22 22 rfl _ _ rfl rfl (hcpA _ hE1 hE2 _ _) ?_)
  |(at_builtin;refine wpList_copy_runI _ rfl _ _ 22 22 rfl _ _ rfl rfl (M _ (λ_=>rfl) (λ_=>rfl) _ _ _) ?_))
 go_region_law_o (refine step_copy_runI rfl _ _ 22 22 rfl (.slice (some ⟨w.heap.size,(i+1)*29,none⟩) (n-i) (G-(i+1))) (.slice (some ⟨b,i*29,none⟩) (n-i) (c-i)) a6S a6S (M _ hF1 hF2 3 (G-(i+1)) (c-i)) ?_)
 go_wp2
 go_ret
 exact⟨G,ROW,rfl,hGn,Y,QE hRl.symm,hRt,rfl⟩
def putAt (j:Bg BI):Nat->A8 BI->Bg BI
 |_,[]=>j
 |o,v::r=>putAt (j.setIfInBounds o v) (o+1) r
def iL :∀(vs:A8 BI) (o:Nat) (j:Bg BI),(putAt j o vs).size=j.size
 | [],_,_=>rfl
 |v::r,o,j=>by rw[putAt,iL r];simp
def xB :∀(vs:A8 BI) (o:Nat) (q:Bg BI),o+vs.length<=q.size->(putAt q o vs).toList=q.toList.take o++vs++q.toList.drop (o+vs.length)
 | [],o,q,_=>by simp[putAt]
 |v::r,o,q,h=>by
  simp only[GH]at h;rw[putAt,xB r (o+1) _ Ej,aGw];refine nH λj=>?_;simp only[JO,List.getElem?_append,H7,YZ,Ua,a9a,List.getElem?_set,WR,GH,Zz,aPN]
  grind
def wu (b:Nat):∀(vs:A8 BI) (o:Nat) (w:Ba) (j:Bg BI) (e:Bz) (fr:Nat×Nat),w.heap[b]? =some (.cells j e fr)->(w.setCells b o vs).heap[b]? =some (.cells (putAt j o vs) e fr)
 | [],_,_,_,_,_,h=>h
 |v::r,o,w,j,e,fr,h=>by
  rw[World.setCells,putAt];refine wu b r (o+1) _ _ e fr ?_;simp[World.setCell,Ze,h]
variable {n vb vc:Nat}{v:BI}{xs:A8 BI}
set_option maxHeartbeats 4000000 in
set_option maxRecDepth 100000 in
def alD {news:A8 BI}(hown:nC w 38 29 v n xs)(hsrc:Y3 w (.slice (some ⟨vb,0,none⟩) 1 vc) 1 29 news)(hb:(n+1)*376<=140737488355328):
 Calls Aw 140 #[v,.int .i64 n,.slice (some ⟨vb,0,none⟩) 1 vc] w λe w'=>∃v',e=.returned v'/\nC w' 38 29 v' (n+1) (xs++news)/\w.grownBy w' v.ownBlock/\∀g,EC v'=some g->EC v=some g\/w.heap.size<=g:=by
 have hE:GU Aw 22 38 29 376:=KP AA;obtain⟨v',w',u,h2,h3,z⟩:=aJq (ty:=22) hE hown hsrc hb qH;have mixed:Aw.follows .mixedOrders=true:=AA
 rcases hown.2 with⟨rfl,J⟩|⟨g,cap,L,rfl,_,U,M,j,O,q⟩
 ·subst J
  go_enter func140,Tryz.ntmps140
  go_wp2_with (at_builtin;refine wY _ rfl _ _ _ _ rfl _ _ rfl rfl _ _ u ?_)
  go_ret
  exact⟨v',rfl,h2,h3,z⟩
 have I:cap<=9223372036854775807:=by unfold maxLen at j;omega
 go_enter func140,Tryz.ntmps140
 go_wp2_with (at_builtin;refine wY _ rfl _ _ _ _ rfl _ _ rfl rfl _ _ u ?_)
 all_goals (go_ret;exact⟨v',rfl,h2,h3,z⟩)
def Rep (b:Nat):∀(vs:A8 BI) (o:Nat) (w:Ba),(w.setCells b o vs).os=w.os/\(w.setCells b o vs).tape=w.tape/\(w.setCells b o vs).output=w.output/\(w.setCells b o vs).heap.size=w.heap.size/\∀i,i≠b->(w.setCells b o vs).heap[i]? =w.heap[i]?
 | [],_,_=>⟨rfl,rfl,rfl,rfl,λ_ _=>rfl⟩
 |v::r,o,w=>by
  obtain⟨h1,h2,h3,j,q⟩:=Rep b r (o+1) (w.setCell ⟨b,o,none⟩ v);rw[World.setCells];refine⟨h1,h2,h3,by rw[j];simp[World.setCell],λi hi=>?_⟩;rw[q i hi];simp[World.setCell,Ze,Ne.symm hi]
variable {N a:Nat}{j:Bg BI}{vs:A8 BI}
def anT (u:j.toList.take N=xs)(hl:xs.length=N)(q:vs.length=k)(ha:a<=N)(hs:N+k<=j.size):
 (putAt (putAt j (a+k) (xs.drop a)) a vs).toList.take (N+k)=xs.take a++vs++xs.drop a:=by
 have hd:(xs.drop a).length=N-a:=by rw[LY,hl]
 rw[xB vs a _ (by rw[iL];omega),xB (xs.drop a) (a+k) j AQ,q,hd]
 have z:(j.toList.take (a+k)++xs.drop a++j.toList.drop (a+k+(N-a))).take a=xs.take a:=by
  rw[JO,List.take_append_of_le_length Ej,aC1,←u,aC1,zJ AQ,zJ ha]
 have I:(j.toList.take (a+k)++xs.drop a++j.toList.drop (a+k+(N-a))).drop (a+k)=xs.drop a++j.toList.drop (a+k+(N-a)):=by
  rw[JO,List.drop_left' Ej]
 rw[z,I,←JO,tX (by simp[hd,q,hl];omega)]
def abb (u:j.toList.take a=xs.take a)(hl:xs.length=N)(q:vs.length=k)(ha:a<=N)(hs:N+k<=j.size):
 (putAt (putAt j a vs) (a+k) (xs.drop a)).toList.take (N+k)=xs.take a++vs++xs.drop a:=by
 have hd:(xs.drop a).length=N-a:=by rw[LY,hl]
 rw[xB (xs.drop a) (a+k) _ (by rw[iL];omega),xB vs a j AQ,q,hd,u];have z:(xs.take a++vs++j.toList.drop (a+k)).take (a+k)=xs.take a++vs:=tX (by simp[q,hl];omega);rw[z,tX (by simp[hd,q,hl];omega)]
variable {T:Bz}{fr:Nat×Nat}{g:Nat}{q:Bg BI}
def uK (u:w.heap[g]? =some (.cells q T fr))(z:q.toList.take n=xs)(j:Nat)(v:BI)(h:xs[j]? =some v):w.cell? ⟨g,j,none⟩=some v:=by
 unfold World.cell?;simp only[u];rw[←z,a9a]at h;split at h
 ·simpa using h
 cases h
def aeK (u:w.heap[g]? =some (.cells q T fr))(j:Nat)(h:j<q.size):(w.cell? ⟨g,j,none⟩).isSome=true:=by
 unfold World.cell?;simp[u,h]
def aI0 (u:w.heap[g]? =some (.cells q T (0,0)))(j:Nat):w.frozen? ⟨g,j,none⟩=false:=by
 unfold World.frozen?;simp[u]
def aZE {i:Nat}{q:A8 BI}(hi:i<=n)(J:nC w 38 29 v n xs)(h1:∀u∈xs,u.oneCell'=true)(hx:nC w 38 29 (.slice (some ⟨vb,0,none⟩) 1 vc) 1 q)(Z:∀u∈q,u.oneCell'=true)(hne:EC v≠some vb)(hb:(n+1)*376<=140737488355328):
 Calls Aw 140 #[v,.int .i64 i,.slice (some ⟨vb,0,none⟩) 1 vc] w λe w'=>∃v',e=.returned v'/\nC w' 38 29 v' (n+1) (xs.take (i*29)++q++xs.drop (i*29))/\Turns v w w'/\∀g,EC v'=some g->EC v=some g\/w.heap.size<=g:=by
 have L:=J.1;have M:q.length=29:=by have :=hx.1;omega
 rcases hx.2 with⟨e0,_⟩|⟨vb',aR8,aL6,e0,_,O,hvn,_,hvs,hvt⟩
 ·cases e0
 injection e0 with e1 _ e3
 injection e1 with e1
 injection e1 with e1
 subst e1 e3;rcases oG i n with hin|hin
 ·rcases J.2 with⟨_,h0⟩|⟨g,cap,Y,rfl,_,hg,hnc,hcm,hcs,I⟩
  ·omega
  have hgv:vb≠g:=λe=>hne xR;have hil:i*29<=n*29:=LZ _ hi;rcases oG n cap with z|z
  ·have hfit:(n+1)*29<=Y.size:=EI (LZ _ z) hcs;refine(amP g n cap i vb vc xs q w hin z (by unfold maxLen at hcm;omega) hgv L M (uK hg I) (λj hj=>aeK hg j AQ) (λj _=>aI0 hg j) (uK O hvt) h1 Z 38 38 aL6.size Y.size (by simp[World.shape?,O]) (by simp[World.shape?,hg]) AQ (aI0 O 0) (aI0 O _)).mono ?_;rintro e w' ⟨rfl,rfl⟩;have hh:=wu g q (i*29) _ _ _ _ (wu g (xs.drop (i*29)) ((i+1)*29) w.drew Y 38 (0,0) hg);obtain⟨a1,a2,a3,a4,a5⟩:=Rep g (xs.drop (i*29)) ((i+1)*29) w.drew;obtain⟨b1,b2,b3,b4,b5⟩:=Rep g q (i*29) (w.drew.setCells g ((i+1)*29) (xs.drop (i*29)));refine⟨_,rfl,⟨?_,.inr ⟨g,cap,_,rfl,FB _,hh,z,hcm,by rw[iL,iL];exact hcs,?_⟩⟩,⟨b1.trans a1,b2.trans a2,b3.trans a3,by rw[b4,a4];exact EW _,λc hc hcb=>?_⟩,λg' hg'=>.inl hg'⟩
   ·simp[M,L];omega
   ·have :=anT (a:=i*29) (k:=29) I L M hil AQ;rw[show(i+1)*29=i*29+29 by omega,show(n+1)*29=n*29+29 by omega];exact this
   have U:c≠g:=λe=>hcb xR;rw[b5 c U,a5 c U];rfl
  refine(abO g n cap i vb vc xs q w hin hnc AQ hb L M (uK hg I) (uK O hvt) h1 Z).mono ?_;rintro e w' ⟨G,ROW,rfl,hGn,hGm,hGs,hRt,rfl⟩
  have hal:((w.alloc (.cells ROW 38)).drew).heap[w.heap.size]? =some (.cells ROW 38 (0,0)):=by
   show(w.heap.push (.cells ROW 38 (0,0)))[w.heap.size]? =_;simp
  have hh:=wu w.heap.size (xs.drop (i*29)) ((i+1)*29) _ _ _ _ (show(((w.alloc (.cells ROW 38)).drew.setCells w.heap.size (i*29) q).drew).heap[w.heap.size]? =_ from wu w.heap.size q (i*29) _ ROW 38 (0,0) hal);obtain⟨a1,a2,a3,a4,a5⟩:=Rep w.heap.size q (i*29) (w.alloc (.cells ROW 38)).drew;obtain⟨b1,b2,b3,b4,b5⟩:=Rep w.heap.size (xs.drop (i*29)) ((i+1)*29) ((w.alloc (.cells ROW 38)).drew.setCells w.heap.size (i*29) q).drew;refine⟨_,rfl,⟨?_,.inr ⟨w.heap.size,G,_,rfl,FB _,hh,hGn,hGm,by rw[iL,iL];exact hGs,?_⟩⟩,⟨b1.trans a1,b2.trans a2,b3.trans a3,?_,λc hc hcb=>?_⟩,λg' hg'=>.inr (by simp[EC]at hg';omega)⟩
  ·simp[M,L];omega
  ·have :=abb (a:=i*29) (k:=29) hRt L M hil (by have :=LZ 29 hGn;omega);rw[show(i+1)*29=i*29+29 by omega,show(n+1)*29=n*29+29 by omega];exact this
  ·rw[b4];show w.heap.size<=((w.alloc (.cells ROW 38)).drew.setCells w.heap.size (i*29) q).heap.size;rw[a4];show w.heap.size<=(w.heap.push (.cells ROW 38 (0,0))).size;simp
  have U:c≠w.heap.size:=AQ
  rw[b5 c U];show((w.alloc (.cells ROW 38)).drew.setCells w.heap.size (i*29) q).heap[c]? =_;rw[a5 c U];show(w.heap.push (.cells ROW 38 (0,0)))[c]? =_;simp[rD,U]
 have hni:i=n:=AQ
 subst hni;refine(alD J ⟨AQ,Z,.inl ⟨_,_,rfl,λj u hj=>by rw[kJ,KD];exact uK O hvt j u hj⟩⟩ hb).mono ?_;rintro e w' ⟨v',rfl,h2,h3,h4⟩;refine⟨v',rfl,?_,⟨h3.os,h3.tape,h3.output,h3.size,λk hk hne'=>h3.block k hk ?_⟩,h4⟩
 ·rw[Qx AQ,a7r AQ,UC];exact h2
 rcases J.2 with⟨rfl,_⟩|⟨g,cap,Y,rfl,_⟩
 ·simp[Value.ownBlock]
 intro e;exact hne' e.symm
def aa4 (hs:j.size=3):j= #[j.getD 0 undef,j.getD 1 undef,j.getD 2 undef]:=by
 refine YV (by simp[hs]) λi h1 h2=>?_;simp at h2;have :i=0\/i=1\/i=2:=AQ
 rcases this with rfl|rfl|rfl<;>simp[Array.getD,hs]
variable {H:A8 CM}{xs:A8 Ap}
def aZ2 (h:Gx ok w H xs vs)(n:Nat):Gx ok w H (xs.take n) (vs.take n):=by
 refine⟨by rw[H7,H7,h.1],λi hi=>?_⟩;rw[H7]at hi;have :=h.2 i AQ;rw[oz,oz]at this ⊢;rw[TF AQ,TF AQ];exact this
def anM (h:Gx ok w H xs vs)(n:Nat):Gx ok w H (xs.drop n) (vs.drop n):=by
 refine⟨by rw[LY,LY,h.1],λi hi=>?_⟩;rw[LY]at hi;have :=h.2 (n+i) AQ;rw[oz,oz]at this ⊢;rw[WR,WR];exact this
def aRG (h:Gx ok w H xs vs):∀u∈vs,u.oneCell'=true:=λu j=>by
 obtain⟨i,hi,rfl⟩:=G8 j;have h2:=h.2 i (by rw[←h.1];exact hi);have :=h2.2.leaf h2.1
 rwa [oz,EO hi]at this
def aRE {size:Nat}:∀{es:A8 D} (i:Nat),(∀x∈es,x.cells.length=size)->flat (es.take i)=(flat es).take (i*size)
 | [],i,_=>Ug
 |x::l,0,_=>Ug
 |x::l,i+1,h=>by
  have j:(x.cells.map Ap.d).length=size:=by rw[Df];exact h x (Gz ..)
  rw[List.take_succ_cons,Wx,Wx,aRE i λy q=>h y (IE _ q),iJ,a2Y,Vx,←j,List.take_length_add_append]
def aNE {size:Nat}:∀{es:A8 D} (i:Nat),(∀x∈es,x.cells.length=size)->flat (es.drop i)=(flat es).drop (i*size)
 | [],i,_=>Ug
 |x::l,0,_=>Ug
 |x::l,i+1,h=>by
  have j:(x.cells.map Ap.d).length=size:=by rw[Df];exact h x (Gz ..)
  rw[List.drop_succ_cons,Wx,aNE i λy q=>h y (IE _ q),iJ,a2Y,Vx,←j,List.drop_length_add_append]
def E5.kill {C:Ez}(hm:E5 C ok H es w)(k:Nat):E5 C ok H (es.set k .dead) w:=
 (hm.change (ok':=ok) (H':=H) (w':=w) (es':=es.set k .dead) (λ_=>False) rfl rfl rfl (EW _) (λ_ _ _=>rfl) (λ_ h=>h.elim) (λ_ h=>h) (λ_ h=>.inl h) (.refl _) (by simpa using hm.hlen) (by
  intro j e' h' q u;by_cases z:k=j
  ·subst z;rw[List.getElem?_set]at q;simp only[KL]at q;split at q
   ·cases q;exact .inr ⟨trivial,λh=>Gu⟩
   cases q
  rw[eB z]at q
  exact .inl ⟨q,u,λ_ _ _ h=>h⟩)).1
variable {α:Type}
def a1O (l:A8 α)(i:Int)(m:A8 α):AB (A8 α):=match m with
 | [x]=>if(0<=i/\i<=(l.length:Int))/\l.length<=34359738368 then some (l.take i.toNat++x::l.drop i.toNat)else none
 |_=>none
def ay6 {e:α->D}(hk:∀x,(e x).cells.length=29)(l:A8 α)(q:Int)(m r:A8 α)(h:a1O l q m=some r):
 E8 140 [.aQ 0,.d (Ai q),.aQ 1] [.arr 38 29 (l.map e),.arr 38 29 (m.map e)] (.aQ 2) [.dead,.dead,.arr 38 29 (r.map e)]:=by
 unfold a1O at h;split at h
 case h_2=>cases h
 rename_i x;split at h
 case isFalse=>cases h
 rename_i hc;obtain⟨⟨hq0,hql⟩,hb⟩:=hc;obtain rfl:=Dx h;obtain⟨i,rfl⟩:∃i:Nat,q=i:=⟨q.toNat,AQ⟩
 have hi:i<=l.length:=AQ
 rw[Xe];intro ok X H w L hm hs ha;have h0:=ha 0 Bf;have hq:=ha 1 Bf;have h2:=ha 2 Bf;rw[aa4 hs];obtain⟨hd,hh,hok⟩:=Hq hm.ent hm.hlen (k:=0) rfl;obtain⟨M,O,U⟩:=Hq hm.ent hm.hlen (k:=1) rfl;obtain hv:=Qq h0 hh;obtain hv1:=Qq h2 O
 have hq':L.getD 1 undef=.int .i64 i:=by
  simp only[List.getD,qA,jO,MO]at hq;cases hq with |d _ _ hq=>exact EJ.Sz hq
 rw[hv,hv1,hq'];obtain⟨hz,Y,xs,Z,J⟩:=hok;obtain⟨hz1,aR9,news,u,I⟩:=U;rw[Df]at Z
 obtain⟨g1,c1,hg1⟩:∃g1 c1,M.v=.slice (some ⟨g1,0,none⟩) 1 c1:=by
  rcases u.2 with⟨_,h⟩|⟨g,cap,cur,h,_⟩
  ·cases h
  exact⟨g,cap,h⟩
 have hne:EC hd.v≠some g1:=λhb=>by
  have :=hm.Iw 0 1 _ _ hd M g1 rfl rfl rfl rfl hh O hb (by rw[hg1];rfl);cases this
 rw[hg1]at u ⊢;refine(aZE hi Z (aRG J) u (aRG I) hne AQ).mono ?_;rintro y w' ⟨v',rfl,j,ht,hblk⟩;have hlen:l.length+1=((l.take i++x::l.drop i).map e).length:=Ej
 rw[hlen]at j
 have hfl:flat ((l.take i++x::l.drop i).map e)=(flat (l.map e)).take (i*29)++flat ([x].map e)++(flat (l.map e)).drop (i*29):=by
  rw[←aRE i Y,←aNE i Y,←mW,←mW,Jb,Gh,bJ,dI,JO];rfl
 have hg:=hm.turn (e:=.arr 38 29 ((l.take i++x::l.drop i).map e)) (h':=⟨v',29⟩) (w':=w') (k:=0) rfl rfl hh ht.os ht.tape ht.output ht.size ht.block (λg hg=>⟨a0K j hg,hblk g hg⟩) (λhgr=>⟨rfl,λy hy=>by
  obtain⟨z,_,rfl⟩:=FT.1 hy
  exact hk z,_,j,by rw[hfl];exact(a7O (a7O (aZ2 J _) I) (anM J _)).mono hgr (.push _ _)⟩)
 refine⟨v',ok,H++[⟨v',29⟩],rfl,hg.1.kill 1,?_⟩;have hl:H.length=2:=hm.hlen;have hr:(H++[(⟨v',29⟩:CM)])[2]? =some ⟨v',29⟩:=by rw[←hl];simp
 rcases j.2 with⟨rfl,_⟩|⟨g,cap,cur,rfl,_⟩
 ·exact .aQ 2 _ _ _ 29 hr
 exact .aQ 2 _ _ _ 29 hr
end Go.Proofs.YtfmoknlmaldmlaaGreat
namespace Go.Proofs.YtfmoknlmaldmlaaGreat
open Go.RowKit Go.Proofs.Tryz
variable {α:Type}
def fC (j:Nat)(n:Int):AB (A8 α):=if 0<=n/\n*j<=140737488355328 then some []else none
def ajY (w:Ba)(n:Nat)(hb:n*376<=140737488355328):
 Calls Aw 230 #[.slice none 0 0,.int .i64 n] w λe w'=>(e=.returned (.slice none 0 0)/\w'=w)\/∃G ROW,e=.returned (.slice (some ⟨w.heap.size,0,none⟩) 0 G)/\G<=maxLen/\ROW.size=G*29/\w'=w.drew.alloc (.cells ROW 38):=by
 have hE:GU Aw 22 38 29 376:=KP AA;obtain⟨Z,z0,I,J,hzs,L,M⟩:=hE.info;have mixed:Aw.follows .mixedOrders=true:=AA
 rcases Vb n with O|O
 ·subst O;refine Calls.mono ?_ (λe w' h=>Or.inl h)
  go_enter func230,Tryz.ntmps230
  go_wp2
  go_ret
  exact⟨rfl,rfl⟩
 refine Calls.mono ?_ (λe w' h=>Or.inr h);have U:n<=grownCap w n 0 38:=wC w _ _ _;have u:=a1a w n 0 38 qH
 have q:∀ty,(Builtin.append_ #[22,3] ty #[.slice none 0 0,.int .i64 (n:Int)]).run Aw w=.ok (.slice (some ⟨w.heap.size,0,none⟩) n (grownCap w n 0 38)) (w.drew.alloc (.cells (Builtin.zeroCells z0.cells n++Builtin.zeroCells z0.cells (grownCap w n 0 38-n)) 38)):=λty=>
  Lib.run_append_nil_zeros w 22 3 ty 38 Z z0 .i64 .i64 hE.und AA I J n O AQ AQ (by rw[L];omega)
 obtain⟨G,Y⟩:∃G,G=grownCap w n 0 38:=⟨_,rfl⟩
 obtain⟨ROW,j⟩:∃ROW:Bg BI,ROW=Builtin.zeroCells z0.cells n++Builtin.zeroCells z0.cells (G-n):=⟨_,rfl⟩
 rw[←Y]at q U u;rw[←j]at q
 have z:ROW.size=G*29:=by
  rw[j];simp[Builtin.zeroCells,M];omega
 have hp1:¬((n:Int)<0):=AQ
 have hp2:(n:Int)>0:=AQ
 have hw1:BA ((n:Int)-0)=(n:Int):=P8
 have hw2:BA (n:Int)=(n:Int):=P8
 have hc0:(0:Int)<=(G:Int):=AQ
 clear Y j
 go_enter func230,Tryz.ntmps230
 go_wp2_with (first
  |(at_builtin;refine wY _ rfl _ _ _ _ rfl _ _ rfl rfl _ _ (q _) ?_))
 go_ret
 exact⟨G,rfl,u,ROW,by first|exact z|simpa using z,rfl⟩
def ad8 (e:α->D)(q:Int)(r:A8 α)(h:fC 376 q=some r):E8 230 [.d (.lit (.slice none 0 0)),.d (Ai q)] [] (.aQ 0) [.arr 38 29 (r.map e)]:=by
 unfold fC at h;split at h
 case isFalse=>cases h
 rename_i Z;obtain rfl:=Dx h;obtain⟨n,rfl⟩:∃n:Nat,q=n:=⟨q.toNat,AQ⟩
 intro ok X H w j hm hs ha;have z:=ha 0 Bf;have h1:=ha 1 Bf
 have I:j.getD 0 undef=.slice none 0 0:=by
  simp only[List.getD,jO,MO]at z;cases z with |d _ _ u=>exact EJ.Sz u
 have J:j.getD 1 undef=.int .i64 n:=by
  simp only[List.getD,qA,jO,MO]at h1;cases h1 with |d _ _ u=>exact EJ.Sz u
 have L:j= #[.slice none 0 0,.int .i64 n]:=by
  rw[←I,←J];exact aDh hs
 rw[L];have M:H.length=0:=hm.hlen;obtain rfl:H=[]:=He M;refine(ajY w n AQ).mono ?_;rintro y w' (⟨rfl,rfl⟩|⟨G,ROW,rfl,hG,hR,rfl⟩)
 ·obtain⟨h2,h3⟩:=wW hm 38 29;exact⟨_,ok,[]++[⟨.slice none 0 0,29⟩],rfl,h2,.aQ 0 none 0 0 29 rfl⟩
 obtain⟨O,d2⟩:=hm.drew
 have h2:=O.push (.cells ROW 38) ⟨.slice (some ⟨w.heap.size,0,none⟩) 0 G,29⟩ (.arr 38 29 []) (λb U=>by
  have :w.heap.size=b:=Dx U
  exact this.symm) ⟨rfl,λx Y=>absurd Y Gn,[],⟨rfl,.inr ⟨w.heap.size,G,ROW,rfl,FB _,Vq w.drew _,FB _,hG,QE hR.symm,rfl⟩⟩,rfl,λi hi=>absurd hi (dY _)⟩
 exact⟨_,ok,[]++[⟨.slice (some ⟨w.heap.size,0,none⟩) 0 G,29⟩],rfl,h2.1,.aQ 0 _ 0 _ 29 rfl⟩
def ags (w:Ba)(n:Nat)(hb:n*8<=140737488355328):
 Calls Aw 256 #[.slice none 0 0,.int .i64 n] w λe w'=>(e=.returned (.slice none 0 0)/\w'=w)\/∃G ROW,e=.returned (.slice (some ⟨w.heap.size,0,none⟩) 0 G)/\G<=maxLen/\ROW.size=G*1/\w'=w.drew.alloc (.cells ROW 3):=by
 have hE:GU Aw 27 3 1 8:=KP AA;obtain⟨Z,z0,I,J,hzs,L,M⟩:=hE.info;have mixed:Aw.follows .mixedOrders=true:=AA
 rcases Vb n with O|O
 ·subst O;refine Calls.mono ?_ (λe w' h=>Or.inl h)
  go_enter func256,Tryz.ntmps256
  go_wp2
  go_ret
  exact⟨rfl,rfl⟩
 refine Calls.mono ?_ (λe w' h=>Or.inr h);have U:n<=grownCap w n 0 3:=wC w _ _ _;have u:=a1a w n 0 3 qH
 have q:∀ty,(Builtin.append_ #[27,3] ty #[.slice none 0 0,.int .i64 (n:Int)]).run Aw w=.ok (.slice (some ⟨w.heap.size,0,none⟩) n (grownCap w n 0 3)) (w.drew.alloc (.cells (Builtin.zeroCells z0.cells n++Builtin.zeroCells z0.cells (grownCap w n 0 3-n)) 3)):=λty=>
  Lib.run_append_nil_zeros w 27 3 ty 3 Z z0 .i64 .i64 hE.und AA I J n O AQ AQ (by rw[L];omega)
 obtain⟨G,Y⟩:∃G,G=grownCap w n 0 3:=⟨_,rfl⟩
 obtain⟨ROW,j⟩:∃ROW:Bg BI,ROW=Builtin.zeroCells z0.cells n++Builtin.zeroCells z0.cells (G-n):=⟨_,rfl⟩
 rw[←Y]at q U u;rw[←j]at q
 have z:ROW.size=G*1:=by
  rw[j];simp[Builtin.zeroCells,M];omega
 have hp1:¬((n:Int)<0):=AQ
 have hp2:(n:Int)>0:=AQ
 have hw1:BA ((n:Int)-0)=(n:Int):=P8
 have hw2:BA (n:Int)=(n:Int):=P8
 have hc0:(0:Int)<=(G:Int):=AQ
 clear Y j
 go_enter func256,Tryz.ntmps256
 go_wp2_with (first
  |(at_builtin;refine wY _ rfl _ _ _ _ rfl _ _ rfl rfl _ _ (q _) ?_))
 go_ret
 exact⟨G,rfl,u,ROW,by first|exact z|simpa using z,rfl⟩
def aiQ (e:α->D)(q:Int)(r:A8 α)(h:fC 8 q=some r):E8 256 [.d (.lit (.slice none 0 0)),.d (Ai q)] [] (.aQ 0) [.arr 3 1 (r.map e)]:=by
 unfold fC at h;split at h
 case isFalse=>cases h
 rename_i Z;obtain rfl:=Dx h;obtain⟨n,rfl⟩:∃n:Nat,q=n:=⟨q.toNat,AQ⟩
 intro ok X H w j hm hs ha;have z:=ha 0 Bf;have h1:=ha 1 Bf
 have I:j.getD 0 undef=.slice none 0 0:=by
  simp only[List.getD,jO,MO]at z;cases z with |d _ _ u=>exact EJ.Sz u
 have J:j.getD 1 undef=.int .i64 n:=by
  simp only[List.getD,qA,jO,MO]at h1;cases h1 with |d _ _ u=>exact EJ.Sz u
 have L:j= #[.slice none 0 0,.int .i64 n]:=by
  rw[←I,←J];exact aDh hs
 rw[L];have M:H.length=0:=hm.hlen;obtain rfl:H=[]:=He M;refine(ags w n AQ).mono ?_;rintro y w' (⟨rfl,rfl⟩|⟨G,ROW,rfl,hG,hR,rfl⟩)
 ·obtain⟨h2,h3⟩:=wW hm 3 1;exact⟨_,ok,[]++[⟨.slice none 0 0,1⟩],rfl,h2,.aQ 0 none 0 0 1 rfl⟩
 obtain⟨O,d2⟩:=hm.drew
 have h2:=O.push (.cells ROW 3) ⟨.slice (some ⟨w.heap.size,0,none⟩) 0 G,1⟩ (.arr 3 1 []) (λb U=>by
  have :w.heap.size=b:=Dx U
  exact this.symm) ⟨rfl,λx Y=>absurd Y Gn,[],⟨rfl,.inr ⟨w.heap.size,G,ROW,rfl,FB _,Vq w.drew _,FB _,hG,QE hR.symm,rfl⟩⟩,rfl,λi hi=>absurd hi (dY _)⟩
 exact⟨_,ok,[]++[⟨.slice (some ⟨w.heap.size,0,none⟩) 0 G,1⟩],rfl,h2.1,.aQ 0 _ 0 _ 1 rfl⟩
variable {Q:Exit->BR->Prop}{o:Oper}{ops:Bg Oper}{σ σ':BR}
section
variable {P:Cc}
def aa5 :Jp P->A8 (CB×Ap)
 | .call .. =>[]
 | .dat _ _ ns _ _=>ns
 | .at_ _ _ ns _ _ _ _=>ns
 | .fix _ _ ns _ _ _ _=>ns
def zK (L:A8 (Jp P))(ops:Bg Oper):Ad:=(List.range ops.size).all λi=>match ops[i]? with
 |some o=>o.guard.isNone&&match a2P i L with
  |some c=>(MF (aa5 c)).all (tmpsOf o).contains
  |none=>true
 |none=>true
def aSR (T:Kn P){L:A8 (Jp P)}{i:Nat}(z:ops[i]? =some o)(I:zK L ops=true)(h:MK T L ops σ i=some (σ',NM L i)):
 ∃x E ns,CJ P o ns σ.ents x E/\needs σ ns/\(MF ns).all (tmpsOf o).contains=true/\o.guard=none/\σ'=σ.put o.dst x E:=by
 unfold zK at I;rw[En]at I;have h1:=I i (by simpa using(IK.1 z).1);rw[z]at h1;simp only[DR,Option.isNone_iff_eq_none]at h1;obtain⟨q,h1⟩:=h1;unfold MK NM at h;rw[z]at h;simp only at h;split at h
 ·rename_i c M;rw[M]at h1;simp only at h1;split at h
  ·rename_i J;simp only[M,JR,Kq]at h;cases c with
   |call i f dX U run ent dat=>
    simp only[XR,XZ,QD,Kq,TL.call.injEq]at h;obtain⟨ns,h2,h3,Y⟩:=a8U run ent h.2 dat;exact⟨_,_,ns,h2,h3,Y,q,h.1.symm⟩
   |dat i op ns x u=>
    simp only[XR,XZ,QD,Kq,TL.dat.injEq]at h;exact⟨_,_,ns,u o _ h.2.1,Uo h.2.2,h1,q,h.1.symm⟩
   |at_ i op ns k e x u=>
    simp only[XR,XZ,QD,Kq,TL.at_.injEq]at h;exact⟨_,_,ns,u o _ h.2.2.2 h.2.1,Uo h.2.2.1,h1,q,h.1.symm⟩
   |fix i op ns es x E u=>
    simp only[XR,XZ,QD,Kq,TL.fix.injEq]at h;exact⟨_,_,ns,h.2.2.2▸u o h.2.1,Uo h.2.2.1,h1,q,h.1.symm⟩
  cases h
 split at h
 ·rename_i r Z;simp only[Kq,QD]at h;obtain⟨h2,h3⟩:=Zh T Z;rcases h2 with⟨ns,a,b,c,_⟩|⟨_,_,⟨j,O,d,v,J,_⟩⟩
  ·exact⟨_,_,ns,a,b,c,q,h.1.symm⟩
  rw[q]at J;cases J
 cases h
def a0g (ops:Bg Oper)(σ:BR)(i:Nat):BR:=match ops[i]? with
 |some o=>match o.op with
  | .move x=>σ.tN o.dst (σ.get x)
  | .assign x=>σ.tN o.dst (σ.get x)
  |_=>σ
 |none=>σ
def Lr (ops:Bg Oper)(σ:BR)(sl:A8 Nat):BR:=sl.foldl (a0g ops) σ
def iI (ops:Bg Oper)(sl m:A8 Nat)(i:Nat):Ad:=match ops[i]? with
 |some o=>o.after.toList.all λe=> !Region.binds .any e||sl.contains e.on||(m.contains e.on&&(e.on<ops.size))
 |none=>false
def aDU (ops:Bg Oper)(sl:A8 Nat)(N:A8 (A8 Nat))(F:A8 Nat)(k:Nat)(m:A8 Nat)(T:A8 (Nat×Nat×Nat)):Ad:=
 ((List.range ops.size).all λi=>sl.contains i||m.contains i|| !iI ops sl m i||
   T.any λt=>t.2.1==i&&(t.2.2<N.length)&&(λq=>(List.range ops.size).all λj=>q.contains j==(m.contains j||j==i)) (N.getD t.2.2 []))&&
 (F.contains k||(List.range ops.size).any λi=> !sl.contains i&& !m.contains i&&iI ops sl m i)
def oI (ops:Bg Oper)(sl:A8 Nat)(N:A8 (A8 Nat))(F:A8 Nat):Nat->A8 (A8 Nat)->A8 (Nat×Nat×Nat)->Ad
 |_,[],_=>true
 |k,m::M,Tr=>aDU ops sl N F k m (Tr.takeWhile λt=>t.1==k)&&oI ops sl N F (k+1) M (Tr.dropWhile λt=>t.1==k)
def aS7 {ops:Bg Oper}{sl:A8 Nat}{N:A8 (A8 Nat)}{F:A8 Nat}:∀(M:A8 (A8 Nat)) (k:Nat) (Tr:A8 (Nat×Nat×Nat)),oI ops sl N F k M Tr=true->∀j,j<M.length->
 ∃T,aDU ops sl N F (k+j) (M.getD j []) T=true/\∀t∈T,t∈Tr/\t.1=k+j
 | [],_,_,_,j,u=>uH
 |m::M,k,Tr,h,j,u=>by
  unfold oI at h;rw[DR]at h;cases j with
  |zero=>exact⟨_,h.1,λt q=>⟨(aE0 _).subset q,by have :=aF7 q;simpa using this⟩⟩
  |succ j=>
   obtain⟨T,h1,h2⟩:=aS7 M (k+1) _ h.2 j Ql;refine⟨T,?_,λt q=>⟨(a6F _).subset (h2 t q).1,?_⟩⟩
   ·rw[show k+(j+1)=k+1+j by omega];simpa using h1
   rw[(h2 t q).2];omega
def aDa (ops:Bg Oper)(sl:A8 Nat):Ad:=sl.all λi=>match ops[i]? with
 |some o=>(o.after.toList.all λe=> !Region.binds .any e)&&match o.dst with
  |some d=>(List.range ops.size).all λj=>match ops[j]? with
   |some p=> !(tmpsOf p).contains d||JE p i
   |none=>true
  |none=>false
 |none=>false
def aD9 {ops:Bg Oper}{C:Ez}{ok:Nat->Prop}{H:A8 CM}{w:Ba}:∀(sl:A8 Nat) (σ:BR) (a:Act),Holds C ok H σ a w->
 ∃q,Holds C ok H (Lr ops σ sl) q w/\q.tmps.size=a.tmps.size/\q.defers=a.defers/\∀t,(∀i∈sl,∀o,ops[i]? =some o->o.dst≠some t)->q.tmps.getD t undef=a.tmps.getD t undef
 | [],σ,a,h=>⟨a,h,rfl,rfl,λ_ _=>rfl⟩
 |i::sl,σ,a,h=>by
  have I:∀(o:Oper) (x:CB),ops[i]? =some o->a0g ops σ i=σ.tN o.dst (σ.get x)->∃q,Holds C ok H (Lr ops σ (i::sl)) q w/\q.tmps.size=a.tmps.size/\q.defers=a.defers/\∀t,(∀j∈i::sl,∀o,ops[j]? =some o->o.dst≠some t)->q.tmps.getD t undef=a.tmps.getD t undef:=λo x u O=>by
   have h1:=h.put o.dst (.refl _ _) (.refl _) h.mem (h.get x);rw[←BR.amr,←O]at h1;obtain⟨q,L,U,Y,Z⟩:=aD9 sl _ _ h1;refine⟨q,L,by rw[U,size_put],by rw[Y,a1S],λt M=>?_⟩;rw[Z t λj hj=>M j (IE _ hj)];have :=M i (Gz ..) o u;cases hd:o.dst with
   |none=>rfl
   |some d=>exact aEY λe=>this (by rw[hd,e])
  have J:a0g ops σ i=σ->∃q,Holds C ok H (Lr ops σ (i::sl)) q w/\q.tmps.size=a.tmps.size/\q.defers=a.defers/\∀t,(∀j∈i::sl,∀o,ops[j]? =some o->o.dst≠some t)->q.tmps.getD t undef=a.tmps.getD t undef:=λO=>by
   obtain⟨q,L,U,Y,Z⟩:=aD9 sl σ a h;refine⟨q,?_,U,Y,λt M=>Z t λj hj=>M j (IE _ hj)⟩;unfold Lr at L ⊢;rw[Fl,O];exact L
  cases u:ops[i]? with
  |none=>exact J (by unfold a0g;rw[u])
  |some o=>
   cases z:o.op with
   |move x=>exact I o x u aH3
   |assign x=>exact I o x u aH3
   |_=>exact J aH3
def Bo.aDR (T:Kn P){id:Nat}(sl:A8 Nat)(L:A8 (Jp P))(N:A8 (A8 Nat))(Tr:A8 (Nat×Nat×Nat))(F:A8 Nat)(fin:BR)(hm:P.follows .mixedOrders=true)(hsl:(RJ ops&&aDa ops sl&&zK L ops)=true)(hN:oI ops sl N F 0 N Tr=true)(h0:N.getD 0 [0]=[])(hS:(N.map λm=>sl.map λi=>MK T L ops (Gw T L ops (Lr ops σ sl) m) i)=N.map λm=>sl.map λi=>some (Gw T L ops (Lr ops σ sl) m,NM L i))(hT:(Tr.map λt=>MK T L ops (Gw T L ops (Lr ops σ sl) (N.getD t.1 [])) t.2.1)=Tr.map λt=>some (Gw T L ops (Lr ops σ sl) (N.getD t.2.2 []),NM L t.2.1))(hF:PE (λk=>eU (Gw T L ops (Lr ops σ sl) (N.getD k [])) fin) F)(hQ:Q .normal fin):Bo P (.region id ops true) σ Q:=by
 refine⟨λro _ C ok H a w u=>?_⟩;refine a1j hm ?_;simp only[DR]at hsl;obtain⟨⟨he,hso⟩,htm⟩:=hsl;have avm:=qg he
 let S:Nat->BR:=λk=>Gw T L ops (Lr ops σ sl) (N.getD k [])
 have aG9:∀i∈sl,∃o d,ops[i]? =some o/\o.dst=some d/\(∀e∈o.after.toList,Region.binds .any e=false)/\∀j p,ops[j]? =some p->d∈tmpsOf p->JE p i=true:=λi hi=>by
  have h1:=En.1 hso i hi;cases O:ops[i]? with
  |none=>rw[O]at h1;cases h1
  |some o=>
   rw[O]at h1;simp only[DR]at h1;cases hd:o.dst with
   |none=>rw[hd]at h1;cases h1.2
   |some d=>
    rw[hd]at h1;simp only[En]at h1;refine⟨o,d,rfl,hd,λe hee=>by simpa using h1.1 e hee,λj p hp hdp=>?_⟩;have h2:=h1.2 j (by simpa using(IK.1 hp).1);rw[hp]at h2;simpa[hdp]using h2
 let I:Bg Ad->Act->Ba->Prop:=λl a w=>l.size=ops.size/\∃k ok H J,k<N.length/\(∀i,i<ops.size->i∉sl->l.getD i false=(N.getD k []).contains i)/\Holds C ok H (S k) J w/\J.tmps.size=a.tmps.size/\J.defers=a.defers/\
  ∀t,(∀i∈sl,l.getD i false=false->∀o,ops[i]? =some o->o.dst≠some t)->J.tmps.getD t undef=a.tmps.getD t undef
 have hNN:∀k,k<N.length->(((List.range ops.size).all λi=>sl.contains i||(N.getD k []).contains i|| !iI ops sl (N.getD k []) i||
  Tr.any λt=>t.1==k&&t.2.1==i&&(t.2.2<N.length)&&(List.range ops.size).all λj=>(N.getD t.2.2 []).contains j==((N.getD k []).contains j||j==i))&&
  (F.contains k||(List.range ops.size).any λi=> !sl.contains i&& !(N.getD k []).contains i&&iI ops sl (N.getD k []) i))=true:=λk hk=>by
  obtain⟨T,h1,h2⟩:=aS7 N 0 Tr hN k hk;unfold aDU at h1;rw[KD,DR,En]at h1;rw[DR,En];refine⟨λi hi=>?_,h1.2⟩;have h3:=h1.1 i hi;rw[VK]at h3 ⊢;rcases h3 with h3|h3
  ·exact .inl h3
  obtain⟨t,Z,h4⟩:=Ip.1 h3;obtain⟨h5,U⟩:=h2 t Z;rw[KD]at U;refine .inr (Ip.2 ⟨t,h5,?_⟩);rw[show(t.1==k)=true by simpa using U,Fv];exact h4
 refine aEc I (λl a w h=>h.1) ?_ ?_ ops.size _ _ _ ?_ ?_
 ·rintro l a w ⟨h1,k,ok,H,J,hk,hl,u,hz,hdf,hag⟩ i hi;unfold Region.ready at hi;rw[Gs]at hi;obtain⟨hi1,hi2⟩:=hi;have hi':i<ops.size:=by simpa using hi1
  have O:ops[i]? =some ops[i]:=by simp[hi']
  simp only[DR]at hi2;have Y:=hi2.2;rw[O]at Y;simp only[JR,MO]at Y;have apD:=λe he=>(TP.1 Y) e he
  have hdone:∀j,JE ops[i] j=true->l.getD j false=true:=by
   intro j z;unfold JE at z;rw[Ip]at z;obtain⟨e,hee,z⟩:=z;simp only[DR,IQ]at z;have :=apD e (by simpa using hee);simp only[z.2,El,OW]at this;rw[z.1]at this;exact this
  have hself:l.getD i false=false:=by
   have h8:=hi2.1;have hil:i<l.size:=AQ
   simp[Array.getD,hil]at h8 ⊢;exact h8
  have hread:∀t∈tmpsOf ops[i],J.tmps.getD t undef=a.tmps.getD t undef:=λt Z=>hag t λj z hlj o hoj hd=>by
   obtain⟨o',d,h2,h3,_,h5⟩:=aG9 j z;rw[hoj]at h2;obtain rfl:=Dx h2;rw[h3]at hd;obtain rfl:=Dx hd;have :=hdone j (h5 i _ O Z);rw[hlj]at this;cases this
  have hrun:∀(x:Ap) (E:A8 Bd) (ns:A8 (CB×Ap)) (Q':Exit->Act->Ba->Prop),CJ P ops[i] ns (S k).ents x E->needs (S k) ns->(MF ns).all (tmpsOf ops[i]).contains=true->ops[i].guard=none->
   (∀(q:Act) (w':Ba) (ok':Nat->Prop) (H':A8 CM) (v:BI),q=J.put ops[i].dst v->Holds C ok' H' ((S k).put ops[i].dst x E) q w'->I (l.setIfInBounds i true) (a.put ops[i].dst v) w')->
   wpOpIn (Jh ro) 0 P ops Q' i (λa' w'=>I (l.setIfInBounds i true) a' w') a w:=λx E ns Q' hop apE hnt hgn hk'=>by
   unfold wpOpIn;rw[O];show if Region.wanted ops[i] (yielded ops a.tmps)=true then _ else _
   rw[ET (by unfold Region.wanted;rw[hgn])];refine Yt ?_ (hop.inR ro C ok H a w _ u.mem (λn hn'=>?_))
   ·rintro a' w' ⟨v,ok',H',rfl,hgr,hnn,hm',hx⟩;exact hk' _ w' ok' H' v rfl (u.put ops[i].dst hgr hnn hm' hx)
   have hnv:=Xo apE n hn';have hR:=hnv▸u.get n.1
   have heq:J.eval n.1=a.eval n.1:=by
    obtain⟨nx,ny⟩:=n;cases nx with
    |tmp t=>
     refine hread t ?_;rw[En]at hnt
     have :t∈MF ns:=by
      unfold MF;rw[bV];exact⟨_,hn',rfl⟩
     simpa using hnt t this
    |const v=>rfl
    |global g=>rfl
    |func f=>rfl
   rw[←heq];exact hR
  have aDS:∀(v:BI) (q:Act),q=J.put ops[i].dst v->q.tmps.size=(a.put ops[i].dst v).tmps.size/\q.defers=(a.put ops[i].dst v).defers/\
   ∀t,(∀j∈sl,(l.setIfInBounds i true).getD j false=false->∀o,ops[j]? =some o->o.dst≠some t)->q.tmps.getD t undef=(a.put ops[i].dst v).tmps.getD t undef:=by
   rintro v q rfl;refine⟨by rw[size_put,size_put,hz],by rw[a1S,a1S,hdf],λt Z=>?_⟩;by_cases hdt:ops[i].dst=some t
   ·rw[hdt];by_cases htl:t<a.tmps.size
    ·rw[aGE (by rw[hz];exact htl),aGE htl]
    have e1:∀(b:Act),¬t<b.tmps.size->(b.put (some t) v).tmps.getD t undef=undef:=λb hb=>by
     have :¬t<(b.put (some t) v).tmps.size:=by rw[size_put];exact hb
     simp[Array.getD,this]
    rw[e1 a htl,e1 J (by rw[hz];exact htl)]
   have e1:∀(b:Act),(b.put ops[i].dst v).tmps.getD t undef=b.tmps.getD t undef:=λb=>by
    cases hd:ops[i].dst with
    |none=>rfl
    |some d=>exact aEY λe=>hdt (by rw[hd,e])
   rw[e1,e1];refine hag t λj z hlj o hoj hd=>?_
   have hij:i≠j:=λe=>by
    subst e;rw[O]at hoj;obtain rfl:=Dx hoj;exact hdt hd
   refine Z j z ?_ o hoj hd;simpa only[JY,UA hij]using hlj
  have hset:∀j,j≠i->(l.setIfInBounds i true).getD j false=l.getD j false:=λj z=>by
   simp only[JY,UA (Ne.symm z)]
  have hkm:N.getD k []∈N:=by
   rw[oz,EO hk];exact EZ hk
  by_cases aBR:i∈sl
  ·have U:MK T L ops (S k) i=some (S k,NM L i):=xQ.1 (xQ.1 hS _ hkm) i aBR;obtain⟨x,E,ns,q1,q2,q3,q4,q5⟩:=aSR T O htm U;refine hrun x E ns _ q1 q2 q3 q4 λq w' ok' H' v e hp=>?_;obtain⟨r1,r2,r3⟩:=aDS v q e;refine⟨Zl,k,ok',H',q,hk,λj z hjs=>?_,q5▸hp,r1,r2,r3⟩;rw[hset j λe=>hjs (e▸aBR)];exact hl j z hjs
  have hnc:(N.getD k []).contains i=false:=by rw[←hl i hi' aBR];exact hself
  have hrd:iI ops sl (N.getD k []) i=true:=by
   unfold iI;rw[O];simp only[En];intro e he;have h9:=apD e qB;cases hb:Region.binds .any e with
   |false=>simp
   |true=>
    simp only[hb,El,OW]at h9 ⊢;by_cases hes:e.on∈sl
    ·simp[hes]
    by_cases hon:e.on<ops.size
    ·rw[←hl e.on hon hes,h9];simp[hon]
    have :l.getD e.on false=false:=aWB
    rw[this]at h9;cases h9
  have h2:=hNN k hk;simp only[DR,En]at h2;have h3:=h2.1 i aB3;rw[hnc,hrd,show sl.contains i=false by simpa using aBR]at h3;simp only[El,a1P,OW,Ip]at h3;obtain⟨⟨k',i',t⟩,aL7,h4⟩:=h3;simp only[DR,MP,IQ,En]at h4;obtain⟨⟨⟨e1,e2⟩,Z⟩,h5⟩:=h4;have U:MK T L ops (S k') i'=some (S t,NM L i'):=xQ.1 hT (k',i',t) aL7;rw[e1,e2]at U;obtain⟨x,E,ns,q1,q2,q3,q4,q5⟩:=aSR T O htm U;refine hrun x E ns _ q1 q2 q3 q4 λq w' ok' H' v e hp=>?_;obtain⟨r1,r2,r3⟩:=aDS v q e;refine⟨Zl,t,ok',H',q,Z,λj z hjs=>?_,q5▸hp,r1,r2,r3⟩;rw[h5 j UW];by_cases hij:j=i
  ·subst hij;have :(l.setIfInBounds j true).getD j false=true:=by simp[Array.getD,h1,z]
   rw[this];simp
  rw[hset j hij,hl j z hjs];simp[hij]
 ·rintro l a w ⟨h1,k,ok,H,J,hk,hl,u,hz,hdf,hag⟩ hr
  have hsd:∀i∈sl,l.getD i false=true:=λi hi=>by
   obtain⟨o,d,h2,h3,h4,_⟩:=aG9 i hi;have hi':i<ops.size:=(IK.1 h2).1;rw[←Bool.not_eq_false];intro hf
   have M:i∈Region.ready .any ops l:=by
    unfold Region.ready;rw[Gs];refine⟨aB3,?_⟩;have hil:i<l.size:=AQ
    have hf':l.getD i true=false:=a8P
    rw[hf',h2];simp only[JV,Fv,JR,MO];rw[TP];intro e he;rw[h4 e qB];simp
   rw[hr]at M;simp at M
  have h2:=hNN k hk;simp only[DR,VK]at h2
  have hFk:k∈F:=by
   rcases h2.2 with h|h
   ·simpa using h
   rw[Ip]at h;obtain⟨i,hi,h3⟩:=h;simp only[bZ]at hi;simp only[DR,Ui]at h3;obtain⟨⟨h7,h4⟩,h5⟩:=h3;have his:i∉sl:=by simpa using h7
   have O:ops[i]? =some ops[i]:=VL
   have M:i∈Region.ready .any ops l:=by
    unfold Region.ready;rw[Gs];refine⟨IU,?_⟩;have hf:l.getD i false=false:=by rw[hl i hi his];exact h4
    have hil:i<l.size:=AQ
    have hf':l.getD i true=false:=a8P
    rw[hf',O];simp only[JV,Fv,JR,MO];rw[TP];intro e he;unfold iI at h5;rw[O]at h5;simp only[En]at h5;have U:=h5 e qB;cases hb:Region.binds .any e with
    |false=>simp
    |true=>
     simp only[hb,El,OW,VK,DR,IQ]at U ⊢;by_cases hes:e.on∈sl
     ·exact hsd _ hes
     rcases U with U|U
     ·exact absurd a7b hes
     rw[hl e.on U.2 hes];exact U.1
   rw[hr]at M;simp at M
  have hsame:J=a:=by
   have Z:J.tmps=a.tmps:=by
    apply YV hz;intro t h3 h4;have :=hag t λi hi hli=>by rw[hsd i hi]at hli;cases hli
    simpa[Array.getD,h3,h4]using this
   cases J;cases a;simp only at Z hdf;rw[Z,hdf]
  subst hsame;obtain⟨ok',H',h3⟩:=hF.mem k hFk C ok H J w u;exact⟨ok',H',fin,h3,hQ⟩
 ·unfold toCome;simp
 have hh':Holds C ok H σ a { w with drawn:=w.drawn+1 }:=
  ⟨⟨⟨u.mem.fr.os,u.mem.fr.tape,u.mem.fr.output,u.mem.fr.size,u.mem.fr.block⟩,u.mem.AY,u.mem.AZ,u.mem.kZ,u.mem.names,u.mem.hlen,λk e h h1 h2=>(u.mem.ent k e h h1 h2).drew,u.mem.blk,u.mem.Iw⟩,u.size,u.defers.mono (λb hb=>⟨hb,rfl⟩),u.base,λt Z=>R.mono (w:=w) (ok:=ok) (w':={ w with drawn:=w.drawn+1 }) (λb hb=>⟨hb,rfl⟩) (.refl _) (u.slot t Z)⟩
 obtain⟨J,q1,q2,q3,q4⟩:=aD9 (ops:=ops) sl σ a hh';refine⟨Bf,0,ok,H,J,?_,λi hi _=>?_,?_,q2,q3,λt Z=>q4 t λi hi o O=>Z i hi (by simp[Array.getD]) o O⟩
 ·cases N with
  |nil=>cases h0
  |cons x l=>simp
 ·have e:N.getD 0 []=[]:=by
   cases N with
   |nil=>rfl
   |cons x l=>simpa using h0
  rw[e];simp[Array.getD]
 have e:S 0=Lr ops σ sl:=by
  show Gw T L ops (Lr ops σ sl) (N.getD 0 [])=_;cases N with
  |nil=>rfl
  |cons x l=>have :x=[]:=by simpa using h0
             subst this;rfl
 rw[e];exact q1
end
section
variable {P:Cc} [T:Kn P] {id:Nat} {ops:Bg Oper} {σ:BR} {Q:Exit->BR->Prop} {y:Code}
def Bo.aMK (sl:A8 Nat)(L:A8 (Jp P))(N:A8 (A8 Nat))(Tr:A8 (Nat×Nat×Nat))(F:A8 Nat)(j:BR)(q:PE (λk=>eU (Gw T L ops (Lr ops σ sl) (N.getD k [])) j) F)(u:Bo P y j Q)(hm:P.follows .mixedOrders=true:=by kernel_rfl)(hsl:(RJ ops&&aDa ops sl&&zK L ops)=true:=by kernel_rfl)(z:oI ops sl N F 0 N Tr=true:=by kernel_rfl)(I:N.getD 0 [0]=[]:=by kernel_rfl)(J:(N.map λm=>sl.map λi=>MK T L ops (Gw T L ops (Lr ops σ sl) m) i)=N.map λm=>sl.map λi=>some (Gw T L ops (Lr ops σ sl) m,NM L i):=by kernel_rfl)(M:(Tr.map λt=>MK T L ops (Gw T L ops (Lr ops σ sl) (N.getD t.1 [])) t.2.1)=Tr.map λt=>some (Gw T L ops (Lr ops σ sl) (N.getD t.2.2 []),NM L t.2.1):=by kernel_rfl):Bo P (.seq (.region id ops true) y) σ Q:=
 a00 j (Bo.aDR T sl L N Tr F j hm hsl z I J M q rfl) u
def Bo.aML (sl:A8 Nat)(L:A8 (Jp P))(N:A8 (A8 Nat))(Tr:A8 (Nat×Nat×Nat))(j:Nat)(q:Bo P y (Gw T L ops (Lr ops σ sl) (N.getD j [])) Q)(hm:P.follows .mixedOrders=true:=by kernel_rfl)(hsl:(RJ ops&&aDa ops sl&&zK L ops)=true:=by kernel_rfl)(u:oI ops sl N [j] 0 N Tr=true:=by kernel_rfl)(z:N.getD 0 [0]=[]:=by kernel_rfl)(I:(N.map λm=>sl.map λi=>MK T L ops (Gw T L ops (Lr ops σ sl) m) i)=N.map λm=>sl.map λi=>some (Gw T L ops (Lr ops σ sl) m,NM L i):=by kernel_rfl)(J:(Tr.map λt=>MK T L ops (Gw T L ops (Lr ops σ sl) (N.getD t.1 [])) t.2.1)=Tr.map λt=>some (Gw T L ops (Lr ops σ sl) (N.getD t.2.2 []),NM L t.2.1):=by kernel_rfl):Bo P (.seq (.region id ops true) y) σ Q:=
 a00 _ (Bo.aDR T sl L N Tr [j] _ hm hsl u z I J ⟨aBN _,trivial⟩ rfl) q
end
variable {P:Cc}
def o9 {es:A8 Bd}{t:Bz}{k:Nat}(j:o.op=.makeMap t none:=by exact rfl)(q:es.length=k:=by kernel_rfl):CJ P o [] es (.mp k) (es++[.map []]):=q▸af7 j
def a2Q (P:Cc)(c:Code)(Q:Exit->BR->Prop):Nat->BR->Prop
 |0,_=>False
 |m+1,σ=>Bo P c σ (Jw (a2Q P c Q m) Q)
variable {c:Code}
def a19 {m:Nat}(h:Bo P c σ (Jw (a2Q P c Q m) Q)):a2Q P c Q (m+1) σ:=h
def Bo.rounds (m:Nat)(h:a2Q P c Q m σ):Bo P (.loop c) σ Q:=by
 refine⟨λro j C ok H a w q=>wpIn_loop_rounds m ?_⟩
 induction m generalizing σ ok H a w with
 |zero=>exact h.elim
 |succ m u=>
  rw[roundsIn_succ];refine V6 (h.run ro j C ok H a w q) ?_;rintro e a' w' ⟨ok',H',σ',h1,h2⟩;cases e with
  |normal=>exact u h2 ok' H' a' w' h1
  |_=>exact⟨ok',H',σ',h1,h2⟩
variable {E E':A8 Bd}{ats:Bg Bz}{fB:A8 Ap}{j res':Ap}{ops:Bg CB}{x:CB}
section
variable {P:Cc} {o:Oper} {es:A8 Bd}
def Jo {f:FuncId}(dX:A8 Ap)(q:Ed P f fB [] j E')(u:o.op=.call { callee:=.value (.func f),args:=ops,argTypes:=ats }:=by exact rfl)(z:IC P f=true:=by kernel_rfl)(I:E'.all Bd.closed=true:=by kernel_rfl)(ha:O5 [] dX fB:=by repeat (first|exact trivial|refine⟨.inl rfl,?_⟩|refine⟨.inr (.inr ⟨rfl,rfl⟩),?_⟩))(hl:ops.toList.length=dX.length:=by kernel_rfl)(J:j.up [] es.length=res':=by kernel_rfl):CJ P o (G5 ops.toList dX) es res' (es++E'):=aHi q z I ha hl J u
def aRQ {f:FuncId}(dX:A8 Ap)(q:Ed P f fB [] j [])(u:o.op=.call { callee:=.value (.func f),args:=ops,argTypes:=ats }:=by exact rfl)(z:IC P f=true:=by kernel_rfl)(ha:O5 [] dX fB:=by repeat (first|exact trivial|refine⟨.inl rfl,?_⟩|refine⟨.inr (.inr ⟨rfl,rfl⟩),?_⟩))(hl:ops.toList.length=dX.length:=by kernel_rfl)(I:j.up [] es.length=res':=by kernel_rfl):CJ P o (G5 ops.toList dX) es res' es:=aNH q z ha hl I u
def EP {f:FuncId}(srcs:A8 ES)(dX:A8 Ap)(q:Ed P f fB E j E')(u:o.op=.call { callee:=.value (.func f),args:=ops,argTypes:=ats }:=by exact rfl)(z:IC P f=true:=by kernel_rfl)(I:U1 srcs es E E'=true:=by kernel_rfl)(hE:Sj srcs es srcs E:=by first|exact trivial|exact Nu AA trivial)(ha:O5 srcs dX fB:=by repeat (first|exact trivial|refine⟨.inl rfl,?_⟩|refine⟨⟨0,rfl,rfl⟩,?_⟩|refine⟨⟨1,rfl,rfl⟩,?_⟩|refine⟨⟨2,rfl,rfl⟩,?_⟩|refine⟨.inr (.inr ⟨rfl,rfl⟩),?_⟩))(hl:ops.toList.length=dX.length:=by kernel_rfl)(J:res'=j.up srcs es.length:=by kernel_rfl):CJ P o (G5 ops.toList dX) es res' (Nc srcs es E'):=aLI srcs q z I hE ha hl J u
def fG {f:FuncId}(srcs:A8 ES)(fi ca dX:A8 Ap)(q:Ed P f fB E j E')(u:o.op=.call { callee:=.value x,args:=ops,argTypes:=ats }:=by exact rfl)(z:IC P f=true:=by kernel_rfl)(I:U1 srcs es E E'=true:=by kernel_rfl)(hE:Sj srcs es srcs E:=by first|exact trivial|exact Nu AA trivial)(ha:O5 srcs (fi++dX++ca) fB:=by repeat (first|exact trivial|refine⟨.inl rfl,?_⟩|refine⟨⟨0,rfl,rfl⟩,?_⟩|refine⟨⟨1,rfl,rfl⟩,?_⟩|refine⟨⟨2,rfl,rfl⟩,?_⟩|refine⟨.inr (.inr ⟨rfl,rfl⟩),?_⟩))(hl:ops.toList.length=dX.length:=by kernel_rfl)(J:res'=j.up srcs es.length:=by kernel_rfl):CJ P o ((x,.fn (.func f) fi ca)::G5 ops.toList dX) es res' (Nc srcs es E'):=afH srcs fi ca q z I hE ha hl J u
def aOy {f:FuncId}(srcs:A8 ES)(fi ca:A8 D)(dX:A8 Ap)(q:Ed P f fB E j E')(u:o.op=.call { callee:=.value x,args:=ops,argTypes:=ats }:=by exact rfl)(z:IC P f=true:=by kernel_rfl)(I:U1 srcs es E E'=true:=by kernel_rfl)(hE:Sj srcs es srcs E:=by first|exact trivial|exact Nu AA trivial)(ha:O5 srcs (fi.map .d++dX++ca.map .d) fB:=by repeat (first|exact trivial|refine⟨.inl rfl,?_⟩|refine⟨⟨0,rfl,rfl⟩,?_⟩|refine⟨⟨1,rfl,rfl⟩,?_⟩|refine⟨⟨2,rfl,rfl⟩,?_⟩|refine⟨.inr (.inr ⟨rfl,rfl⟩),?_⟩))(hl:ops.toList.length=dX.length:=by kernel_rfl)(J:res'=j.up srcs es.length:=by kernel_rfl):CJ P o ((x,.d (.fn (.func f) fi ca))::G5 ops.toList dX) es res' (Nc srcs es E'):=aeF srcs fi ca q z I hE ha hl J u
end
variable {dX:A8 Ap}
section
variable {P:Cc} {ops:Bg Oper} {o:Oper} {rest l:A8 Oper} {σ:BR} {K:Exit->BR->Prop}
def Dn.ca {f:FuncId}(q:Ed P f dX [] j [])(k:Dn P ops rest (σ.tN o.dst (j.up [] σ.ents.length)) K)(u:IC P f=true:=by kernel_rfl)(z:WA σ o=some (f,dX):=by kernel_rfl)(hd:dX.all Ap.Dp=true:=by kernel_rfl)(I:LK ops σ o.guard=some true:=by kernel_rfl):Dn P ops (o::rest) σ K:=.call q u k z hd I
def Fh.ca {f:FuncId}{rs:A8 Ap}{ess:A8 (A8 Bd)}{bs:A8 Ad}(q:Ed P f dX [] j [])(k:Fh P ops rest (σ.tN o.dst (j.up [] σ.ents.length)) rs ess bs σ')(u:IC P f=true:=by kernel_rfl)(z:WA σ o=some (f,dX):=by kernel_rfl)(hd:dX.all Ap.Dp=true:=by kernel_rfl)(I:LK ops σ o.guard=some true:=by kernel_rfl):Fh P ops (o::rest) σ (j.up [] σ.ents.length::rs) (σ.ents::ess) (false::bs) σ':=.call q u k z hd I
end
variable {A:Type}{M:BR->Prop}{b:Ad}{ns:A8 (CB×Ap)}{x:Ap}{u v z:A}
section
variable {P:Cc} {ops:Bg Oper} {o:Oper} {rest l:A8 Oper} {σ:BR} {K:Exit->BR->Prop}
def Dn.aW [T:Kn P](k:M (OT (Gf T ops l.length l σ)))(h:(Gf T ops l.length l σ).isSome=true:=by kernel_rfl):Dn P ops l σ (Jw M K):=.aM l.length k rfl h
def Dn.Z [T:Kn P](h:CJ P o ns σ.ents x σ.ents)(k:M (OT (Gf T ops rest.length rest (σ.tN o.dst x))))(j:(ns.map λn=>σ.get n.1)=ns.map (·.2):=by kernel_rfl)(q:LK ops σ o.guard=some true:=by kernel_rfl)(u:(MF ns).all (tmpsOf o).contains=true:=by kernel_rfl)(hh:(Gf T ops rest.length rest (σ.tN o.dst x)).isSome=true:=by kernel_rfl):Dn P ops (o::rest) σ (Jw M K):=Dn.p h (Dn.aW k hh) j q u
def Dn.Y [T:Kn P]{es':A8 Bd}(h:CJ P o ns σ.ents x es')(k:M (OT (Gf T ops rest.length rest (σ.put o.dst x es'))))(j:(ns.map λn=>σ.get n.1)=ns.map (·.2):=by kernel_rfl)(q:LK ops σ o.guard=some true:=by kernel_rfl)(u:(MF ns).all (tmpsOf o).contains=true:=by kernel_rfl)(hh:(Gf T ops rest.length rest (σ.put o.dst x es')).isSome=true:=by kernel_rfl):Dn P ops (o::rest) σ (Jw M K):=Dn.f h (Dn.aW k hh) j q u
def Dn.X [T:Kn P]{f:FuncId}(q:Ed P f dX [] j [])(k:M (OT (Gf T ops rest.length rest (σ.tN o.dst (j.up [] σ.ents.length)))))(u:IC P f=true:=by kernel_rfl)(z:WA σ o=some (f,dX):=by kernel_rfl)(hd:dX.all Ap.Dp=true:=by kernel_rfl)(I:LK ops σ o.guard=some true:=by kernel_rfl)(hh:(Gf T ops rest.length rest (σ.tN o.dst (j.up [] σ.ents.length))).isSome=true:=by kernel_rfl):Dn P ops (o::rest) σ (Jw M K):=Dn.ca q (Dn.aW k hh) u z hd I
def Dn.bi [T:Kn P](h:(bif b then u else v)=z)(j:u=z->Dn P ops rest (σ.tN o.dst (.d (.lit (.bool true)))) K:=by exact λh=>.aW<|Cj)(k2:v=z->Dn P ops rest (σ.tN o.dst (.d (.lit (.bool false)))) K:=by exact λh=>.aW<|Cj)(hs:(Zm T ops σ o).map (λr=>(r.x,r.E,r.bar))=some (.d (.lit (.bool b)),σ.ents,false):=by kernel_rfl):Dn P ops (o::rest) σ K:=EY h (λe h=>.c (BJ some e) (j h) hs) λe h=>.c (BJ some e) (k2 h) hs
def DI {G:Prop}(h:(bif b then u else v)=z)(j:b=true->u=z->G:=by exact λe i=>aRx)(k2:b=false->v=z->G:=by exact λe i=>aRx):G:=EY h j k2
def Ag [T:Kn P]{id:Nat}{y:Code}(k:Bo P y (OT (Gf T ops ops.toList.length ops.toList σ)) Q)(h:(Gf T ops ops.toList.length ops.toList σ).isSome=true:=by kernel_rfl):Bo P (.seq (.region id ops false) y) σ Q:=BU (.aW k h)
end
section
variable {P:Cc} {ops:Bg Oper} {l:A8 Oper} {σ:BR} {K:Exit->BR->Prop}
def Dn.mg (a c:Nat)(x:Ap)(h1:Dn P ops (l.take (c+1)) σ (Jw (λs=>s.wipe (List.range' a c)=(σ.wipe (List.range' a c)).tN (some (a+c)) x) K))(h2:Dn P ops (l.drop (c+1)) ((σ.wipe (List.range' a c)).tN (some (a+c)) x) K):Dn P ops l σ K:=.merge (c+1) (List.range' a c) (a+c) x h1 h2
end
variable {β:Type}{g:α->AB (Except BI β)}{r:Except BI β}
def PD {y:α}(h:NK (.ok y) g=some r):g y=some r:=h
def QA {u:BI}(h:NK (.error u) g=some r):some (.error u)=some r:=h
def CX :BP:=⟨#[]⟩
def qF (k:IntKind)(n:Int):D:=.lit (.int k n)
def aGK :BP:=⟨#[33,114,58,97]⟩
def a0e :BP:=⟨#[58]⟩
def a6m :BP:=⟨#[33]⟩
def aB9 :BP:=⟨#[64]⟩
def a6i :BP:=⟨#[64,33]⟩
def Ji :BP:=⟨#[84,101,120,116]⟩
def KG :BP:=⟨#[78]⟩
def O4 :BP:=⟨#[86,105,97]⟩
def NV :BP:=⟨#[76,101,118,101,108,115]⟩
def N7 :BP:=⟨#[65,108,108,111,119]⟩
def Na :BP:=⟨#[68,101,110,121]⟩
def KE :BP:=⟨#[84,97,114,103,101,116]⟩
def Nk :BP:=⟨#[84,104,114,101,97,100]⟩
def aLC :BP:=⟨#[64,117,58,97]⟩
def aPx :BP:=⟨#[97]⟩
def Em :BI:=.int .i64 0
def EU :BI:=.string CX
def IB :BI:=.slice none 0 0
def a4R :BI:=.agg #[IB,IB,Em,Em,Em,Em,Em,Em,Em]
def a7c :BI:=.agg #[EU,Em,Em,.bool false,EU,IB,IB,IB,IB,Em,Em,Em,Em,Em,Em,Em]
def a1p :BI:=.agg #[EU,Em]
def a8v :BI:=.agg #[Em,EU,EU,Em,.bool false,EU,Em,Em,IB,IB,EU,Em,Em,.bool false,EU,IB,IB,IB,IB,Em,Em,Em,Em,Em,Em,Em,Em,EU,Em]
def aAE :BI:=.agg #[EU,IB,IB,IB,IB,IB,Em,IB,IB]
def a8S :BI:=.agg #[Em,Em,Em,.bool false]
def a2j :BI:=.agg #[Em,EU,Em]
def aA8 :BI:=.agg #[Em,.nilFunc]
def aBK :BI:=.agg #[.map none,.map none,.map none]
def a4L :BI:=.agg #[EU,Em]
def a2d :BI:=.agg #[Em,IB,IB,Em]
def a1d :BI:=.agg #[IB]
def aRv :BI:=.agg #[Em,Em]
def a4j :BI:=.agg #[Em,Em,Em,Em,Em,Em,Em]
def aWp :BI:=.agg #[IB,IB,IB]
def a6q :BI:=.agg #[Em,Em]
def a3u :BI:=.agg #[Em]
def aAn :BI:=.agg #[Em,.nilFunc]
def aNi :BI:=.agg #[IB,IB,IB,IB,IB]
def aA0 :BI:=.agg #[]
def a6H :BI:=.agg #[IB]
def a5I :BI:=.agg #[Em,Em,Em,Em,Em]
def a4i :BI:=.agg #[IB,IB]
def a7e :BI:=.agg #[IB,IB]
def a7s :BI:=.agg #[Em,EU]
def a8F :BI:=.agg #[]
def a1u :BI:=.agg #[Em,Em,Em,IB]
def a5L :BI:=.agg #[Em,Em,Em]
structure IV where
 User:ByteArray
 N:Int
def FD (x:IV):D:=.agg [DW x.User,Ai x.N]
def aah :IV:=⟨CX,0⟩
instance : Inhabited IV:=⟨aah⟩
structure Jv where
 Kind:Int
 N:Int
def F7 (x:Jv):D:=.agg [Ai x.Kind,Ai x.N]
def aYF :Jv:=⟨0,0⟩
instance : Inhabited Jv:=⟨aYF⟩
structure Ch where
 Users:(List IV)
 Kinds:(List Jv)
 User:Int
 Message:Int
 State:Int
 gX:Int
 kR:Int
 oN:Int
 ig:Int
def FQ (x:Ch):D:=.agg [(BZ FD) x.Users,(BZ F7) x.Kinds,Ai x.User,Ai x.Message,Ai x.State,Ai x.gX,Ai x.kR,Ai x.oN,Ai x.ig]
def KX :Ch:=⟨[],[],0,0,0,0,0,0,0⟩
instance : Inhabited Ch:=⟨KX⟩
structure D6 where
 Text:ByteArray
 N:Int
 Target:Int
 Thread:Bool
 Via:ByteArray
 Allow:(List ByteArray)
 iy:(List ByteArray)
 Levels:Ch
def GI (x:D6):D:=.agg [DW x.Text,Ai x.N,Ai x.Target,E9 x.Thread,DW x.Via,(BZ DW) x.Allow,(BZ DW) x.iy,(BZ FD) x.Levels.Users,(BZ F7) x.Levels.Kinds,Ai x.Levels.User,Ai x.Levels.Message,Ai x.Levels.State,Ai x.Levels.gX,Ai x.Levels.kR,Ai x.Levels.oN,Ai x.Levels.ig]
def Eo :D6:=⟨CX,0,0,false,CX,[],[],KX⟩
instance : Inhabited D6:=⟨Eo⟩
structure PY where
 Server:ByteArray
 Sum:Int
def ah2 (x:PY):D:=.agg [DW x.Server,Ai x.Sum]
def jP :PY:=⟨CX,0⟩
instance : Inhabited PY:=⟨jP⟩
structure Aa where
 Id:Int
 Room:ByteArray
 bM:ByteArray
 Kind:Int
 State:Bool
 Key:ByteArray
 Time:Int
 Depth:Int
 bG:(List Int)
 bI:(List Int)
 Content:D6
 Hash:Int
 sH:PY
def BF (x:Aa):D:=.agg [Ai x.Id,DW x.Room,DW x.bM,Ai x.Kind,E9 x.State,DW x.Key,Ai x.Time,Ai x.Depth,(BZ Ai) x.bG,(BZ Ai) x.bI,DW x.Content.Text,Ai x.Content.N,Ai x.Content.Target,E9 x.Content.Thread,DW x.Content.Via,(BZ DW) x.Content.Allow,(BZ DW) x.Content.iy,(BZ FD) x.Content.Levels.Users,(BZ F7) x.Content.Levels.Kinds,Ai x.Content.Levels.User,Ai x.Content.Levels.Message,Ai x.Content.Levels.State,Ai x.Content.Levels.gX,Ai x.Content.Levels.kR,Ai x.Content.Levels.oN,Ai x.Content.Levels.ig,Ai x.Hash,DW x.sH.Server,Ai x.sH.Sum]
def Fe :Aa:=⟨0,CX,CX,0,false,CX,0,0,[],[],Eo,0,jP⟩
instance : Inhabited Aa:=⟨Fe⟩
structure FZ where
 Pos:Int
 Id:Int
 Status:Int
 Gone:Bool
def FK (x:FZ):D:=.agg [Ai x.Pos,Ai x.Id,Ai x.Status,E9 x.Gone]
def KZ :FZ:=⟨0,0,0,false⟩
instance : Inhabited FZ:=⟨KZ⟩
structure BO where
 Kind:Int
 Key:ByteArray
 Id:Int
def BX (x:BO):D:=.agg [Ai x.Kind,DW x.Key,Ai x.Id]
def amu :BO:=⟨0,CX,0⟩
instance : Inhabited BO:=⟨amu⟩
structure ZB where
 User:ByteArray
 Thread:Int
 Id:Int
 Time:Int
def aG (x:ZB):D:=.agg [DW x.User,Ai x.Thread,Ai x.Id,Ai x.Time]
def ajq :ZB:=⟨CX,0,0,0⟩
instance : Inhabited ZB:=⟨ajq⟩
structure Z8 where
 User:ByteArray
 Until:Int
def ZV (x:Z8):D:=.agg [DW x.User,Ai x.Until]
def aey :Z8:=⟨CX,0⟩
instance : Inhabited Z8:=⟨aey⟩
structure C9 where
 Id:ByteArray
 Events:(List Aa)
 Rows:(List FZ)
 Waiting:(List Aa)
 yK:(List Int)
 State:(List BO)
 Next:Int
 jX:(List ZB)
 o7:(List Z8)
def CZ (x:C9):D:=.agg [DW x.Id,(BZ BF) x.Events,(BZ FK) x.Rows,(BZ BF) x.Waiting,(BZ Ai) x.yK,(BZ BX) x.State,Ai x.Next,(BZ aG) x.jX,(BZ ZV) x.o7]
def OB :C9:=⟨CX,[],[],[],[],[],0,[],[]⟩
instance : Inhabited C9:=⟨OB⟩
structure PO where
 aFE:Int
 aDV:Nat
def Vl (x:PO):D:=.agg [Ai x.aFE,aUR x.aDV]
def aj3 :PO:=⟨0,0⟩
instance : Inhabited PO:=⟨aj3⟩
structure Fp where
 b_:(List Int)
def NS (x:Fp):D:=.agg [(BZ Dk) x.b_]
def aIj :Fp:=⟨[]⟩
instance : Inhabited Fp:=⟨aIj⟩
structure Ty where
 qj:Int
 nR:Int
def Ku (x:Ty):D:=.agg [Ai x.qj,Ai x.nR]
def a3g :Ty:=⟨0,0⟩
instance : Inhabited Ty:=⟨a3g⟩
structure kD where
 apY:Int
def ahv :kD:=⟨0⟩
instance : Inhabited kD:=⟨ahv⟩
structure Yo where
def a13 (x:Yo):D:=.agg []
def aXc :Yo:=⟨⟩
instance : Inhabited Yo:=⟨aXc⟩
structure PV where
 IG:(List BO)
 amF:(List Int)
 awM:(List Int)
def fJ (x:PV):D:=.agg [(BZ BX) x.IG,(BZ Ai) x.amF,(BZ Ai) x.awM]
def a7g :PV:=⟨[],[],[]⟩
instance : Inhabited PV:=⟨a7g⟩
structure Sm where
 nR:Int
 SE:Int
 Dl:Int
 aDW:(List Int)
def ML (x:Sm):D:=.agg [Ai x.nR,Ai x.SE,Ai x.Dl,(BZ Ai) x.aDW]
def ajN :Sm:=⟨0,0,0,[]⟩
instance : Inhabited Sm:=⟨ajN⟩
structure Vd where
 adN:Int
 adO:ByteArray
def MQ (x:Vd):D:=.agg [Ai x.adN,DW x.adO]
def aZk :Vd:=⟨0,CX⟩
instance : Inhabited Vd:=⟨aZk⟩
structure ay where
 aB1:(List Int)
def yj (x:ay):D:=.agg [(BZ Ai) x.aB1]
def aaQ :ay:=⟨[]⟩
instance : Inhabited ay:=⟨aaQ⟩
structure MZ where
 nR:Int
 zV:Int
 Dl:Int
def PU (x:MZ):D:=.agg [Ai x.nR,Ai x.zV,Ai x.Dl]
def abv :MZ:=⟨0,0,0⟩
instance : Inhabited MZ:=⟨abv⟩
structure JD where
 Id:Int
 Before:(List BO)
 After:(List BO)
 Err:Int
def MX (x:JD):D:=.agg [Ai x.Id,(BZ BX) x.Before,(BZ BX) x.After,Ai x.Err]
def WL :JD:=⟨0,[],[],0⟩
instance : Inhabited JD:=⟨WL⟩
structure PZ where
 Same:(List BO)
 Power:(List Int)
 First:(List BO)
 Others:(List Int)
 Last:(List BO)
def fH (x:PZ):D:=.agg [(BZ BX) x.Same,(BZ Ai) x.Power,(BZ BX) x.First,(BZ Ai) x.Others,(BZ BX) x.Last]
def Xf :PZ:=⟨[],[],[],[],[]⟩
instance : Inhabited PZ:=⟨Xf⟩
def ahR :ED Aw 38 10 10:=EK AA
def VR :Ei Aw 34 true 16:=Fj AA
def aUs :(Aw.info? 34).bind (·.zero)=some (a7c):=AA
def ad6 :ED Aw 38 8 8:=EK AA
def aIg :Ei Aw 27 false 1:=Fj AA
def Jc :Aw.underlying 27=some (.slice 3):=AA
def aXD :ED Aw 38 9 9:=EK AA
def abr :ED Aw 34 5 5:=EK AA
def aaF :Ei Aw 28 false 1:=Fj AA
def agJ :Aw.underlying 28=some (.slice 9):=AA
def alH :ED Aw 34 6 6:=EK AA
def ajF :ED Aw 34 7 7:=EK AA
def aaU :ED Aw 32 0 0:=EK AA
def aSu :Ei Aw 29 false 1:=Fj AA
def aMn :Aw.underlying 29=some (.slice 146):=AA
def abm :ED Aw 32 1 1:=EK AA
def aVP :Ei Aw 30 false 1:=Fj AA
def aVo :Aw.underlying 30=some (.slice 221):=AA
def aeZ :ED Aw 38 1 1:=EK AA
def Qr :Ei Aw 9 false 1:=Fj AA
def Hg :Aw.underlying 9=some (.string):=AA
def aXi :ED Aw 38 2 2:=EK AA
def ahc :ED Aw 38 5 5:=EK AA
def aXH :ED Aw 34 0 0:=EK AA
def abN :ED Aw 34 4 4:=EK AA
def aeS :ED Aw 38 12 27:=EK AA
def aiM :ED Aw 36 0 0:=EK AA
def abu :Ei Aw 146 true 2:=Fj AA
def ab2 :ED Aw 146 0 0:=EK AA
def NW :Aw.underlying 22=some (.slice 38):=AA
def IY :Ei Aw 38 true 29:=Fj AA
def abJ :ED Aw 34 1 1:=EK AA
def Ep :Ei Aw 3 false 1:=Fj AA
def aZ7 :Jq Aw 34 [(0,1),(1,1),(2,1),(3,1),(4,1),(5,1),(6,1),(7,9)] (a7c):=Md AA aUs AA
def Zq :Ei Aw 32 true 9:=Fj AA
def adT :ED Aw 34 2 2:=EK AA
def OJ :(Aw.info? 38).bind (·.zero)=some (a8v):=AA
def aib :ED Aw 38 3 3:=EK AA
def XU :Ei Aw 26 false 1:=Fj AA
def atZ :BD 192=true:=AA
def ak6 :ED Aw 146 1 1:=EK AA
def aXX :Ei Aw 221 true 2:=Fj AA
def alB :ED Aw 221 0 0:=EK AA
def aip :ED Aw 221 1 1:=EK AA
def aaE :ED Aw 32 2 2:=EK AA
def akd :ED Aw 32 3 3:=EK AA
def aiG :ED Aw 32 4 4:=EK AA
def ahm :ED Aw 32 5 5:=EK AA
def adQ :ED Aw 32 6 6:=EK AA
def abS :ED Aw 32 7 7:=EK AA
def alL :ED Aw 32 8 8:=EK AA
def ajn :ED Aw 34 3 3:=EK AA
def aGJ :Ei Aw 4 false 1:=Fj AA
def aO6 :Aw.underlying 4=some (.bool):=AA
def asQ :BD 181=true:=AA
def aq5 :BD 182=true:=AA
def aXy :ED Aw 38 0 0:=EK AA
def aZO :ED Aw 38 4 4:=EK AA
def aZn :ED Aw 38 6 6:=EK AA
def aZJ :ED Aw 38 7 7:=EK AA
def aoF :BD 43=true:=AA
def atU :BD 106=true:=AA
def aZl :ED Aw 38 11 26:=EK AA
def ac5 :ED Aw 36 1 1:=EK AA
def QN :Aw.underlying 3=some (.int .i64):=AA
def adD :Aw.underlying 202=some (.int .u64):=AA
def a3R :Aw.underlying 5=some (.int .u8):=AA
def Jz :GU Aw 95 5 1 1:=KP AA
def Rk :(Aw.info? 5).bind (·.zero)=some (.int .u8 0):=AA
def aqo :BD 194=true:=AA
def Yc :BD 117=true:=AA
def a2f :Aw.underlying 95=some (.slice 5):=AA
def aC2 :BD 116=true:=AA
def Dy :GU Aw 27 3 1 8:=KP AA
def zero3 :(Aw.info? 3).bind (·.zero)=some (.int .i64 0):=AA
def afB :BD 328=true:=AA
def aVu :BD 329=true:=AA
def zero32 :(Aw.info? 32).bind (·.zero)=some (a4R):=AA
def asY :BD 330=true:=AA
def ajw :Ei Aw 5 false 1:=Fj AA
def as2 :BD 196=true:=AA
def aoA :BD 195=true:=AA
def aoi :BD 265=true:=AA
def asl :BD 119=true:=AA
def atl :BD 193=true:=AA
def arV :BD 114=true:=AA
def aoR :BD 36=true:=AA
def ash :BD 115=true:=AA
def arh :BD 42=true:=AA
def aqI :BD 183=true:=AA
def asT :BD 197=true:=AA
def atO :BD 198=true:=AA
def acC :ED Aw 45 1 1:=EK AA
def abf :Ei Aw 22 false 1:=Fj AA
def a4J :BD 125=true:=AA
def ara :BD 268=true:=AA
def aiF :Aw.underlying 203=some (.int .u64):=AA
def arb :BD 199=true:=AA
def arR :BD 200=true:=AA
def arY :BD 126=true:=AA
def Q5 :Ei Aw 45 true 9:=Fj AA
def aps :BD 51=true:=AA
def aov :BD 107=true:=AA
def aq3 :BD 122=true:=AA
def aor :BD 121=true:=AA
def asW :BD 120=true:=AA
def a3H :(Aw.info? 79).bind (·.zero)=some (a8S):=AA
def ahj :ED Aw 45 2 2:=EK AA
def afY :Ei Aw 39 false 1:=Fj AA
def aPF :Aw.underlying 39=some (.slice 79):=AA
def tV :Ei Aw 79 true 4:=Fj AA
def acj :ED Aw 79 1 1:=EK AA
def akx :Jq Aw 79 [(0,1),(1,1),(2,1),(3,1)] (a8S):=Md AA a3H AA
def ata :BD 32=true:=AA
def afQ :ED Aw 79 2 2:=EK AA
def aCT :Ei Aw 71 false 1:=Fj AA
def atF :BD 124=true:=AA
def apj :BD 123=true:=AA
def ae4 :ED Aw 45 0 0:=EK AA
def arQ :BD 47=true:=AA
def ao7 :BD 48=true:=AA
def aak :ED Aw 45 5 5:=EK AA
def adv :Ei Aw 41 false 1:=Fj AA
def ku :Aw.underlying 41=some (.slice 82):=AA
def Qn :Ei Aw 82 true 3:=Fj AA
def RS :(Aw.info? 82).bind (·.zero)=some (a2j):=AA
def aga :ED Aw 82 0 0:=EK AA
def amx :ED Aw 82 1 1:=EK AA
def ads :ED Aw 82 2 2:=EK AA
def asH :BD 50=true:=AA
def alK :BD 33=true:=AA
def akX :Jq Aw 38 [(0,1),(1,1),(2,1),(3,1),(4,1),(5,1),(6,1),(7,1),(8,1),(9,1),(10,16),(26,1),(27,2)] (a8v):=Md AA OJ AA
def JG :GU Aw 22 38 29 376:=KP AA
def aAR :GU Aw 39 79 4 32:=KP AA
def aOt :(Aw.info? 45).bind (·.zero)=some (aAE):=AA
def ajM :Jq Aw 45 [(0,1),(1,1),(2,1),(3,1),(4,1),(5,1),(6,1),(7,1),(8,1)] (aAE):=Md AA aOt AA
def arf :BD 342=true:=AA
def ang :BD 274=true:=AA
def aqY :BD 271=true:=AA
def as7 :BD 269=true:=AA
def abo :BD 272=true:=AA
def akZ :BD 270=true:=AA
def atK :BD 203=true:=AA
def anq :BD 204=true:=AA
def arX :BD 202=true:=AA
def apA :BD 201=true:=AA
def asG :BD 130=true:=AA
def atB :BD 166=true:=AA
def aqt :BD 89=true:=AA
def atJ :BD 277=true:=AA
def atL :BD 214=true:=AA
def asK :BD 215=true:=AA
def uT :(Aw.info? 146).bind (·.zero)=some (a4L):=AA
def aO3 :(Aw.info? 221).bind (·.zero)=some (aRv):=AA
def aLi :(Aw.info? 222).bind (·.zero)=some (a4j):=AA
def aiV :jW Aw 222 1 (a4j):=a2z AA aLi AA
def a2a :Aw.underlying 222=some (.array 7 3):=AA
def ati :BD 134=true:=AA
def ap3 :BD 60=true:=AA
def OC :GU Aw 28 9 1 16:=KP AA
def uP :GU Aw 29 146 2 24:=KP AA
def aJp :GU Aw 30 221 2 16:=KP AA
def aqx :BD 291=true:=AA
def apf :BD 238=true:=AA
def anf :BD 239=true:=AA
def aqL :BD 240=true:=AA
def aoB :BD 149=true:=AA
def asL :BD 289=true:=AA
def aqU :BD 290=true:=AA
def apX :BD 354=true:=AA
def anr :BD 355=true:=AA
def arP :BD 358=true:=AA
def aog :BD 292=true:=AA
def aoJ :BD 356=true:=AA
def aqj :BD 357=true:=AA
def aqg :BD 293=true:=AA
def aKq :(Aw.info? 276).bind (·.zero)=some (aAn):=AA
def aat :Jq Aw 276 [(0,1),(1,1)] (aAn):=Md AA aKq AA
def afx :GU Aw 277 276 2 16:=KP AA
def acA :Aw.underlying 277=some (.slice 276):=AA
def ahk :Ei Aw 276 true 2:=Fj AA
def aZ6 :ED Aw 276 0 0:=EK AA
def acQ :ED Aw 276 1 1:=EK AA
def amW :Ei Aw 236 false 1:=Fj AA
def arW :BD 300=true:=AA
def air :BD 294=true:=AA
def ahx :BD 295=true:=AA
def aZ4 :BD 296=true:=AA
def aaz :BD 297=true:=AA
def aju :BD 298=true:=AA
def ahH :BD 299=true:=AA
def aqn :BD 301=true:=AA
def aoH :BD 231=true:=AA
def apa :BD 232=true:=AA
def aoc :BD 233=true:=AA
def atN :BD 234=true:=AA
def a8X (x y:IV):Ad:=(x.User.toList==y.User.toList&&(x.N==y.N&&true))
def afM (x y:IV):Vz Aw 2 146 [.string x.User,.int .i64 x.N] [.string y.User,.int .i64 y.N] (a8X x y):=⟨λd w=>Zo AA AA AA (l:=[(9,0),(3,1)]) AA (Ll (GR Qr AA w) (GR Qr AA w) (a08 w _ _ _ _ Hg)<|Ll (GR Ep AA w) (GR Ep AA w) (QB w _ _ .i64 _ _ _ QN)<|Yy _ _ _ _)⟩
def aXz :Program.eqGuardType Aw (Program.depth Aw) 146=false:=AA
def aJc :Aw.underlying 26=some (.int .i64):=AA
def aAz (x y:Jv):Ad:=(x.Kind==y.Kind&&(x.N==y.N&&true))
def afW (x y:Jv):Vz Aw 2 221 [.int .i64 x.Kind,.int .i64 x.N] [.int .i64 y.Kind,.int .i64 y.N] (aAz x y):=⟨λd w=>Zo AA AA AA (l:=[(26,0),(3,1)]) AA (Ll (GR XU AA w) (GR XU AA w) (QB w _ _ .i64 _ _ _ aJc)<|Ll (GR Ep AA w) (GR Ep AA w) (QB w _ _ .i64 _ _ _ QN)<|Yy _ _ _ _)⟩
def aYN :Program.eqGuardType Aw (Program.depth Aw) 221=false:=AA
def arJ :BD 235=true:=AA
def aqE :BD 236=true:=AA
def asU :BD 237=true:=AA
def aU0 :(Aw.info? 209).bind (·.zero)=some (a1d):=AA
def aaD :Jq Aw 209 [(0,1)] (a1d):=Md AA aU0 AA
def ame :ED Aw 209 0 0:=EK AA
def aZF :Ei Aw 95 false 1:=Fj AA
def apL :BD 206=true:=AA
def aon :BD 205=true:=AA
def zero9 :(Aw.info? 9).bind (·.zero)=some (.string CX):=AA
def aoY :BD 208=true:=AA
def arp :BD 207=true:=AA
def amv :GU Aw 258 4 1 1:=KP AA
def xF :(Aw.info? 4).bind (·.zero)=some (.bool false):=AA
def ai8 :Aw.underlying 258=some (.slice 4):=AA
def aoG :BD 210=true:=AA
def atI :BD 209=true:=AA
def a2v :GU Aw 244 27 1 24:=KP AA
def pK :(Aw.info? 27).bind (·.zero)=some (.slice none 0 0):=AA
def a4e :Aw.underlying 244=some (.slice 27):=AA
def apH :BD 343=true:=AA
def apK :BD 275=true:=AA
def aoe :BD 212=true:=AA
def aq4 :BD 211=true:=AA
def arq :BD 131=true:=AA
def aVp :(Aw.info? 36).bind (·.zero)=some (a1p):=AA
def aa0 :Jq Aw 36 [(0,1),(1,1)] (a1p):=Md AA aVp AA
def aeN :Ei Aw 36 true 2:=Fj AA
def aoz :BD 132=true:=AA
def apT :BD 147=true:=AA
def anh :BD 137=true:=AA
def aop :BD 148=true:=AA
def aqd :BD 58=true:=AA
def arZ :BD 57=true:=AA
def a7C (x y:PY):Ad:=(x.Server.toList==y.Server.toList&&(x.Sum==y.Sum&&true))
def anZ (x y:PY):Vz Aw 2 36 [.string x.Server,.int .i64 x.Sum] [.string y.Server,.int .i64 y.Sum] (a7C x y):=⟨λd w=>Zo AA AA AA (l:=[(9,0),(3,1)]) AA (Ll (GR Qr AA w) (GR Qr AA w) (a08 w _ _ _ _ Hg)<|Ll (GR Ep AA w) (GR Ep AA w) (QB w _ _ .i64 _ _ _ QN)<|Yy _ _ _ _)⟩
def aly :Program.eqGuardType Aw (Program.depth Aw) 36=false:=AA
def asN :BD 74=true:=AA
def aph :BD 172=true:=AA
def aji :BD 217=true:=AA
def asZ :BD 138=true:=AA
def aqV :BD 139=true:=AA
def aqh :BD 140=true:=AA
def RH :Aw.underlying 196=some (.map 3 4):=AA
def I8 :KeyTy Aw 3 Cm:=ad9 QN
def anx :BD 184=true:=AA
def arE :BD 109=true:=AA
def Pv :Aw.underlying 183=some (.map 3 3):=AA
def atM :BD 169=true:=AA
def aZp :(Aw.info? 183).bind (·.zero)=some (.map none):=AA
def ace :Ei Aw 183 false 1:=Fj AA
def apk :BD 255=true:=AA
def as5 :BD 168=true:=AA
def aq8 :BD 170=true:=AA
def aBX :GU Aw 249 251 2 16:=KP AA
def a5M :(Aw.info? 251).bind (·.zero)=some (a6q):=AA
def aeg :Jq Aw 251 [(0,1),(1,1)] (a6q):=Md AA a5M AA
def YK :Aw.underlying 249=some (.slice 251):=AA
def Ux :Ei Aw 251 true 2:=Fj AA
def aYe :ED Aw 251 0 0:=EK AA
def acy :ED Aw 251 1 1:=EK AA
def U4 :Aw.underlying 40=some (.slice 82):=AA
def alE :Jq Aw 82 [(0,1),(1,1),(2,1)] (a2j):=Md AA RS AA
def asM :BD 405=true:=AA
def apn :BD 403=true:=AA
def aXM :BD 404=true:=AA
def aaT :BD 406=true:=AA
def asI :BD 327=true:=AA
def aHn :Aw.underlying 190=some (.slice 41):=AA
def as3 :BD 323=true:=AA
def UQ :(Aw.info? 41).bind (·.zero)=some (.slice none 0 0):=AA
def aXU :Ei Aw 190 false 1:=Fj AA
def ar8 :BD 229=true:=AA
def aV3 :BD 288=true:=AA
def ap0 :BD 393=true:=AA
def NH :GU Aw 41 82 3 32:=KP AA
def aam :BD 434=true:=AA
def am0 :BD 435=true:=AA
def aUy :BD 396=true:=AA
def aow :BD 433=true:=AA
def asF :BD 319=true:=AA
def ar2 :BD 394=true:=AA
def ap9 :BD 452=true:=AA
def aVi :BD 436=true:=AA
def ao0 :BD 64=true:=AA
def asi :BD 395=true:=AA
def ap2 :BD 397=true:=AA
def zI :BD 261=true:=AA
def ahw :BD 459=true:=AA
def aqS :BD 457=true:=AA
def aqA :BD 441=true:=AA
def aqC :BD 458=true:=AA
def as4 :BD 223=true:=AA
def aSm :(Aw.info? 263).bind (·.zero)=some (a3u):=AA
def akl :Jq Aw 263 [(0,1)] (a3u):=Md AA aSm AA
def aYS :(match Aw.underlying 263 with |some (.interface _)=>false|some _=>true|none=>false)=true:=AA
def xJ :BD 225=true:=AA
def VH :BD 224=true:=AA
def aok :BD 280=true:=AA
def aoO :BD 227=true:=AA
def aOv :(Aw.info? 311).bind (·.zero)=some (a5I):=AA
def anD :jW Aw 311 1 (a5I):=a2z AA aOv AA
def adp :Ei Aw 311 true 5:=Fj AA
def aPC :Aw.underlying 311=some (.array 5 3):=AA
def apI :BD 282=true:=AA
def arC :BD 345=true:=AA
def aqK :BD 346=true:=AA
def asX :BD 347=true:=AA
def apb :BD 283=true:=AA
def aco :BD 415=true:=AA
def aof :BD 348=true:=AA
def ao4 :BD 349=true:=AA
def aoj :BD 350=true:=AA
def ajG :Jq Aw 32 [(0,1),(1,1),(2,1),(3,1),(4,1),(5,1),(6,1),(7,1),(8,1)] (a4R):=Md AA zero32 AA
def alb :Jq Aw 146 [(0,1),(1,1)] (a4L):=Md AA uT AA
def aqv :BD 351=true:=AA
def apQ :BD 284=true:=AA
def aro :BD 285=true:=AA
def aeu :BD 281=true:=AA
def asv :BD 221=true:=AA
def asa :BD 226=true:=AA
def atC :BD 286=true:=AA
def aNA :Ei Aw 222 true 7:=Fj AA
def aPm :BD 353=true:=AA
def aL0 :BD 352=true:=AA
def aRP :(Aw.info? 320).bind (·.zero)=some (a4i):=AA
def acr :jW Aw 320 1 (a4i):=a2z AA aRP AA
def afR :Aw.underlying 320=some (.array 2 30):=AA
def aSZ :(Aw.info? 321).bind (·.zero)=some (a7e):=AA
def anO :jW Aw 321 1 (a7e):=a2z AA aSZ AA
def aXF :Aw.underlying 321=some (.array 2 29):=AA
def ar1 :BD 287=true:=AA
def aqQ :BD 228=true:=AA
def ahS :BD 222=true:=AA
def aoW :BD 456=true:=AA
def aoo :BD 143=true:=AA
def aLQ :(Aw.info? 378).bind (·.zero)=some (a8F):=AA
def alT :Jq Aw 378 [] (a8F):=Md AA aLQ AA
def aZj :(match Aw.underlying 378 with |some (.interface _)=>false|some _=>true|none=>false)=true:=AA
def aqM :BD 437=true:=AA
def aqu :BD 438=true:=AA
def ao3 :BD 399=true:=AA
def aNK :BD 439=true:=AA
def aqP :BD 440=true:=AA
def abP :(Aw.info? 247).bind (·.zero)=some (aWp):=AA
def anw :BD 320=true:=AA
def atY :BD 321=true:=AA
def aRc :(Aw.info? 292).bind (·.zero)=some (aA0):=AA
def acf :Jq Aw 292 [] (aA0):=Md AA aRc AA
def aiu :(match Aw.underlying 292 with |some (.interface _)=>false|some _=>true|none=>false)=true:=AA
def aCH :(Aw.info? 347).bind (·.zero)=some (a7s):=AA
def aXG :Jq Aw 347 [(0,1),(1,1)] (a7s):=Md AA aCH AA
def aDP :GU Aw 342 347 2 24:=KP AA
def asC :BD 400=true:=AA
def aIb :Aw.underlying 342=some (.slice 347):=AA
def aDl :Ei Aw 347 true 2:=Fj AA
def ahz :ED Aw 347 0 0:=EK AA
def afz :ED Aw 347 1 1:=EK AA
def aRr :BD 402=true:=AA
def apq :BD 326=true:=AA
def asx :BD 479=true:=AA
def aK4 :(Aw.info? 411).bind (·.zero)=some (a1u):=AA
def aZg :Jq Aw 411 [(0,1),(1,1),(2,1),(3,1)] (a1u):=Md AA aK4 AA
def aDn :GU Aw 408 411 4 48:=KP AA
def asb :BD 477=true:=AA
def aIG :Aw.underlying 408=some (.slice 411):=AA
def aF1 :Ei Aw 411 true 4:=Fj AA
def amc :ED Aw 411 3 3:=EK AA
def amm :ED Aw 411 0 0:=EK AA
def aZR :ED Aw 411 1 1:=EK AA
def agV :ED Aw 411 2 2:=EK AA
def acM :BD 478=true:=AA
def aoM :BD 476=true:=AA
def aYn :BD 475=true:=AA
def aZ9 :tC Aw 292 "fedchat/resolve.sort" 475=true:=AA
def asu :BD 398=true:=AA
def aqi :BD 322=true:=AA
def ajP :ED Aw 247 1 1:=EK AA
def aqB :BD 324=true:=AA
def aMV :(Aw.info? 296).bind (·.zero)=some (a6H):=AA
def ai7 :Jq Aw 296 [(0,1)] (a6H):=Md AA aMV AA
def alU :(match Aw.underlying 296 with |some (.interface _)=>false|some _=>true|none=>false)=true:=AA
def anG :ED Aw 296 0 0:=EK AA
def aql :BD 482=true:=AA
def aGf :(Aw.info? 415).bind (·.zero)=some (a5L):=AA
def aZv :Jq Aw 415 [(0,1),(1,1),(2,1)] (a5L):=Md AA aGf AA
def aPn :GU Aw 413 415 3 24:=KP AA
def atQ :BD 483=true:=AA
def a0c :Aw.underlying 413=some (.slice 415):=AA
def sU :Ei Aw 415 true 3:=Fj AA
def yI (x y:MZ):Ad:=(x.nR==y.nR&&(x.zV==y.zV&&(x.Dl==y.Dl&&true)))
def aea (x y:MZ):Vz Aw 2 415 [.int .i64 x.nR,.int .i64 x.zV,.int .i64 x.Dl] [.int .i64 y.nR,.int .i64 y.zV,.int .i64 y.Dl] (yI x y):=⟨λd w=>Zo AA AA AA (l:=[(3,0),(3,1),(3,2)]) AA (Ll (GR Ep AA w) (GR Ep AA w) (QB w _ _ .i64 _ _ _ QN)<|Ll (GR Ep AA w) (GR Ep AA w) (QB w _ _ .i64 _ _ _ QN)<|Ll (GR Ep AA w) (GR Ep AA w) (QB w _ _ .i64 _ _ _ QN)<|Yy _ _ _ _)⟩
def ajh :Program.eqGuardType Aw (Program.depth Aw) 415=false:=AA
def arB :BD 486=true:=AA
def aaX :ED Aw 415 0 0:=EK AA
def ap6 :BD 481=true:=AA
def aaI :BD 480=true:=AA
def alu :tC Aw 296 "fedchat/resolve.sort" 480=true:=AA
def afZ :ED Aw 247 0 0:=EK AA
def adV :ED Aw 247 2 2:=EK AA
def aPc :Ei Aw 247 true 3:=Fj AA
def aoQ :BD 259=true:=AA
def anS :qR Aw 247 0 0 false 1=true:=AA
def apW :BD 401=true:=AA
def zero22 :(Aw.info? 22).bind (·.zero)=some (.slice none 0 0):=AA
def aqf :BD 325=true:=AA
def aXa :ED Aw 142 2 2:=EK AA
def alk :Ei Aw 140 false 1:=Fj AA
def xg :Aw.underlying 140=some (.map 3 64):=AA
def zero64 :(Aw.info? 64).bind (·.zero)=some (.int .i64 0):=AA
def asR :BD 144=true:=AA
def aYv :ED Aw 142 1 1:=EK AA
def afe :Ei Aw 139 false 1:=Fj AA
def kP :Aw.underlying 139=some (.map 3 41):=AA
def ZQ :GU Aw 190 41 1 24:=KP AA
def asw :BD 178=true:=AA
def anz :BD 260=true:=AA
def aef :ED Aw 142 0 0:=EK AA
def ao5 :BD 167=true:=AA
def atj :BD 91=true:=AA
def aMc :(Aw.info? 142).bind (·.zero)=some (aBK):=AA
def aQu :Jq Aw 142 [(0,1),(1,1),(2,1)] (aBK):=Md AA aMc AA
def asE :BD 179=true:=AA
def atg :BD 180=true:=AA
def aod :BD 104=true:=AA
def alA :BD 220=true:=AA
def aRh :GU Aw 186 71 1 8:=KP AA
def aWc :(Aw.info? 71).bind (·.zero)=some (.int .i64 0):=AA
def ao6 :BD 171=true:=AA
def ae3 :Aw.underlying 186=some (.slice 71):=AA
def arl :BD 105=true:=AA
def akW :Ei Aw 136 false 1:=Fj AA
def arj :BD 258=true:=AA
def apO :BD 257=true:=AA
def aoZ :BD 177=true:=AA
def arO :BD 176=true:=AA
def anu :BD 175=true:=AA
def ark :BD 65=true:=AA
def ap1 :BD 141=true:=AA
def alQ :ED Aw 45 6 6:=EK AA
def at6 :BD 142=true:=AA
def acu :BD 145=true:=AA
def apo :BD 101=true:=AA
def apR :BD 103=true:=AA
def alv :ED Aw 45 4 4:=EK AA
def ade :Aw.underlying 233=some (.slice 22):=AA
def aq7 :BD 230=true:=AA
def aXk :ED Aw 45 3 3:=EK AA
def aos :BD 66=true:=AA
def anP :GU Aw 233 22 1 24:=KP AA
def aoq :BD 146=true:=AA
def apg :BD 67=true:=AA
def apy :BD 63=true:=AA
def aqa :BD 68=true:=AA
def atP :BD 30=true:=AA
def asn :BD 20=true:=AA
def aZ0 :ED Aw 45 7 7:=EK AA
def adw :Ei Aw 42 false 1:=Fj AA
def abd :Aw.underlying 42=some (.slice 102):=AA
def aZQ :ED Aw 45 8 8:=EK AA
def ag5 :Ei Aw 43 false 1:=Fj AA
def al5 :Aw.underlying 43=some (.slice 104):=AA
def apC :BD 216=true:=AA
def ars :BD 62=true:=AA
def asJ :BD 135=true:=AA
def asz :BD 136=true:=AA
def anm :BD 61=true:=AA
def aoI :BD 368=true:=AA
def aqF :BD 249=true:=AA
def aob :BD 76=true:=AA
def apV :BD 369=true:=AA
def aqR :BD 370=true:=AA
def ar9 :BD 451=true:=AA
def aqp :BD 426=true:=AA
def aol :BD 427=true:=AA
def aqr :BD 428=true:=AA
def aoP :BD 431=true:=AA
def apl :BD 371=true:=AA
def ao1 :BD 429=true:=AA
def asj :BD 430=true:=AA
def aqD :BD 372=true:=AA
def aoy :BD 373=true:=AA
def aoh :BD 374=true:=AA
def ard :BD 375=true:=AA
def ar5 :BD 376=true:=AA
def arD :BD 377=true:=AA
def arU :BD 378=true:=AA
def asD :BD 379=true:=AA
def ape :BD 380=true:=AA
def aqm :BD 303=true:=AA
def aq0 :BD 304=true:=AA
def ar0 :BD 381=true:=AA
def aqH :BD 305=true:=AA
def aoL :BD 245=true:=AA
def aqc :BD 246=true:=AA
def atW :BD 19=true:=AA
def anl :BD 159=true:=AA
def atA :BD 150=true:=AA
def atm :BD 187=true:=AA
def aqX :BD 160=true:=AA
def atn :BD 111=true:=AA
def arz :BD 112=true:=AA
def anC :BD 84=true:=AA
def aqz :BD 151=true:=AA
def aru :BD 152=true:=AA
def apc :BD 306=true:=AA
def aa6 :BD 307=true:=AA
def aK9 :(Aw.info? 174).bind (·.zero)=some (a2d):=AA
def a3Y :Aw.underlying 171=some (.slice 174):=AA
def Zp :Ei Aw 174 true 4:=Fj AA
def af2 :ED Aw 174 0 0:=EK AA
def aYR :Jq Aw 174 [(0,1),(1,1),(2,1),(3,1)] (a2d):=Md AA aK9 AA
def aqW :BD 364=true:=AA
def aHO :BD 262=true:=AA
def asA :BD 416=true:=AA
def apw :BD 186=true:=AA
def ath :BD 185=true:=AA
def atT :BD 367=true:=AA
def aeT :BD 446=true:=AA
def aQZ :BD 110=true:=AA
def aqy :BD 447=true:=AA
def asr :BD 445=true:=AA
def ahd :BD 420=true:=AA
def aqZ :BD 444=true:=AA
def asO :BD 359=true:=AA
def ao8 :BD 417=true:=AA
def aq9 :BD 418=true:=AA
def aoS :BD 419=true:=AA
def gu :GU Aw 40 82 3 32:=KP AA
def aq2 :BD 432=true:=AA
def ap5 :BD 383=true:=AA
def aqT :BD 382=true:=AA
def apx :BD 389=true:=AA
def apu :BD 309=true:=AA
def arT :BD 315=true:=AA
def atD :BD 316=true:=AA
def arw :BD 448=true:=AA
def apS :BD 421=true:=AA
def anv :BD 422=true:=AA
def afE :BD 449=true:=AA
def aqN :BD 251=true:=AA
def atH :BD 385=true:=AA
def aot :BD 386=true:=AA
def ap4 :BD 387=true:=AA
def aoE :BD 388=true:=AA
def asc :BD 253=true:=AA
def aq6 :BD 311=true:=AA
def ase :BD 312=true:=AA
def ar4 :BD 313=true:=AA
def arS :BD 314=true:=AA
def apt :BD 391=true:=AA
def apM :BD 390=true:=AA
def aqO :BD 317=true:=AA
def arK :BD 392=true:=AA
def atG :BD 318=true:=AA
def ap8 :BD 252=true:=AA
def aqJ :BD 254=true:=AA
def asB :BD 310=true:=AA
def atc :BD 423=true:=AA
def at1 :BD 162=true:=AA
def apm :BD 250=true:=AA
def atd :BD 424=true:=AA
def arv :BD 365=true:=AA
def ao2 :BD 455=true:=AA
def apJ :BD 450=true:=AA
def ate :BD 425=true:=AA
def adk :(Aw.info? 281).bind (·.zero)=some (aNi):=AA
def af0 :ED Aw 281 0 0:=EK AA
def aox :BD 360=true:=AA
def arx :BD 361=true:=AA
def atV :BD 362=true:=AA
def aic :ED Aw 281 1 1:=EK AA
def atf :BD 363=true:=AA
def ah4 :ED Aw 281 2 2:=EK AA
def ari :BD 366=true:=AA
def aXn :ED Aw 281 3 3:=EK AA
def ahf :ED Aw 281 4 4:=EK AA
def aOs :Ei Aw 281 true 5:=Fj AA
def apU :BD 302=true:=AA
def amQ :qR Aw 281 4 4 false 1=true:=AA
def aN2 :BD 384=true:=AA
def asf :BD 308=true:=AA
def as8 :BD 155=true:=AA
def acn :ED Aw 174 3 3:=EK AA
def akG :Ei Aw 64 false 1:=Fj AA
def apN :BD 163=true:=AA
def aoT :BD 247=true:=AA
def adl :ED Aw 174 2 2:=EK AA
def ar6 :BD 244=true:=AA
def ael :ED Aw 174 1 1:=EK AA
def aoK :BD 248=true:=AA
def aPj :GU Aw 171 174 4 64:=KP AA
def apG :BD 161=true:=AA
def apZ :BD 78=true:=AA
def aoN :BD 241=true:=AA
def akF :ED Aw 79 0 0:=EK AA
def asq :BD 153=true:=AA
def asy :BD 154=true:=AA
def anp :BD 156=true:=AA
def aoC :BD 77=true:=AA
def at7 :BD 86=true:=AA
def as9 :BD 243=true:=AA
def aoa :BD 242=true:=AA
def ao9 :BD 157=true:=AA
def arA :BD 158=true:=AA
def apv :BD 79=true:=AA
def atX :BD 80=true:=AA
def ar7 :BD 81=true:=AA
def aom :BD 37=true:=AA
def as6 :BD 82=true:=AA
def ank :BD 71=true:=AA
def aqw :BD 108=true:=AA
def aqb :BD 256=true:=AA
def ajK :BD 173=true:=AA
def aso :BD 174=true:=AA
def apB :BD 90=true:=AA
def aqe :BD 92=true:=AA
def afa :(Aw.info? 93).bind (·.zero)=some (.nilFunc):=AA
def ac4 :Ei Aw 93 false 1:=Fj AA
def aqk :BD 95=true:=AA
def aYp :BD 93=true:=AA
def aH1 :(Aw.info? 134).bind (·.zero)=some (aA8):=AA
def aYD :Jq Aw 134 [(0,1),(1,1)] (aA8):=Md AA aH1 AA
def ajV :BD 97=true:=AA
def asV :BD 100=true:=AA
def aIm (x y:BO):Ad:=(x.Kind==y.Kind&&(x.Key.toList==y.Key.toList&&(x.Id==y.Id&&true)))
def anQ (x y:BO):Vz Aw 2 82 [.int .i64 x.Kind,.string x.Key,.int .i64 x.Id] [.int .i64 y.Kind,.string y.Key,.int .i64 y.Id] (aIm x y):=⟨λd w=>Zo AA AA AA (l:=[(26,0),(9,1),(3,2)]) AA (Ll (GR XU AA w) (GR XU AA w) (QB w _ _ .i64 _ _ _ aJc)<|Ll (GR Qr AA w) (GR Qr AA w) (a08 w _ _ _ _ Hg)<|Ll (GR Ep AA w) (GR Ep AA w) (QB w _ _ .i64 _ _ _ QN)<|Yy _ _ _ _)⟩
def acU :Program.eqGuardType Aw (Program.depth Aw) 82=false:=AA
def ap7 :BD 102=true:=AA
def ajD :GU Aw 135 134 2 16:=KP AA
def pX :Aw.underlying 135=some (.slice 134):=AA
def a0Z :Ei Aw 134 true 2:=Fj AA
def aY5 :ED Aw 134 1 1:=EK AA
def aby :Ei Aw 25 false 1:=Fj AA
def ahP :BD 94=true:=AA
def amn :ED Aw 134 0 0:=EK AA
def ak8 :BD 96=true:=AA
def abD :BD 98=true:=AA
def aio :BD 99=true:=AA
def atE :BD 55=true:=AA
def apd :BD 38=true:=AA
def ant :BD 28=true:=AA
def aUL :Aw.underlying 71=some (.int .i64):=AA
def aAH (x y:FZ):Ad:=(x.Pos==y.Pos&&(x.Id==y.Id&&(x.Status==y.Status&&(x.Gone==y.Gone&&true))))
def aft (x y:FZ):Vz Aw 2 79 [.int .i64 x.Pos,.int .i64 x.Id,.int .i64 x.Status,.bool x.Gone] [.int .i64 y.Pos,.int .i64 y.Id,.int .i64 y.Status,.bool y.Gone] (aAH x y):=⟨λd w=>Zo AA AA AA (l:=[(3,0),(3,1),(71,2),(4,3)]) AA (Ll (GR Ep AA w) (GR Ep AA w) (QB w _ _ .i64 _ _ _ QN)<|Ll (GR Ep AA w) (GR Ep AA w) (QB w _ _ .i64 _ _ _ QN)<|Ll (GR aCT AA w) (GR aCT AA w) (QB w _ _ .i64 _ _ _ aUL)<|Ll (GR aGJ AA w) (GR aGJ AA w) (run_equalIn_bool' w _ _ _ _ aO6)<|Yy _ _ _ _)⟩
def alF :Program.eqGuardType Aw (Program.depth Aw) 79=false:=AA
def aZx :Ei Aw 102 true 4:=Fj AA
def a6D (x y:ZB):Ad:=(x.User.toList==y.User.toList&&(x.Thread==y.Thread&&(x.Id==y.Id&&(x.Time==y.Time&&true))))
def alP (x y:ZB):Vz Aw 2 102 [.string x.User,.int .i64 x.Thread,.int .i64 x.Id,.int .i64 x.Time] [.string y.User,.int .i64 y.Thread,.int .i64 y.Id,.int .i64 y.Time] (a6D x y):=⟨λd w=>Zo AA AA AA (l:=[(9,0),(3,1),(3,2),(3,3)]) AA (Ll (GR Qr AA w) (GR Qr AA w) (a08 w _ _ _ _ Hg)<|Ll (GR Ep AA w) (GR Ep AA w) (QB w _ _ .i64 _ _ _ QN)<|Ll (GR Ep AA w) (GR Ep AA w) (QB w _ _ .i64 _ _ _ QN)<|Ll (GR Ep AA w) (GR Ep AA w) (QB w _ _ .i64 _ _ _ QN)<|Yy _ _ _ _)⟩
def aa8 :Program.eqGuardType Aw (Program.depth Aw) 102=false:=AA
def acD :Ei Aw 104 true 2:=Fj AA
def a4h (x y:Z8):Ad:=(x.User.toList==y.User.toList&&(x.Until==y.Until&&true))
def aem (x y:Z8):Vz Aw 2 104 [.string x.User,.int .i64 x.Until] [.string y.User,.int .i64 y.Until] (a4h x y):=⟨λd w=>Zo AA AA AA (l:=[(9,0),(3,1)]) AA (Ll (GR Qr AA w) (GR Qr AA w) (a08 w _ _ _ _ Hg)<|Ll (GR Ep AA w) (GR Ep AA w) (QB w _ _ .i64 _ _ _ QN)<|Yy _ _ _ _)⟩
def ajz :Program.eqGuardType Aw (Program.depth Aw) 104=false:=AA
def atS :BD 69=true:=AA
def ato :BD 70=true:=AA
def aoD :BD 72=true:=AA
def aYO :BD 23=true:=AA
def aav :BD 24=true:=AA
def aeR :BD 25=true:=AA
def aq1 :BD 26=true:=AA
def asg :BD 21=true:=AA
instance ano :Kn Aw where
 und:=[(9,.string),(4,.bool),(3,.int .i64),(202,.int .u64),(5,.int .u8),(203,.int .u64),(26,.int .i64),(71,.int .i64)]
 aou:=⟨Hg,aO6,QN,adD,a3R,aiF,aJc,aUL,trivial⟩
 ty:=[(34,true,16),(27,false,1),(28,false,1),(29,false,1),(30,false,1),(9,false,1),(146,true,2),(38,true,29),(3,false,1),(32,true,9),(26,false,1),(221,true,2),(4,false,1),(5,false,1),(22,false,1),(45,true,9),(39,false,1),(79,true,4),(71,false,1),(41,false,1),(82,true,3),(276,true,2),(236,false,1),(95,false,1),(36,true,2),(183,false,1),(251,true,2),(190,false,1),(311,true,5),(222,true,7),(347,true,2),(411,true,4),(415,true,3),(247,true,3),(140,false,1),(139,false,1),(136,false,1),(42,false,1),(43,false,1),(174,true,4),(281,true,5),(64,false,1),(93,false,1),(134,true,2),(25,false,1),(102,true,4),(104,true,2)]
 hty:=⟨VR,aIg,aaF,aSu,aVP,Qr,abu,IY,Ep,Zq,XU,aXX,aGJ,ajw,abf,Q5,afY,tV,aCT,adv,Qn,ahk,amW,aZF,aeN,ace,Ux,aXU,adp,aNA,aDl,aF1,sU,aPc,alk,afe,akW,adw,ag5,Zp,aOs,akG,ac4,a0Z,aby,aZx,acD,trivial⟩
 fld:=[((38,10),10),((38,8),8),((38,9),9),((34,5),5),((34,6),6),((34,7),7),((32,0),0),((32,1),1),((38,1),1),((38,2),2),((38,5),5),((34,0),0),((34,4),4),((38,12),27),((36,0),0),((146,0),0),((34,1),1),((34,2),2),((38,3),3),((146,1),1),((221,0),0),((221,1),1),((32,2),2),((32,3),3),((32,4),4),((32,5),5),((32,6),6),((32,7),7),((32,8),8),((34,3),3),((38,0),0),((38,4),4),((38,6),6),((38,7),7),((38,11),26),((36,1),1),((45,1),1),((45,2),2),((79,1),1),((79,2),2),((45,0),0),((45,5),5),((82,0),0),((82,1),1),((82,2),2),((276,0),0),((276,1),1),((209,0),0),((251,0),0),((251,1),1),((347,0),0),((347,1),1),((411,3),3),((411,0),0),((411,1),1),((411,2),2),((247,1),1),((296,0),0),((415,0),0),((247,0),0),((247,2),2),((142,2),2),((142,1),1),((142,0),0),((45,6),6),((45,4),4),((45,3),3),((45,7),7),((45,8),8),((174,0),0),((281,0),0),((281,1),1),((281,2),2),((281,3),3),((281,4),4),((174,3),3),((174,2),2),((174,1),1),((79,0),0),((134,1),1),((134,0),0)]
 hfld:=⟨ahR,ad6,aXD,abr,alH,ajF,aaU,abm,aeZ,aXi,ahc,aXH,abN,aeS,aiM,ab2,abJ,adT,aib,ak6,alB,aip,aaE,akd,aiG,ahm,adQ,abS,alL,ajn,aXy,aZO,aZn,aZJ,aZl,ac5,acC,ahj,acj,afQ,ae4,aak,aga,amx,ads,aZ6,acQ,ame,aYe,acy,ahz,afz,amc,amm,aZR,agV,ajP,anG,aaX,afZ,adV,aXa,aYv,aef,alQ,alv,aXk,aZ0,aZQ,af2,af0,aic,ah4,aXn,ahf,acn,adl,ael,akF,aY5,amn,trivial⟩
 part:=[((247,0),0,false,1),((281,4),4,false,1)]
 hpart:=⟨anS,amQ,trivial⟩
 zero:=[(34,a7c),(38,a8v),(5,.int .u8 0),(3,.int .i64 0),(32,a4R),(79,a8S),(82,a2j),(45,aAE),(146,a4L),(221,aRv),(222,a4j),(276,aAn),(209,a1d),(9,.string CX),(4,.bool false),(27,.slice none 0 0),(36,a1p),(183,.map none),(251,a6q),(41,.slice none 0 0),(263,a3u),(311,a5I),(320,a4i),(321,a7e),(378,a8F),(247,aWp),(292,aA0),(347,a7s),(411,a1u),(296,a6H),(415,a5L),(22,.slice none 0 0),(64,.int .i64 0),(142,aBK),(71,.int .i64 0),(174,a2d),(281,aNi),(93,.nilFunc),(134,aA8)]
 hzero:=⟨⟨aUs,AA⟩,⟨OJ,AA⟩,⟨Rk,AA⟩,⟨zero3,AA⟩,⟨zero32,AA⟩,⟨a3H,AA⟩,⟨RS,AA⟩,⟨aOt,AA⟩,⟨uT,AA⟩,⟨aO3,AA⟩,⟨aLi,AA⟩,⟨aKq,AA⟩,⟨aU0,AA⟩,⟨zero9,AA⟩,⟨xF,AA⟩,⟨pK,AA⟩,⟨aVp,AA⟩,⟨aZp,AA⟩,⟨a5M,AA⟩,⟨UQ,AA⟩,⟨aSm,AA⟩,⟨aOv,AA⟩,⟨aRP,AA⟩,⟨aSZ,AA⟩,⟨aLQ,AA⟩,⟨abP,AA⟩,⟨aRc,AA⟩,⟨aCH,AA⟩,⟨aK4,AA⟩,⟨aMV,AA⟩,⟨aGf,AA⟩,⟨zero22,AA⟩,⟨zero64,AA⟩,⟨aMc,AA⟩,⟨aWc,AA⟩,⟨aK9,AA⟩,⟨adk,AA⟩,⟨afa,AA⟩,⟨aH1,AA⟩,trivial⟩
 st:=[(34,[(0,1),(1,1),(2,1),(3,1),(4,1),(5,1),(6,1),(7,9)],a7c),(79,[(0,1),(1,1),(2,1),(3,1)],a8S),(38,[(0,1),(1,1),(2,1),(3,1),(4,1),(5,1),(6,1),(7,1),(8,1),(9,1),(10,16),(26,1),(27,2)],a8v),(45,[(0,1),(1,1),(2,1),(3,1),(4,1),(5,1),(6,1),(7,1),(8,1)],aAE),(276,[(0,1),(1,1)],aAn),(209,[(0,1)],a1d),(36,[(0,1),(1,1)],a1p),(251,[(0,1),(1,1)],a6q),(82,[(0,1),(1,1),(2,1)],a2j),(263,[(0,1)],a3u),(32,[(0,1),(1,1),(2,1),(3,1),(4,1),(5,1),(6,1),(7,1),(8,1)],a4R),(146,[(0,1),(1,1)],a4L),(378,[],a8F),(292,[],aA0),(347,[(0,1),(1,1)],a7s),(411,[(0,1),(1,1),(2,1),(3,1)],a1u),(296,[(0,1)],a6H),(415,[(0,1),(1,1),(2,1)],a5L),(142,[(0,1),(1,1),(2,1)],aBK),(174,[(0,1),(1,1),(2,1),(3,1)],a2d),(134,[(0,1),(1,1)],aA8)]
 hst:=⟨aZ7,akx,akX,ajM,aat,aaD,aa0,aeg,alE,akl,ajG,alb,alT,acf,aXG,aZg,ai7,aZv,aQu,aYR,aYD,trivial⟩
 arr:=[(222,1,a4j),(311,1,a5I),(320,1,a4i),(321,1,a7e)]
 harr:=⟨aiV,anD,acr,anO,trivial⟩
 sl:=[(27,3),(28,9),(29,146),(30,221),(22,38),(95,5),(39,79),(41,82),(277,276),(258,4),(244,27),(249,251),(40,82),(190,41),(342,347),(408,411),(413,415),(186,71),(233,22),(42,102),(43,104),(171,174),(135,134)]
 hsl:=⟨Jc,agJ,aMn,aVo,NW,a2f,aPF,ku,acA,ai8,a4e,YK,U4,aHn,aIb,aIG,a0c,ae3,ade,abd,al5,a3Y,pX,trivial⟩
abbrev Cb :=λx=>Bd.arr 3 1 (List.map Ai x)
abbrev FY :=λx=>Bd.arr 38 29 (List.map BF x)
abbrev uQ :=λx=>Bd.arr 79 4 (List.map FK x)
abbrev Ir :=λx=>Bd.arr 5 1 (List.map Dk x)
abbrev Vp :=λx=>Bd.arr 9 1 (List.map DW x)
abbrev Lm :=λx=>Bd.arr 82 3 (List.map BX x)
abbrev sK :=λx=>Bd.arr 27 1 (List.map (BZ Ai) x)
abbrev RF :=λx=>Bd.arr 174 4 (List.map MX x)
abbrev jV :=λx=>Bd.arr 415 3 (List.map PU x)
abbrev X5 :=λx=>Bd.arr 251 2 (List.map Ku x)
abbrev HY :=λx=>Ap.d (CZ x)
abbrev Af :=λx=>Ap.d (Ai x)
abbrev BM :=λx=>Ap.d ((BZ BF) x)
abbrev UG :=λx=>Ap.d ((BZ MX) x)
abbrev Am :=λx=>Ap.d (E9 x)
abbrev Bh :=λx=>Ap.d ((BZ Ai) x)
abbrev Dh :=λx=>Ap.d ((BZ BX) x)
abbrev DY :=λx=>Ap.d (BF x)
abbrev Cx :=λx=>Ap.d (DW x)
abbrev Vr :=λx=>Ap.d ((BZ FK) x)
abbrev dN :=λx=>Ap.d (FK x)
abbrev Ib :=λx=>Ap.d (GI x)
abbrev Ii :=λx=>Ap.d ((BZ DW) x)
abbrev J4 :=λx=>Ap.d (FQ x)
abbrev Io :=λx=>Ap.d ((BZ Dk) x)
abbrev PN :=λx=>Ap.d ((BZ FD) x)
abbrev PW :=λx=>Ap.d ((BZ F7) x)
abbrev X0 :=λx=>Ap.d (MX x)
abbrev JU :=λx=>Ap.d ((BZ (BZ BX)) x)
abbrev XA :=λx=>Ap.d (BX x)
abbrev WM :=λx=>Ap.d ((BZ ML) x)
section
set_option maxRecDepth 20000
set_option maxHeartbeats 4000000
def a0x (q:Int)(j:D6):AB D6:=(bif (q==1)then some j else(bif (q==2)then some ({ Eo with N:=j.N,Via:=j.Via })else(bif (q==3)then some ({ Eo with Levels:=j.Levels })else(bif (q==4)then some ({ Eo with N:=j.N,Allow:=j.Allow })else(bif (q==5)then some ({ Eo with N:=j.N })else(bif (q==6)then some ({ Eo with Allow:=j.Allow,iy:=j.iy })else(bif (q==14)then some ({ Eo with Target:=j.Target })else some Eo)))))))
def aPY :=DV func192 rfl a0x Af Ib Ib λu j r h=>Ag<|Ah<|Ag<|Ar<|Ag<|Di h (λh=>Ag<|F6<|by rw[←CQ h];exact⟨[Ib j],[],⟨⟨1,BH (GI j),true,16,AA,AA,AA,VR,Dt AA,VF,AA⟩,trivial⟩,AA,AA,AA⟩) λh=>Ag<|Di h (λh=>Ag<|F6<|by rw[←CQ h];exact⟨[Ib ({ Eo with N:=j.N,Via:=j.Via })],[],⟨⟨1,BH (GI ({ Eo with N:=j.N,Via:=j.Via })),true,16,AA,AA,AA,VR,Dt AA,VF,AA⟩,trivial⟩,AA,AA,AA⟩) λh=>Ag<|Di h (λh=>Ag<|F6<|by rw[←CQ h];exact⟨[Ib ({ Eo with Levels:=j.Levels })],[],⟨⟨1,BH (GI ({ Eo with Levels:=j.Levels })),true,16,AA,AA,AA,VR,Dt AA,VF,AA⟩,trivial⟩,AA,AA,AA⟩) λh=>Ag<|Di h (λh=>Ag<|F6<|by rw[←CQ h];exact⟨[Ib ({ Eo with N:=j.N,Allow:=j.Allow })],[],⟨⟨1,BH (GI ({ Eo with N:=j.N,Allow:=j.Allow })),true,16,AA,AA,AA,VR,Dt AA,VF,AA⟩,trivial⟩,AA,AA,AA⟩) λh=>Ag<|Di h (λh=>Ag<|F6<|by rw[←CQ h];exact⟨[Ib ({ Eo with N:=j.N })],[],⟨⟨1,BH (GI ({ Eo with N:=j.N })),true,16,AA,AA,AA,VR,Dt AA,VF,AA⟩,trivial⟩,AA,AA,AA⟩) λh=>Ag<|Di h (λh=>Ag<|F6<|by rw[←CQ h];exact⟨[Ib ({ Eo with Allow:=j.Allow,iy:=j.iy })],[],⟨⟨1,BH (GI ({ Eo with Allow:=j.Allow,iy:=j.iy })),true,16,AA,AA,AA,VR,Dt AA,VF,AA⟩,trivial⟩,AA,AA,AA⟩) λh=>Ag<|BL h (λh=>Ag<|F6<|by rw[←CQ h];exact⟨[Ib ({ Eo with Target:=j.Target })],[],⟨⟨1,BH (GI ({ Eo with Target:=j.Target })),true,16,AA,AA,AA,VR,Dt AA,VF,AA⟩,trivial⟩,AA,AA,AA⟩) λh=>Ag<|F6<|by rw[←CQ h];exact⟨[Ib Eo],[],⟨⟨1,BH (GI Eo),true,16,AA,AA,AA,VR,Dt AA,VF,AA⟩,trivial⟩,AA,AA,AA⟩
def YG (j:Aa):AB Aa:=(a0x j.Kind j.Content).bind λq=>some ({ j with Content:=q })
def YL :=Dj func114 rfl YG DY DY λj r h=>Ag<|AV h λq u h=>AX 4<|.ca (aPY u)<|aMP
def yC (j:Ac)(q:Ac)(k3:(Int->AB Ad)):Int->AB Ad:=λv2=>(bif v2<(j.length:Int) then(Au j v2).bind λu=>(Au q v2).bind λz=>(bif (u != z)then some false else k3 (BA (v2+1)))else some true)
def aIc (j:Ac)(q:Ac):Int->AB Ad:=bn (yC j q) Az
def fA (j:Ac)(q:Ac):AB Ad:=(bif ((j.length:Int) != (q.length:Int))then some false else aIc j q 0)
def afP :=DV func43 rfl fA Bh Bh Am λj q r h=>Ag<|Ah<|AX 1<|.p (BN Ai j)<|.a 1<|.Z (BN Ai q)<|BL h CG λh=>Ah<|Ag<|Ar<|Du (λu=>⟨BG 26 [(0,Bh j),(1,Bh q),(5,Af u)],[],0⟩) _ _ _ (Ak []) h<|λu z I J h=>Ah<|AX 2<|.Z (BN Ai j)<|Bq h (λh=>Ah<|Ar<|Bv h λu z J L h=>F5 AA AA AA (.a 2<|.p (BK Ai z)<|.a 3<|.p (BK Ai L)<|.a 2<|.nil _)<|BL h CG λh=>TA) λh=>Eh
abbrev GX:=A8 BP
def a7i (j:GX)(q:GX)(k3:(Int->AB Ad)):Int->AB Ad:=λv2=>(bif v2<(j.length:Int) then(Au j v2).bind λu=>(Au q v2).bind λz=>(bif (!(u.toList==z.toList))then some false else k3 (BA (v2+1)))else some true)
def a7h (j:GX)(q:GX):Int->AB Ad:=bn (a7i j q) Az
def VE (j:GX)(q:GX):AB Ad:=(bif ((j.length:Int) != (q.length:Int))then some false else a7h j q 0)
def aiU :=DV func181 rfl VE Ii Ii Am λj q r h=>Ag<|Ah<|AX 1<|.p (BN DW j)<|.a 1<|.Z (BN DW q)<|BL h CG λh=>Ah<|Ag<|Ar<|Du (λu=>⟨BG 26 [(0,Ii j),(1,Ii q),(5,Af u)],[],0⟩) _ _ _ (Ak []) h<|λu z I J h=>Ah<|AX 2<|.Z (BN DW j)<|Bq h (λh=>Ah<|Ar<|Bv h λu z J L h=>F5 AA AA AA (.a 2<|.p (BK DW z)<|.a 3<|.p (BK DW L)<|.a 2<|.nil _)<|BL h CG λh=>TA) λh=>Eh
def a0h (j:(Int->AB Ad))(q:Int)(u:Ad):AB Ad:=(bif u then some false else j (BA (q+1)))
def tq (j:(Int->AB Ad))(q:Int)(u:Ad):AB Ad:=(bif u then some false else j (BA (q+1)))
def rP (j:Ch)(q:Ch)(z:(Int->AB Ad)):Int->AB Ad:=λu=>(bif u<(j.Kinds.length:Int) then(Au j.Kinds u).bind λI=>(Au q.Kinds u).bind λJ=>(bif (I.Kind != J.Kind)then tq z u true else(Au j.Kinds u).bind λL=>(Au q.Kinds u).bind λM=>tq z u (L.N != M.N))else(bif (j.User==q.User)then some (j.Message==q.Message)else some false).bind λO=>(bif O then some (j.State==q.State)else some false).bind λU=>(bif U then some (j.gX==q.gX)else some false).bind λY=>(bif Y then some (j.kR==q.kR)else some false).bind λZ=>(bif Z then some (j.oN==q.oN)else some false).bind λx34=>(bif x34 then some (j.ig==q.ig)else some false).bind λx36=>some x36)
def Zx (j:Ch)(q:Ch):Int->AB Ad:=bn (rP j q) Az
def pI (j:Ch)(q:Ch)(M:(Int->AB Ad)):Int->AB Ad:=λu=>(bif u<(j.Users.length:Int) then(Au j.Users u).bind λz=>(Au q.Users u).bind λI=>(bif (!(z.User.toList==I.User.toList))then a0h M u true else(Au j.Users u).bind λJ=>(Au q.Users u).bind λL=>a0h M u (J.N != L.N))else Zx j q 0)
def a0n (j:Ch)(q:Ch):Int->AB Ad:=bn (pI j q) Az
def XK (j:Ch)(q:Ch):AB Ad:=(bif ((j.Users.length:Int) != (q.Users.length:Int))then some true else some ((j.Kinds.length:Int) != (q.Kinds.length:Int))).bind λu=>(bif u then some false else a0n j q 0)
def aNx :=DV func182 rfl XK J4 J4 Am λq z r h=>Ag<|Ah<|AX 2<|.p (BN FD q.Users)<|.a 2<|.p (BN FD z.Users)<|.a 1<|AV h λu j h=>.mg 14 8 (Am u) (.bi j (k2:=λh=>.a 2<|.p (BN F7 q.Kinds)<|.a 2<|.Z (BN F7 z.Kinds)<|Cj))<|.aX<|BL h CG λh=>Ah<|Ag<|Ar<|Du (λu=>⟨BG 140 [(2,.ptr 0 0),(3,.ptr 1 0),(5,Af u)],[.box (BH (FQ q)),.box (BH (FQ z))],0⟩) _ _ _ (Ak [Ae 0,Ae 1]) h<|λu j J I h=>Ah<|AX 3<|.Z (BN FD q.Users)<|Bq h (λh=>Ah<|Ar<|D7 (λs=>∃(O:Ad),CO s ⟨BG 140 [(2,.ptr 0 0),(3,.ptr 1 0),(5,Af I),(57,Am O)],[.box (BH (FQ q)),.box (BH (FQ z))],0⟩/\a0h j I O=some r) (by rintro s ⟨O,hs,h⟩;exact D9 hs<|BL h CG λh=>a3k)<|λu=>Bv h λj J I M h=>EY h (λj h=>DN AA AA AA (.a 3<|.p (BK FD J)<|.a 5<|.p (BK FD M)<|.a 3<|.c (BJ some j)<|.a 14<|.nil _)<|u _ ⟨true,Ak [Ae 0,Ae 1],h⟩) λj h=>Bv h λI U Y Z h=>DN AA AA AA (.a 3<|.p (BK FD J)<|.a 5<|.p (BK FD M)<|.a 3<|.c (BJ some j)<|.a 3<|.p (BK FD U)<|.a 5<|.p (BK FD Z)<|.a 4<|.nil _)<|u _ ⟨(I.N != Y.N),Ak [Ae 0,Ae 1],h⟩) λh=>Ce<|Ah<|Ag<|Ar<|Du (λu=>⟨BG 140 [(2,.ptr 0 0),(3,.ptr 1 0),(6,Af u)],[.box (BH (FQ q)),.box (BH (FQ z))],0⟩) _ _ _ (Ak [Ae 0,Ae 1]) h<|λu j J I h=>Ah<|AX 3<|.Z (BN F7 q.Kinds)<|Bq h (λh=>Ah<|Ar<|D7 (λs=>∃(L:Ad),CO s ⟨BG 140 [(2,.ptr 0 0),(3,.ptr 1 0),(6,Af I),(92,Am L)],[.box (BH (FQ q)),.box (BH (FQ z))],0⟩/\tq j I L=some r) (by rintro s ⟨L,hs,h⟩;exact D9 hs<|BL h CG λh=>a3k)<|λu=>Bv h λj J I M h=>EY h (λj h=>DN AA AA AA (.a 3<|.p (BK F7 J)<|.a 5<|.p (BK F7 M)<|.a 3<|.c (BJ some j)<|.a 14<|.nil _)<|u _ ⟨true,Ak [Ae 0,Ae 1],h⟩) λj h=>Bv h λI U Y Z h=>DN AA AA AA (.a 3<|.p (BK F7 J)<|.a 5<|.p (BK F7 M)<|.a 3<|.c (BJ some j)<|.a 3<|.p (BK F7 U)<|.a 5<|.p (BK F7 Z)<|.a 4<|.nil _)<|u _ ⟨(I.N != Y.N),Ak [Ae 0,Ae 1],h⟩) λh=>Ce<|AX 5<|AV h λu j h=>.mg 98 6 (Am u) (.bi j)<|.a 1<|AV h λu j h=>.mg 106 5 (Am u) (DI j)<|.a 1<|AV h λu j h=>.mg 113 5 (Am u) (DI j)<|.a 1<|AV h λu j h=>.mg 120 5 (Am u) (DI j)<|.a 1<|AV h λu j h=>.mg 127 5 (Am u) (DI j)<|.a 1<|AV h λu j h=>.mg 134 5 (Am u) (DI j)<|.aW<|CY
def VG (j:D6)(q:D6):AB Ad:=(bif (j.Text.toList==q.Text.toList)then some (j.N==q.N)else some false).bind λM=>(bif M then some (j.Target==q.Target)else some false).bind λO=>(bif O then some (j.Thread==q.Thread)else some false).bind λU=>(bif U then some (j.Via.toList==q.Via.toList)else some false).bind λY=>(bif Y then(VE j.Allow q.Allow).bind λu=>some u else some false).bind λZ=>(bif Z then(VE j.iy q.iy).bind λz=>some z else some false).bind λI=>(bif I then(XK j.Levels q.Levels).bind λJ=>some J else some false).bind λL=>some L
def aBf :=DV func106 rfl VG Ib Ib Am λu z r h=>Ag<|AX 5<|AV h λq j h=>.mg 10 6 (Am q) (.bi j)<|.a 1<|AV h λq j h=>.mg 18 5 (Am q) (DI j)<|.a 1<|AV h λq j h=>.mg 25 5 (Am q) (DI j)<|.a 1<|AV h λq j h=>.mg 32 5 (Am q) (DI j)<|.a 1<|AV h λq j h=>.mg 39 5 (Am q) (DI j (λe i=>aTd))<|.a 1<|AV h λq j h=>.mg 46 5 (Am q) (DI j (λe i=>aTd))<|.a 1<|AV h λq j h=>.mg 53 5 (Am q) (DI j (λe i=>by subst e;have h:=i;exact AV h λq j h=>.a 4<|.X (aNx j)<|Cj))<|.aW<|CY
def WT (j:Aa)(q:Aa):AB Ad:=(bif (j.Id==q.Id)then some (j.Room.toList==q.Room.toList)else some false).bind λx1=>(bif x1 then some (j.bM.toList==q.bM.toList)else some false).bind λx3=>(bif x3 then some (j.Kind==q.Kind)else some false).bind λx5=>(bif x5 then some (j.State==q.State)else some false).bind λx7=>(bif x7 then some (j.Key.toList==q.Key.toList)else some false).bind λx9=>(bif x9 then some (j.Time==q.Time)else some false).bind λu=>(bif u then some (j.Depth==q.Depth)else some false).bind λz=>(bif z then(fA j.bG q.bG).bind λI=>some I else some false).bind λJ=>(bif J then(fA j.bI q.bI).bind λL=>some L else some false).bind λM=>(bif M then(VG j.Content q.Content).bind λO=>some O else some false).bind λU=>(bif U then some (j.Hash==q.Hash)else some false).bind λY=>(bif Y then some (j.sH.Server.toList==q.sH.Server.toList)else some false).bind λZ=>(bif Z then some (j.sH.Sum==q.sH.Sum)else some false).bind λx28=>some x28
def nS :=DV func36 rfl WT DY DY Am λu z r h=>Ag<|AX 5<|AV h λq j h=>.mg 10 6 (Am q) (.bi j)<|.a 1<|AV h λq j h=>.mg 18 5 (Am q) (DI j)<|.a 1<|AV h λq j h=>.mg 25 5 (Am q) (DI j)<|.a 1<|AV h λq j h=>.mg 32 5 (Am q) (DI j)<|.a 1<|AV h λq j h=>.mg 39 5 (Am q) (DI j)<|.a 1<|AV h λq j h=>.mg 46 5 (Am q) (DI j)<|.a 1<|AV h λq j h=>.mg 53 5 (Am q) (DI j)<|.a 1<|AV h λq j h=>.mg 60 5 (Am q) (DI j (λe i=>aTE))<|.a 1<|AV h λq j h=>.mg 67 5 (Am q) (DI j (λe i=>aTE))<|.a 1<|AV h λq j h=>.mg 74 5 (Am q) (DI j (λe i=>by subst e;have h:=i;exact AV h λq j h=>.a 4<|.X (aBf j)<|Cj))<|.a 1<|AV h λq j h=>.mg 81 5 (Am q) (DI j)<|.a 1<|AV h λq j h=>.mg 88 7 (Am q) (DI j)<|.a 1<|AV h λq j h=>.mg 97 7 (Am q) (DI j)<|.aW<|CY
def Xk (z:(Int->Ac->AB Ac)):Int->Ac->AB Ac:=λj u=>(bif j>=128 then(XY j 128).bind λI=>(DC 1 u [IntKind.u8.wrap (IntKind.u64.wrap (I+128))]).bind λJ=>(uU .u64 j 128).bind λL=>z L J else(DC 1 u [IntKind.u8.wrap j]).bind λq=>some q)
def aNp  :Int->Ac->AB Ac:=aP (Xk) Az
def a8J (v2:Int):AB Ac:=aNp v2 []
def rY (j:Int):AB Ac:=(QZ .shl .u64 (IntKind.u64.wrap j) 1).bind λq=>(bif j<0 then a8J (jT .u64 q)else a8J q)
def aSd :=LQ func194 rfl rY Af Ir λz r h=>BU<|.f (CW 5 1)<|.aX<|AV h λq j h=>AX 2<|.Z (a6x (k:=.u64) (k':=.u64) j)<|D7 (λs=>∃(v2:Int),CO s ⟨BG 28 [(3,.d ((qF .u64) v2))],[],0⟩/\a8J v2=some r) (by rintro s ⟨v2,hs,h⟩;exact D9 hs<|BU<|.f (CW 5 1)<|.aX<|Ah<|Ar<|DX (λq j=>⟨BG 28 [(3,.d ((qF .u64) q)),(4,.aQ 0)],[(Ir j)],0⟩) _ _ _ _ (Ak [Ae 0]) h<|λq j L I J h=>Ah<|Ag<|Bq h (λh=>Ar<|Bv h λq j I J h=>AX 2<|.p (aIO (k:=.u64) j)<|.a 2<|.p (EG Jz Rk [Dk (IntKind.u8.wrap (IntKind.u64.wrap (q+128)))])<|.Y (Dv (k:=0) Dk J Jz AA (λ_=>rfl) Bl)<|AV h λq j h=>CV<|.a 1<|.p (abg (k:=.u64) j)<|.aN<|L _ _ _ (Ak [Ae 1]) h) λh=>Ce<|AV h λq j h=>AX 3<|.p (EG Jz Rk [Dk (IntKind.u8.wrap I)])<|.Y (Dv (k:=0) Dk j Jz AA (λ_=>rfl) Bl)<|KF)<|λj=>Ag<|BL h (λh=>CV<|.a 1<|.p (aVl (k:=.u64) (u:=q))<|.aN<|j _ ⟨(jT .u64 q),Ak [],h⟩) λh=>j _ ⟨q,Ak [],h⟩
def Me (j:Ac)(q:Int):AB Ac:=(DC 1 [] j).bind λu=>(rY q).bind λz=>(DC 1 u z).bind λI=>some I
def Og :=Gg func117 rfl Me Io Af Ir λj q r h=>BU<|.f (CW 5 1)<|.aX<|Ho h λJ u L z M I h=>BU<|.f (I7 Jz Rk [])<|.a 1<|.f (Dv (k:=1) Dk u Jz AA (λ_=>rfl) Bl)<|.a 1<|.ca (aSd z).view<|.Y (Dv (k:=2) Dk I Jz AA (λ_=>rfl) Bl)<|qM
def RY (q:Ac)(j:BP):AB Ac:=(Me q (j.size:Int)).bind λu=>(DC 1 u (DL j)).bind λz=>some z
def XI :=Gg func116 rfl RY Io Cx Ir λq j r h=>BU<|.f (CW 5 1)<|.aX<|Bv h λI u J z h=>AX 3<|.f (x:=.aQ 1) (Jo [Io q,Af (j.size:Int)] (Og u))<|.a 1<|.p (aj6 (s:=j) Hg a2f a3R)<|.Y (Dv (k:=1) Dk z Jz AA (λ_=>rfl) Bl)<|Le
def pF (q:Ac)(j:Ad):AB Ac:=(DC 1 [] q).bind λu=>(bif j then(DC 1 u [1]).bind λz=>some z else(DC 1 u [0]).bind λI=>some I)
def aTa :=Gg func328 rfl pF Io Am Ir λu q r h=>BU<|.f (CW 5 1)<|.aX<|AV h λz j h=>BU<|.f (I7 Jz Rk [])<|.a 1<|.Y (Dv (k:=1) Dk j Jz AA (λ_=>rfl) Bl)<|Ah<|Ag<|BL h (λh=>AV h λz j h=>AX 1<|.p (EG Jz Rk [Dk 1])<|.Y (Dv (k:=2) Dk j Jz AA (λ_=>rfl) Bl)<|qM) λh=>AV h λz j h=>AX 1<|.p (EG Jz Rk [Dk 0])<|.Y (Dv (k:=2) Dk j Jz AA (λ_=>rfl) Bl)<|qM
def a7M (j:GX)(u:(Ac->Int->AB Ac)):Ac->Int->AB Ac:=λv2 q=>(bif q<(j.length:Int) then(Au j q).bind λz=>(RY v2 z).bind λI=>u I (BA (q+1))else some v2)
def aTs (j:GX):Ac->Int->AB Ac:=aP (a7M j) Az
def uZ (q:Ac)(j:GX):AB Ac:=(Me q (j.length:Int)).bind λu=>aTs j u 0
def aLr :=Gg func329 rfl uZ Io Ii Ir λz j r h=>BU<|.f (CW 5 1)<|.aX<|AV h λq u h=>AX 2<|.p (BN DW j)<|.Y (x:=.aQ 1) (Jo [Io z,Af (j.length:Int)] (Og u))<|Ah<|Ag<|Ar<|DX (λq u=>⟨BG 24 [(1,Ii j),(5,.aQ 0),(6,Af u)],[(Ir q)],0⟩) _ _ _ _ (Ak [Ae 1]) h<|λq u J I L h=>Ah<|AX 2<|.Z (BN DW j)<|Bq h (λh=>Ah<|Ar<|Bv h λq u L M h=>CV<|.a 3<|.p (BK DW u)<|.a 1<|.f (Jr (dX:=[.aQ 0,Cx q]) (fB:=[.d (.sl (List.map Dk I)),Cx q]) (XI M) (λx q=>OU) aC2 ⟨⟨5,1,List.map Dk I,AA,rfl⟩,rfl,trivial⟩ rfl)<|aFV) λh=>JF
def aJj (j:Ch):AB Ac:=some [j.User,j.Message,j.State,j.gX,j.kR,j.oN,j.ig]
def ai0 :=LQ func330 rfl aJj J4 Cb λj r h=>AX 1<|.f (CW 3 1)<|.aX<|AX 14<|.Y (I7 Dy zero3 [Ai j.User,Ai j.Message,Ai j.State,Ai j.gX,Ai j.kR,Ai j.oN,Ai j.ig])<|Le
def a5Z (q:Ac)(z:(Ac->Int->AB Ac)):Ac->Int->AB Ac:=λu j=>(bif j<(q.length:Int) then(Au q j).bind λI=>(Me u I).bind λJ=>z J (BA (j+1))else some u)
def aEX (j:Ac):Ac->Int->AB Ac:=aP (a5Z j) Az
def a2t (j:D6)(z:(Ac->Int->AB Ac)):Ac->Int->AB Ac:=λu q=>(bif q<(j.Levels.Kinds.length:Int) then(Au j.Levels.Kinds q).bind λI=>(Me u I.Kind).bind λJ=>(Au j.Levels.Kinds q).bind λL=>(Me J L.N).bind λM=>z M (BA (q+1))else(aJj j.Levels).bind λO=>aEX O u 0)
def aI2 (j:D6):Ac->Int->AB Ac:=aP (a2t j) Az
def a3T (j:D6)(u:(Ac->Int->AB Ac)):Ac->Int->AB Ac:=λO q=>(bif q<(j.Levels.Users.length:Int) then(Au j.Levels.Users q).bind λz=>(RY O z.User).bind λI=>(Au j.Levels.Users q).bind λJ=>(Me I J.N).bind λL=>u L (BA (q+1))else(Me O (j.Levels.Kinds.length:Int)).bind λM=>aI2 j M 0)
def aWl (j:D6):Ac->Int->AB Ac:=aP (a3T j) Az
def jr (j:D6):AB Ac:=(RY [] j.Text).bind λq=>(Me q j.N).bind λu=>(Me u j.Target).bind λz=>(pF z j.Thread).bind λI=>(RY I j.Via).bind λJ=>(uZ J j.Allow).bind λL=>(uZ L j.iy).bind λM=>(Me M (j.Levels.Users.length:Int)).bind λO=>aWl j O 0
def aUi :=LQ func265 rfl jr Ib Ir λj r h=>AX 1<|.f (CW 5 1)<|.aX<|AV h λq u h=>AX 2<|.Y (x:=.aQ 2) (Jo [.d (.lit (.slice none 0 0)),Cx j.Text] (XI u))<|AV h λu z h=>AX 3<|.Y (Jr (dX:=[.aQ 2,Af j.N]) (fB:=[.d (.sl (List.map Dk q)),Af j.N]) (Og z) (λx q=>OU) Yc ⟨⟨5,1,List.map Dk q,AA,rfl⟩,rfl,trivial⟩ rfl)<|AV h λq z h=>AX 3<|.Y (Jr (dX:=[.aQ 3,Af j.Target]) (fB:=[.d (.sl (List.map Dk u)),Af j.Target]) (Og z) (λx q=>OU) Yc ⟨⟨5,1,List.map Dk u,AA,rfl⟩,rfl,trivial⟩ rfl)<|AV h λu z h=>AX 3<|.Y (Jr (dX:=[.aQ 4,Am j.Thread]) (fB:=[.d (.sl (List.map Dk q)),Am j.Thread]) (aTa z) (λx q=>OU) afB ⟨⟨5,1,List.map Dk q,AA,rfl⟩,rfl,trivial⟩ rfl)<|AV h λq z h=>AX 3<|.Y (Jr (dX:=[.aQ 5,Cx j.Via]) (fB:=[.d (.sl (List.map Dk u)),Cx j.Via]) (XI z) (λx q=>OU) aC2 ⟨⟨5,1,List.map Dk u,AA,rfl⟩,rfl,trivial⟩ rfl)<|AV h λu z h=>AX 3<|.Y (Jr (dX:=[.aQ 6,Ii j.Allow]) (fB:=[.d (.sl (List.map Dk q)),Ii j.Allow]) (aLr z) (λx q=>OU) aVu ⟨⟨5,1,List.map Dk q,AA,rfl⟩,rfl,trivial⟩ rfl)<|AV h λq z h=>AX 3<|.Y (Jr (dX:=[.aQ 7,Ii j.iy]) (fB:=[.d (.sl (List.map Dk u)),Ii j.iy]) (aLr z) (λx q=>OU) aVu ⟨⟨5,1,List.map Dk u,AA,rfl⟩,rfl,trivial⟩ rfl)<|Ag<|AV h λu z h=>AX 3<|.p (BN FD j.Levels.Users)<|.Y (Jr (dX:=[.aQ 8,Af (j.Levels.Users.length:Int)]) (fB:=[.d (.sl (List.map Dk q)),Af (j.Levels.Users.length:Int)]) (Og z) (λx q=>OU) Yc ⟨⟨5,1,List.map Dk q,AA,rfl⟩,rfl,trivial⟩ rfl)<|Ah<|Ag<|Ar<|DX (λq u=>⟨BG 109 [(3,.aQ 0),(4,.ptr 1 0),(5,Af u)],[(Ir q),.box (BH (FQ j.Levels))],0⟩) _ _ _ _ (Ak [Ae 10,Ae 9]) h<|λq u z I J h=>Ah<|AX 3<|.Z (BN FD j.Levels.Users)<|Bq h (λh=>Ah<|Ar<|Bv h λq u J L h=>AX 4<|.p (BK FD u)<|.a 2<|.Y (Jr (dX:=[.aQ 0,Cx q.User]) (fB:=[.d (.sl (List.map Dk I)),Cx q.User]) (XI L) (λx q=>OU) aC2 ⟨⟨5,1,List.map Dk I,AA,rfl⟩,rfl,trivial⟩ rfl)<|Bv h λq u I L h=>CV<|.a 4<|.p (BK FD u)<|.a 2<|.f (Jr (dX:=[.aQ 2,Af q.N]) (fB:=[.d (.sl (List.map Dk J)),Af q.N]) (Og L) (λx q=>OU) Yc ⟨⟨5,1,List.map Dk J,AA,rfl⟩,rfl,trivial⟩ rfl)<|.aN<|D8<|z _ _ _ (Ak [Ae 3,Ae 1]) h) λh=>Ce<|AV h λq u h=>AX 3<|.p (BN F7 j.Levels.Kinds)<|.Y (Jr (dX:=[.aQ 0,Af (j.Levels.Kinds.length:Int)]) (fB:=[.d (.sl (List.map Dk I)),Af (j.Levels.Kinds.length:Int)]) (Og u) (λx q=>OU) Yc ⟨⟨5,1,List.map Dk I,AA,rfl⟩,rfl,trivial⟩ rfl)<|Ah<|Ag<|Ar<|DX (λq u=>⟨BG 109 [(3,.aQ 0),(4,.ptr 1 0),(6,Af u)],[(Ir q),.box (BH (FQ j.Levels))],0⟩) _ _ _ _ (Ak [Ae 2,Ae 1]) h<|λq u z I J h=>Ah<|AX 3<|.Z (BN F7 j.Levels.Kinds)<|Bq h (λh=>Ah<|Ar<|Bv h λq u J L h=>AX 4<|.p (BK F7 u)<|.a 2<|.Y (Jr (dX:=[.aQ 0,Af q.Kind]) (fB:=[.d (.sl (List.map Dk I)),Af q.Kind]) (Og L) (λx q=>OU) Yc ⟨⟨5,1,List.map Dk I,AA,rfl⟩,rfl,trivial⟩ rfl)<|Bv h λq u I L h=>CV<|.a 4<|.p (BK F7 u)<|.a 2<|.f (Jr (dX:=[.aQ 2,Af q.N]) (fB:=[.d (.sl (List.map Dk J)),Af q.N]) (Og L) (λx q=>OU) Yc ⟨⟨5,1,List.map Dk J,AA,rfl⟩,rfl,trivial⟩ rfl)<|.aN<|D8<|z _ _ _ (Ak [Ae 3,Ae 1]) h) λh=>Ce<|AV h λq u h=>AX 1<|.X (ai0 u).view<|Ah<|Ag<|Ar<|DX (λu z=>⟨BG 109 [(3,.aQ 0),(7,Bh q),(8,Af z)],[(Ir u)],0⟩) _ _ _ _ (Ak [Ae 0]) h<|λu z I J L h=>Ah<|AX 2<|.Z (BN Ai q)<|Bq h (λh=>Ah<|Ar<|Bv h λq u z L h=>CV<|.a 3<|.p (BK Ai u)<|.a 1<|.f (Jr (dX:=[.aQ 0,Af q]) (fB:=[.d (.sl (List.map Dk J)),Af q]) (Og L) (λx q=>OU) Yc ⟨⟨5,1,List.map Dk J,AA,rfl⟩,rfl,trivial⟩ rfl)<|aCU) λh=>JF
def aDM  :AB Int:=some 860922984064492325
def alJ (r:Int)(h:aDM=some r):E8 196 [] [] (Af r) []:=Ec func196 rfl<|YX
def aHa (j:Ac)(u:(Int->Int->AB Int)):Int->Int->AB Int:=λv2 q=>(bif q<(j.length:Int) then(Au j q).bind λz=>(XY (IntKind.u64.wrap ((F8 .xor .u64 v2 (IntKind.u64.wrap z))*1099511628211)) 4611686018427387904).bind λI=>u I (BA (q+1))else some (BA v2))
def aWv (j:Ac):Int->Int->AB Int:=aP (aHa j) Az
def aBQ (j:Int)(q:Ac):AB Int:=(XY (IntKind.u64.wrap j) 4611686018427387904).bind λu=>aWv q u 0
def akz :=DV func195 rfl aBQ Af Io Af λI j r h=>Ag<|AV h λz q h=>AX 2<|.Z (aIO (k:=.u64) q)<|Ah<|Ag<|Ar<|DX (λz q=>⟨BG 27 [(1,Io j),(5,.d ((qF .u64) z)),(6,Af q)],[],0⟩) _ _ _ _ (Ak []) h<|λz q J L M h=>Ah<|AX 2<|.Z (BN Dk j)<|Bq h (λh=>Ah<|Ar<|Bv h λz q M O h=>CV<|.a 3<|.p (BK Dk q)<|.a 2<|.p (aRa (k:=.u64) (u:=L) (v:=(IntKind.u64.wrap z)))<|.a 1<|.p (aIO (k:=.u64) O)<|.aN<|D8<|J _ _ _ (Ak []) h) λh=>Eh
def a0s (j:Ac):AB Int:=(aDM).bind λq=>(aBQ q j).bind λu=>some u
def aNF :=Dj func119 rfl a0s Io Af λj r h=>Ag<|Bv h λq u I z h=>BU<|.ca (alJ  q u)<|.a 1<|.X (akz z)<|CY
def a8q (j:Aa):AB Int:=(jr j.Content).bind λq=>(a0s q).bind λu=>some u
def adr :=Dj func193 rfl a8q DY Af λj r h=>Ag<|Bv h λz q I u h=>AX 2<|.ca (aUi q).view<|.X (aNF u)<|CY
def VQ (j:Aa):AB Ad:=(a8q j).bind λq=>some (q==j.Hash)
def eY :=Dj func115 rfl VQ DY Am λj r h=>Ag<|AV h λu q h=>F5 AA AA AA (.a 1<|.ca (adr q)<|.a 4<|.nil _)<|CY
def a0Y (j:Ad):AB Ad:=some j
def a4w (j:Aa)(q:Aa):AB Ad:=(YG j).bind λz=>(YG q).bind λI=>(WT z I).bind λJ=>(bif (!J)then a0Y true else(VQ j).bind λL=>(bif L then(VQ q).bind λM=>(bif M then(WT j q).bind λu=>a0Y (!u)else a0Y false)else a0Y false))
def aag :=DV func42 rfl a4w DY DY Am λY Z r h=>Ag<|D7 (λs=>∃(M:Ad),CO s ⟨BG 25 [(4,Am M)],[],0⟩/\a0Y M=some r) (by rintro s ⟨M,hs,h⟩;exact D9 hs<|CY)<|λz=>Ho h λx2 I x4 J x6 L h=>EY h (λj h=>DN AA AA AA (.a 1<|.ca (YL I)<|.a 1<|.ca (YL J)<|.ca (nS L)<|.a 1<|.c (BJ some j)<|.a 14<|.nil _)<|z _ ⟨true,Ak [],h⟩) λj h=>AV h λx7 q h=>by cases x7 with |true=>exact(have h:=SK rfl h;AV h λx9 u h=>by cases x9 with |true=>exact(have h:=SK rfl h;AV h λO U h=>DN AA AA AA (.a 1<|.ca (YL I)<|.a 1<|.ca (YL J)<|.ca (nS L)<|.a 1<|.c (BJ some j)<|.a 1<|.ca (eY q)<|.a 2<|.ca (eY u)<|.a 4<|.ca (nS U)<|.a 4<|.nil _)<|z _ ⟨(!O),Ak [],h⟩)|false=>exact(have h:=RZ rfl h;DN AA AA AA (.a 1<|.ca (YL I)<|.a 1<|.ca (YL J)<|.ca (nS L)<|.a 1<|.c (BJ some j)<|.a 1<|.ca (eY q)<|.a 2<|.ca (eY u)<|.a 9<|.nil _)<|z _ ⟨false,Ak [],h⟩))|false=>exact(have h:=RZ rfl h;DN AA AA AA (.a 1<|.ca (YL I)<|.a 1<|.ca (YL J)<|.ca (nS L)<|.a 1<|.c (BJ some j)<|.a 1<|.ca (eY q)<|.a 12<|.nil _)<|z _ ⟨false,Ak [],h⟩)
def wI (j:Ac):AB Ac:=(DC 8 [] j).bind λq=>some q
def aQU {ni r}(h:wI ni=some r):E8 183 [Bh ni] [] (.aQ 0) [(Cb r)]:=by
 refine Ec func183 rfl ?_;unfold wI at h;refine BU<|.f (CW 3 1)<|.aX<|Ah<|oD (x:=.tmp 3) (t':=27) (d:=4) (es:=List.map Ai ni) 1 rfl (.a 1<|.nil _) AA AA AA Jc AA ?_;intro b j;cases b
 ·clear j;refine Nv AA<|Ew ?_;obtain⟨u,q,h⟩:=Dq h;refine BU<|.f (I7 Dy zero3 [])<|.a 1<|.f (Dv (k:=1) Ai q Dy AA (λ_=>rfl) Bl)<|.aM 1 ?_;rw[←CQ h];exact .ret (Et [Ae 2])
 replace j:=ou j;replace h:some []=some r:=nZ
 refine O9 AA<|BU<|.f (CW 3 1)<|.aX ?_;rw[←CQ h];exact .ret (Et [Ae 1])
def VU (j:Ac):AB Ac:=(wI j).bind λq=>(Pm q).bind λu=>(YA u).bind λz=>some z
def Yd :=LQ func125 rfl VU Bh Cb λj r h=>BU<|.f (CW 3 1)<|.aX<|AV h λu q h=>AX 1<|.Y (x:=.aQ 1) (Jo [Bh j] (aQU q))<|AV h λq z h=>AX 1<|.f (x:=.eH []) (EP [.ent 1] [.aQ 1] (wM u q z))<|.aX<|AV h λu z h=>AX 1<|.Y (x:=.aQ 2) (EP [.ent 1] [.aQ 1] (aBu q u z))<|Le
def cmp_isNaN_int (j:Int):AB Ad:=some (j != j)
def aUN :=Dj func268 rfl cmp_isNaN_int Af Am λj r h=>YX
def cmp_Less_int (j:Int)(q:Int):AB Ad:=(cmp_isNaN_int j).bind λu=>(bif u then(cmp_isNaN_int q).bind λz=>some (!z)else some false).bind λI=>(bif I then some true else some (decide (j<q))).bind λJ=>some J
def ajH :=DV func199 rfl cmp_Less_int Af Af Am λu z r h=>Ag<|AV h λq j h=>AX 1<|.ca (aUN j)<|.a 1<|AV h λq j h=>.mg 8 3 (Am q) (DI j (λe i=>by subst e;have h:=i;exact AV h λq j h=>.a 1<|.X (aUN j)<|Cj))<|.a 1<|AV h λq j h=>.mg 13 3 (Am q) (DI j)<|.aW<|CY
def a6c (j:Int):AB Ad:=some (j != j)
def aXC :=Dj func200 rfl a6c Af Am λj r h=>YX
def aO9 (q:Ac)(j:Int)(k3:(Int->Int->AB (Int×Ad))):Int->Int->AB (Int×Ad):=λu v2=>(bif u<v2 then(QZ .shr .u64 (IntKind.u64.wrap (BA (u+v2))) 1).bind λz=>(Au q (BA z)).bind λY=>(cmp_Less_int Y j).bind λZ=>(bif Z then k3 (BA ((BA z)+1)) v2 else k3 u (BA z))else(bif u<(q.length:Int) then(Au q u).bind λI=>(bif (I==j)then some true else(Au q u).bind λJ=>(a6c J).bind λL=>(bif L then(a6c j).bind λM=>some M else some false).bind λO=>some O).bind λU=>some U else some false).bind λx9=>some (u,x9))
def aRC (q:Ac)(j:Int):Int->Int->AB (Int×Ad):=aP (aO9 q j) Az
def a7o (q:Ac)(j:Int):AB (Int×Ad):=aRC q j 0 (q.length:Int)
def aZD :=DV func126 rfl a7o Bh Af (λr=>.eH [Af r.1,Am r.2]) λz q r h=>Ag<|AX 1<|.Z (BN Ai z)<|Ag<|Ah<|Ar<|DX (λu j=>⟨BG 54 [(0,Bh z),(1,Af q),(6,Af (z.length:Int)),(7,Af u),(8,Af j)],[],0⟩) _ _ _ _ (Ak []) h<|λu j I J L h=>Ah<|Ag<|Bq h (λh=>Ar<|AV h λu j h=>AX 4<|.Z (aSK (k:=.u64) (k':=.u64) j)<|Bv h λu j J L h=>AX 2<|.p (BK Ai j)<|.a 2<|.ca (ajH L)<|.aX<|Di h (λh=>Src) λh=>Src) λh=>Ce<|AX 4<|AV h λu j h=>.mg 35 18 (Am u) (.bi j (λh=>AV h λu j h=>.a 2<|.p (BK Ai j)<|.a 3<|AV h λu j h=>.mg 42 10 (Am u) (.bi j (k2:=λh=>Bv h λu j I J h=>.a 2<|.p (BK Ai j)<|.a 1<|.ca (aXC J)<|.a 1<|AV h λu j h=>.mg 49 2 (Am u) (DI j (λe i=>by subst e;have h:=i;exact AV h λu j h=>.a 1<|.X (aXC j)<|Cj))<|.aW<|Cj))<|.aW<|Cj))<|.aW<|CY
def a6A (j:(Ac->Int->AB Ac))(q:Int)(u:Ac):AB Ac:=j u (BA (q+1))
def aFD (I:Ac)(M:Ac)(J:(Ac->Int->AB Ac)):Ac->Int->AB Ac:=λq j=>(bif j<(I.length:Int) then(Au I j).bind λL=>(a7o M L).bind λu=>(bif (!u.2)then(DC 8 q [L]).bind λz=>a6A J j z else a6A J j q)else some q)
def aVb (j:Ac)(q:Ac):Ac->Int->AB Ac:=aP (aFD j q) Az
def a1R (j:Ac)(q:Ac):AB Ac:=(VU q).bind λu=>(VU j).bind λz=>aVb z u [] 0
def aao :=Gg func51 rfl a1R Bh Bh Cb λL M r h=>BU<|.f (CW 3 1)<|.aX<|AV h λz j h=>AX 1<|.X (Yd j).view<|BU<|.f (CW 3 1)<|.aX<|Ah<|AV h λj u h=>AX 1<|.ca (Yd u).view<|.Z (BN Ai j)<|Ar<|DX (λu q=>⟨BG 34 [(5,Bh z),(6,.aQ 0),(14,Bh j),(15,Af (j.length:Int)),(16,Af q)],[(Cb u)],0⟩) _ _ _ _ (Ak [Ae 1]) h<|λu q I U O h=>Ag<|Ah<|Bq h (λh=>D7 (λs=>∃(J:(A8 Int)),CO s ⟨BG 34 [(5,Bh z),(6,.aQ 0),(14,Bh j),(15,Af (j.length:Int)),(16,Af O)],[(Cb J)],0⟩/\a6A q O J=some r) (by rintro s ⟨J,hs,h⟩;exact D9 hs<|U2)<|λj=>Ar<|AV h λu q h=>BU<|.Z (BK Ai q)<|AV h λq I h=>AX 2<|.X (aZD I)<|Ag<|BL h (λh=>AV h λz q h=>CV<|.a 2<|.p (EG Dy zero3 [Ai u])<|.f (Dv (k:=0) Ai q Dy AA (λ_=>rfl) Bl)<|.aN<|j _ ⟨z,Ak [Ae 1],h⟩) λh=>j _ ⟨U,Ak [Ae 0],h⟩) λh=>JF
def aTZ (j:Ac)(q:Ac):AB Ac:=(wI j).bind λu=>(DC 8 u q).bind λz=>(VU z).bind λI=>some I
def acw :=Gg func107 rfl aTZ Bh Bh Cb λj q r h=>BU<|.f (CW 3 1)<|.aX<|Ho h λL z u I M J h=>AX 1<|.f (x:=.aQ 1) (Jo [Bh j] (aQU z))<|.a 1<|.f (Dv (k:=1) Ai I Dy AA (λ_=>rfl) Bl)<|.conv _ (Jk (e:=3) (s:=1) 2 (xs:=List.map Ai u) AA)<|.Y (x:=.aQ 3) (Jo [Bh u] (Yd J))<|qM
def Za (j:Ac)(q:Int):AB Ac:=(Jg 1 0 (j.length:Int) (BA ((j.length:Int)+q))).bind λu=>some (gCopy u j)
def yD :=Gg func121 rfl Za Io Af Ir λj q r h=>BU<|.f (CW 5 1)<|.aX<|AV h λu z h=>AX 1<|.p (BN Dk j)<|.a 1<|.p (BN Dk j)<|.a 2<|.Y (Zw Dk 0 z Jz Rk AA AA AA Bl)<|AX 2<|.f (aky (k:=1) Dk u j Jz AA (λ_=>rfl))<|.aX<|Ag<|KF
def Wu (u:(Ac->Int->AB Ac)):Ac->Int->AB Ac:=λq j=>(bif j>=128 then(DC 1 q [F8 .or .u8 (IntKind.u8.wrap j) 128]).bind λz=>(QZ .shr .u64 j 7).bind λI=>u z I else(DC 1 q [IntKind.u8.wrap j]).bind λJ=>some J)
def aVW  :Ac->Int->AB Ac:=aP (Wu) Az
def a1W (j:Ac)(v2:Int):AB Ac:=aVW j v2
def ZY (j:Ac)(q:Int):AB Ac:=(QZ .shl .u64 (IntKind.u64.wrap q) 1).bind λu=>(bif q<0 then a1W j (jT .u64 u)else a1W j u)
def ru {VI FC r}(h:ZY VI FC=some r):E8 122 [.aQ 0,Af FC] [(Ir VI)] (.aQ 1) [.dead,(Ir r)]:=Ec func122 rfl<|BU<|.f (CW 5 1)<|.aX<|AV h λq j h=>AX 2<|.Z (a6x (k:=.u64) (k':=.u64) j)<|D7 (λs=>∃(v2:Int),CO s ⟨BG 28 [(0,.aQ 1),(5,.d ((qF .u64) v2))],[.dead,(Ir VI)],1⟩/\a1W VI v2=some r) (by rintro s ⟨v2,hs,h⟩;exact D9 hs<|Ah<|Ar<|DX (λq j=>⟨BG 28 [(0,.aQ 1),(5,.d ((qF .u64) j))],[.dead,(Ir q)],1⟩) _ _ _ _ (Ak [(0,false),Ae 1]) h<|λq j I J z h=>Ah<|Ag<|Bq h (λh=>Ar<|AV h λq j h=>AX 3<|.p (YH (k:=.u8) (u:=(IntKind.u8.wrap z)) (v:=128))<|.p (EG Jz Rk [Dk (F8 .or .u8 (IntKind.u8.wrap z) 128)])<|.Y (Dv (k:=1) Dk j Jz AA (λ_=>rfl) Bl)<|AV h λq j h=>CV<|.a 1<|.p (aSK (k:=.u64) (k':=.u64) j)<|.aN<|I _ _ _ (Ak [(0,false),Ae 2]) h) λh=>Ce<|AV h λq j h=>AX 3<|.p (EG Jz Rk [Dk (IntKind.u8.wrap z)])<|.Y (Dv (k:=1) Dk j Jz AA (λ_=>rfl) Bl)<|by cases h;exact .ret (Et [(0,false),Ae 2]))<|λj=>Ag<|BL h (λh=>CV<|.a 1<|.p (aVl (k:=.u64) (u:=q))<|.aN<|j _ ⟨(jT .u64 q),Ak [(0,false),Ae 0],h⟩) λh=>j _ ⟨q,Ak [(0,false),Ae 0],h⟩
def xK (q:Ac)(j:BP):AB Ac:=(ZY q (j.size:Int)).bind λu=>(DC 1 u (DL j)).bind λz=>some z
def aSr {VI sO r}(h:xK VI sO=some r):E8 120 [.aQ 0,Cx sO] [(Ir VI)] (.aQ 1) [.dead,(Ir r)]:=Ec func120 rfl<|BU<|.f (CW 5 1)<|.aX<|Bv h λu j z q h=>AX 3<|.f (x:=.aQ 2) (EP [.ent 0] [.aQ 0,Af (sO.size:Int)] (ru j))<|.a 1<|.Y (aa9 (k:=2) q Jz Rk Hg AA)<|by cases h;exact .ret (Et [(0,false),Ae 3])
def TM (q:Ac)(j:BP):AB Ac:=(Za q (BA ((j.size:Int)+10))).bind λu=>(xK u j).bind λz=>some z
def a3D :=Gg func47 rfl TM Io Cx Ir λq j r h=>BU<|.f (CW 5 1)<|.aX<|Bv h λI u J z h=>AX 4<|.f (x:=.aQ 1) (Jo [Io q,Af (BA ((j.size:Int)+10))] (yD u))<|.a 1<|.Y (x:=.aQ 2) (EP [.ent 1] [.aQ 1,Cx j] (aSr z))<|Le
def Ov (j:Ac)(q:Int):AB Ac:=(Za j 10).bind λu=>(ZY u q).bind λz=>some z
def XF :=Gg func48 rfl Ov Io Af Ir λj q r h=>BU<|.f (CW 5 1)<|.aX<|Bv h λI u J z h=>AX 1<|.f (x:=.aQ 1) (Jo [Io j,Af 10] (yD u))<|.a 1<|.Y (x:=.aQ 2) (EP [.ent 1] [.aQ 1,Af q] (ru z))<|Le
def Va (j:C9)(q:Int)(k3:(Int->FZ->AB (FZ×Ad))):Int->FZ->AB (FZ×Ad):=λu v2=>(bif u<(j.Rows.length:Int) then(Au j.Rows u).bind λz=>(bif (z.Id==q)then some (z,true)else k3 (BA (u+1)) v2)else some (KZ,false))
def aNI (q:C9)(j:Int):Int->FZ->AB (FZ×Ad):=aP (Va q j) Az
def ZL (q:C9)(j:Int):AB (FZ×Ad):=aNI q j 0 KZ
def aGG :=DV func32 rfl ZL HY Af (λr=>.eH [dN r.1,Am r.2]) λj q r h=>Ag<|Ah<|AX 2<|.Z (BN FK j.Rows)<|Ar<|DX (λu z=>⟨BG 22 [(1,Af q),(4,.ptr 0 0),(9,Vr j.Rows),(10,Af (j.Rows.length:Int)),(11,Af u)],[.box (BH (FK z))],0⟩) _ _ _ _ (Ak [Ae 1]) h<|λu z J L M h=>Ag<|Ah<|Bq h (λh=>Ah<|Ar<|AV h λu z h=>BU<|.Z (BK FK z)<|Ag<|BL h (λh=>Ag<|F6<|by rw[←CQ h];exact⟨[dN u,Am true],[],⟨⟨0,BH (FK u),true,4,AA,AA,AA,tV,Dt AA,NJ,AA⟩,Gj AA,trivial⟩,AA,AA,AA⟩) λh=>qO) λh=>Ce<|Ag<|F6<|by rw[←CQ h];exact⟨[dN KZ,Am false],[],⟨⟨0,BH (FK KZ),true,4,AA,AA,AA,tV,Dt AA,NJ,AA⟩,Gj AA,trivial⟩,AA,AA,AA⟩
def aBe  :AB Int:=some 860922984064492325
def abt (r:Int)(h:aBe=some r):E8 124 [] [] (Af r) []:=Ec func124 rfl<|YX
def aHb (j:Ac)(k3:(Int->Int->AB Int)):Int->Int->AB Int:=λq v2=>(bif v2<(j.length:Int) then(Au j v2).bind λu=>k3 (F8 .and .u64 (IntKind.u64.wrap ((F8 .xor .u64 q (IntKind.u64.wrap u))*1099511628211)) 4611686018427387903) (BA (v2+1))else some (BA q))
def aUO (j:Ac):Int->Int->AB Int:=aP (aHb j) Az
def aD6 (j:Int)(q:Ac):AB Int:=aUO q (F8 .and .u64 (IntKind.u64.wrap j) 4611686018427387903) 0
def aho :=DV func123 rfl aD6 Af Io Af λq j r h=>Ag<|AX 2<|.Z (SL (k:=.u64) (u:=(IntKind.u64.wrap q)) (v:=4611686018427387903))<|Ah<|AX 1<|.Z (BN Dk j)<|Ar<|DX (λz I=>⟨BG 26 [(5,.d ((qF .u64) z)),(11,Io j),(12,Af (j.length:Int)),(13,Af I)],[],0⟩) _ _ _ _ (Ak []) h<|λz I L J M h=>Ag<|Ah<|Bq h (λh=>Ah<|Ar<|AV h λz I h=>BU<|.Z (BK Dk I)<|CV<|.a 3<|.p (aRa (k:=.u64) (u:=J) (v:=(IntKind.u64.wrap z)))<|.a 1<|.p (SL (k:=.u64) (u:=(IntKind.u64.wrap ((F8 .xor .u64 J (IntKind.u64.wrap z))*1099511628211))) (v:=4611686018427387903))<|.aN<|D8<|L _ _ _ (Ak []) h) λh=>Eh
def a0b (j:Ac):AB Int:=(aBe).bind λq=>(aD6 q j).bind λu=>some u
def aLg :=Dj func50 rfl a0b Io Af λj r h=>Ag<|Bv h λq u I z h=>BU<|.ca (abt  q u)<|.a 1<|.X (aho z)<|CY
def VB (j:C9)(q:Int)(k3:(Int->FZ->AB (FZ×Ad))):Int->FZ->AB (FZ×Ad):=λu v2=>(bif u<(j.Rows.length:Int) then(Au j.Rows u).bind λz=>(bif (z.Id==q)then(Au j.Rows u).bind λI=>some (I,true)else k3 (BA (u+1)) v2)else some (KZ,false))
def aNb (q:C9)(j:Int):Int->FZ->AB (FZ×Ad):=aP (VB q j) Az
def zq (q:C9)(j:Int):AB (FZ×Ad):=aNb q j 0 KZ
def aP9 :=DV func33 rfl zq HY Af (λr=>.eH [dN r.1,Am r.2]) λj q r h=>Ag<|Ah<|Ag<|Ar<|DX (λu z=>⟨BG 28 [(1,Af q),(2,.ptr 0 0),(4,.ptr 1 0),(6,Af u)],[.box (BH (CZ j)),.box (BH (FK z))],0⟩) _ _ _ _ (Ak [Ae 0,Ae 1]) h<|λu z J L M h=>Ah<|AX 3<|.Z (BN FK j.Rows)<|Bq h (λh=>Ah<|Ar<|AV h λu z h=>AX 3<|.Z (BK FK z)<|BL h (λh=>AV h λu z h=>AX 3<|.Z (BK FK z)<|F6<|by rw[←CQ h];exact⟨[dN u,Am true],[],⟨⟨1,BH (FK u),true,4,AA,AA,AA,tV,Dt AA,NJ,AA⟩,Gj AA,trivial⟩,AA,AA,AA⟩) λh=>zQ) λh=>Ce<|Ag<|F6<|by rw[←CQ h];exact⟨[dN KZ,Am false],[],⟨⟨1,BH (FK KZ),true,4,AA,AA,AA,tV,Dt AA,NJ,AA⟩,Gj AA,trivial⟩,AA,AA,AA⟩
def aFZ (j:BP)(q:BP):AB (BP×BP×Ad):=(a8R j q).bind λu=>(bif u>=0 then(Oj j 0 u).bind λz=>(Oj j (BA (u+(q.size:Int))) ((j).size)).bind λI=>some (z,I,true)else some (j,CX,false))
def aYZ :=DV func274 rfl aFZ Cx Cx (λr=>.eH [Cx r.1,Cx r.2.1,Am r.2.2]) λq j r h=>Ag<|Ah<|AV h λJ u h=>AX 2<|.X (ajj q j J u)<|Ag<|BL h (λh=>Bv h λJ u L z h=>F5 AA AA AA (.a 2<|.p (qx u (λ_=>rfl) NJ Hg rfl)<|.a 5<|.p (qx z NJ (λ_=>rfl) Hg rfl)<|.a 3<|.nil _)<|CY) λh=>Ag<|CY
def strings_Cut (q:BP)(j:BP):AB (BP×BP×Ad):=(aFZ q j).bind λu=>some (u.1,u.2.1,u.2.2)
def aXu :=DV func204 rfl strings_Cut Cx Cx (λr=>.eH [Cx r.1,Cx r.2.1,Am r.2.2]) λq j r h=>Ag<|AV h λz u h=>AX 2<|.X (aYZ u)<|CY
def a0R (j:Int):AB Ad:=(bif (j==95)then some true else some (j==46)).bind λq=>(bif q then some true else some (j==45)).bind λu=>(bif u then some true else some (j==61)).bind λz=>some z
def agK :=Dj func272 rfl a0R (λj=>.d (Dk j)) Am λj r h=>Ag<|AX 2<|AV h λq u h=>.mg 5 3 (Am q) (.bi u)<|.a 1<|AV h λq u h=>.mg 10 2 (Am q) (DI u)<|.a 1<|AV h λq u h=>.mg 14 2 (Am q) (DI u)<|.aW<|CY
def mM (j:Int):AB Ad:=(bif j>=97 then some (decide (j<=122))else some false).bind λq=>(bif q then some true else(bif j>=48 then some (decide (j<=57))else some false).bind λu=>some u).bind λz=>some z
def aIF :=Dj func271 rfl mM (λj=>.d (Dk j)) Am λj r h=>Ag<|AX 2<|AV h λq u h=>.mg 5 3 (Am q) (.bi u)<|.a 1<|AV h λq u h=>.mg 10 6 (Am q) (DI u (k2:=λe i=>aS8))<|.aW<|CY
def aBy (q:BP)(j:(Int->AB Ad))(J:(Int->AB Ad)):Int->AB Ad:=λu=>(bif u<(q.size:Int) then(Ig q u).bind λL=>(mM L).bind λM=>(bif (!M)then(Ig q u).bind λz=>(j z).bind λI=>some (!I)else some false).bind λO=>(bif O then some false else J (BA (u+1)))else some true)
def aIa (q:BP)(j:(Int->AB Ad)):Int->AB Ad:=bn (aBy q j) Az
def dO (q:BP)(j:(Int->AB Ad)):AB Ad:=(bif (q.size:Int)<1 then some true else some (decide ((q.size:Int)>32))).bind λu=>(bif u then some false else aIa q j 0)
def aTw (z:BP)(q:(Int->AB Ad))(j:D)(u:TU Aw Dk E9 j q)(r:Ad)(h:dO z q=some r):E8 269 [Cx z,.d j] [] (Am r) []:=Ec func269 rfl<|Ag<|Ah<|AX 3<|AV h λI J h=>.mg 9 4 (Am I) (.bi J)<|.aX<|BL h CG λh=>Ah<|Ag<|Ar<|Du (λI=>⟨BG 33 [(0,Cx z),(1,.d j),(15,Af (z.size:Int)),(16,Af I)],[],0⟩) _ _ _ (Ak []) h<|λI J M L h=>Ag<|Ah<|Bq h (λh=>Ah<|Ar<|Ag<|Bv h λI J L O h=>AX 2<|.p (Ls (k:=.i64) J Hg)<|.ca (aIF O)<|.a 1<|AV h λI J h=>.mg 24 7 (Am I) (.bi J (λh=>Bv h λI J M L h=>.a 3<|.p (Ls (k:=.i64) J Hg)<|.Z (wo (d:=j) (u:TU Aw Dk E9 j q) L)<|Cj))<|.aX<|BL h CG λh=>D8<|M _ _ (Ak []) h) λh=>Eh
def a1e (j:BP):AB Ad:=(dO j (λa0=>a0R a0)).bind λq=>some q
def ac6 :=Dj func202 rfl a1e Cx Am λj r h=>Ag<|AV h λq u h=>AX 1<|.X (aTw j (λq=>a0R q) (.fn (.func 272) [] []) ⟨272,[],rfl,abo,λq u z=>agK z⟩ q u)<|CY
def xq (j:Int):AB Ad:=(bif (j==46)then some true else some (j==45)).bind λq=>some q
def aYk :=Dj func270 rfl xq (λj=>.d (Dk j)) Am λj r h=>Ag<|AX 2<|AV h λq u h=>.mg 5 3 (Am q) (.bi u)<|.aW<|CY
def a2l (j:BP):AB Ad:=(dO j (λa0=>xq a0)).bind λq=>(bif q then(Ig j 0).bind λu=>(mM u).bind λz=>some z else some false).bind λI=>(bif I then(Ig j (BA ((j.size:Int)-1))).bind λJ=>(mM J).bind λL=>some L else some false).bind λM=>some M
def aXP :=Dj func201 rfl a2l Cx Am λu r h=>Ag<|AV h λj q h=>AX 1<|.ca (aTw u (λj=>xq j) (.fn (.func 270) [] []) ⟨270,[],rfl,akZ,λj q z=>aYk z⟩ j q)<|.a 1<|AV h λj q h=>.mg 6 3 (Am j) (DI q (λe i=>by subst e;have h:=i;exact Bv h λj q z I h=>.a 1<|.p (Ls (k:=.i64) q Hg)<|.X (aIF I)<|Cj))<|.a 1<|AV h λj q h=>.mg 11 6 (Am j) (DI q (λe i=>by subst e;have h:=i;exact Bv h λj q z I h=>.a 4<|.p (Ls (k:=.i64) q Hg)<|.X (aIF I)<|Cj))<|.aW<|CY
def pJ (j:BP)(q:BP):AB (BP×BP×Ad):=(bif (j.toList==CX.toList)then some true else(Ig j 0).bind λL=>(strings_IndexByte q L).bind λM=>some (decide (M<0))).bind λO=>(bif O then some (CX,CX,false)else(Oj j 1 ((j).size)).bind λU=>(strings_Cut U a0e).bind λu=>(bif (!u.2.2)then some true else(a1e u.1).bind λz=>some (!z)).bind λY=>(bif Y then some true else(a2l u.2.1).bind λI=>some (!I)).bind λJ=>(bif J then some (CX,CX,false)else some (u.1,u.2.1,true)))
def aQ9 :=DV func130 rfl pJ Cx Cx (λr=>.eH [Cx r.1,Cx r.2.1,Am r.2.2]) λz j r h=>Ag<|Ah<|AX 2<|AV h λu q h=>.mg 12 6 (Am u) (.bi q (k2:=λh=>Bv h λu q J I h=>.a 2<|.p (Ls (k:=.i64) q Hg)<|.X (agG j u J I)<|Cj))<|.aX<|BL h CG λh=>Bv h λu q J I h=>AX 1<|.p (qx q aCO (λ_=>rfl) Hg rfl)<|.X (aXu I)<|Ah<|AX 2<|AV h λu q h=>.mg 28 4 (Am u) (.bi q (k2:=λh=>AV h λu q h=>.a 1<|.X (ac6 q)<|Cj))<|.a 1<|AV h λu q h=>.mg 34 3 (Am u) (DI q (k2:=λe i=>by subst e;have h:=i;exact AV h λu q h=>.a 1<|.X (aXP q)<|Cj))<|.aX<|JW
def wE (q:BP)(j:BP):AB Int:=(pJ q j).bind λu=>(bif (!u.2.2)then some 3 else some 0)
def aQC :=DV func166 rfl wE Cx Cx Af λq j r h=>Ag<|Ah<|AV h λz u h=>AX 2<|.X (aQ9 u)<|Ag<|JW
def iK (j:BP):AB Int:=(wE j a6m).bind λq=>some q
def aBL :=Dj func89 rfl iK Cx Af λj r h=>Ag<|AV h λu q h=>AX 1<|.X (aQC q)<|CY
def aUm (j:BP):AB (C9×Int):=(iK j).bind λq=>(bif (q != 0)then some (OB,3)else some ({ OB with Id:=j },0))
def aeL :=Dj func30 rfl aUm Cx (λr=>.eH [HY r.1,Af r.2]) λj r h=>Ag<|Ah<|AV h λz u h=>AX 1<|.X (aBL u)<|BL h (λh=>Ag<|F6<|by rw[←CQ h];exact⟨[HY OB,Af 3],[],⟨⟨0,BH (CZ OB),true,9,AA,AA,AA,Q5,Dt AA,VF,AA⟩,Gj AA,trivial⟩,AA,AA,AA⟩) λh=>Ag<|F6<|by rw[←CQ h];exact⟨[HY ({ OB with Id:=j }),Af 0],[],⟨⟨0,BH (CZ ({ OB with Id:=j })),true,9,AA,AA,AA,Q5,Dt AA,VF,AA⟩,Gj AA,trivial⟩,AA,AA,AA⟩
def Zb (q:Ac)(j:Ad):AB Ac:=(Za q 1).bind λu=>(bif j then(DC 1 u [1]).bind λz=>some z else(DC 1 u [0]).bind λI=>some I)
def aTV :=Gg func214 rfl Zb Io Am Ir λj u r h=>BU<|.f (CW 5 1)<|.aX<|AV h λz q h=>AX 1<|.Y (x:=.aQ 1) (Jo [Io j,Af 1] (yD q))<|Ah<|Ag<|BL h (λh=>AV h λz q h=>AX 1<|.p (EG Jz Rk [Dk 1])<|.Y (Dv (k:=1) Dk q Jz AA (λ_=>rfl) Bl)<|Le) λh=>AV h λz q h=>AX 1<|.p (EG Jz Rk [Dk 0])<|.Y (Dv (k:=1) Dk q Jz AA (λ_=>rfl) Bl)<|Le
def aKV (j:GX)(u:(Ac->Int->AB Ac)):Ac->Int->AB Ac:=λv2 q=>(bif q<(j.length:Int) then(Au j q).bind λz=>(xK v2 z).bind λI=>u I (BA (q+1))else some v2)
def aSz (j:GX):Ac->Int->AB Ac:=aP (aKV j) Az
def a1z (q:Ac)(j:GX):AB Ac:=(ZY q (j.length:Int)).bind λu=>aSz j u 0
def aY7 {VI iQ r}(h:a1z VI iQ=some r):E8 277 [.aQ 0,Ii iQ,.d (.fn (.func 120) [] [])] [(Ir VI)] (.aQ 1) [.dead,(Ir r)]:=Ec func277 rfl<|BU<|.f (CW 5 1)<|.aX<|AV h λq j h=>AX 2<|.p (BN DW iQ)<|.Y (x:=.aQ 2) (EP [.ent 0] [.aQ 0,Af (iQ.length:Int)] (ru j))<|Ah<|AX 1<|.Z (BN DW iQ)<|Ar<|DX (λq j=>⟨BG 25 [(0,.aQ 1),(2,.d (.fn (.func 120) [] [])),(13,Ii iQ),(14,Af (iQ.length:Int)),(15,Af j)],[.dead,(Ir q)],1⟩) _ _ _ _ (Ak [(0,false),Ae 2]) h<|λq j z I u h=>Ag<|Ah<|Bq h (λh=>Ah<|Ar<|AV h λq j h=>BU<|.Z (BK DW j)<|AV h λj u h=>CV<|.a 3<|.f (x:=.aQ 2) (aOy [.ent 1] [] [] [.aQ 1,Cx q] (aSr u))<|aJS) λh=>Ce<|Ag<|pz
def Fn1 (q:Ac)(j:GX):AB Ac:=(Za q (BA ((BA (8*(j.length:Int)))+10))).bind λu=>(a1z u j).bind λz=>some z
def aWX :=Gg func215 rfl Fn1 Io Ii Ir λq j r h=>BU<|.f (CW 5 1)<|.aX<|Bv h λI u J z h=>AX 2<|.p (BN DW j)<|.a 2<|.f (x:=.aQ 1) (Jo [Io q,Af (BA ((BA (8*(j.length:Int)))+10))] (yD u))<|.a 1<|.Y (x:=.aQ 2) (EP [.ent 1] [.aQ 1,Ii j,.d (.fn (.func 120) [] [])] (aY7 z))<|Le
def aDk (j:D6)(z:(Ac->Int->AB Ac)):Ac->Int->AB Ac:=λu q=>(bif q<7 then(Au ([j.Levels.User,j.Levels.Message,j.Levels.State,j.Levels.gX,j.Levels.kR,j.Levels.oN,j.Levels.ig]:Ac) q).bind λI=>(Ov u I).bind λJ=>z J (BA (q+1))else some u)
def aCc (j:D6):Ac->Int->AB Ac:=aP (aDk j) Az
def a6T (j:D6)(I:(Ac->Int->AB Ac)):Ac->Int->AB Ac:=λu q=>(bif q<(j.Levels.Kinds.length:Int) then(Au j.Levels.Kinds q).bind λz=>(Ov u z.Kind).bind λJ=>(Ov J z.N).bind λL=>I L (BA (q+1))else aCc j u 0)
def aIW (j:D6):Ac->Int->AB Ac:=aP (a6T j) Az
def a4r (j:D6)(z:(Ac->Int->AB Ac)):Ac->Int->AB Ac:=λM q=>(bif q<(j.Levels.Users.length:Int) then(Au j.Levels.Users q).bind λu=>(TM M u.User).bind λI=>(Ov I u.N).bind λJ=>z J (BA (q+1))else(Ov M (j.Levels.Kinds.length:Int)).bind λL=>aIW j L 0)
def aUd (j:D6):Ac->Int->AB Ac:=aP (a4r j) Az
def oQ (j:D6):AB Ac:=(TM [] j.Text).bind λq=>(Ov q j.N).bind λu=>(Ov u j.Target).bind λz=>(Zb z j.Thread).bind λI=>(TM I j.Via).bind λJ=>(Fn1 J j.Allow).bind λL=>(Fn1 L j.iy).bind λM=>(Ov M (j.Levels.Users.length:Int)).bind λO=>aUd j O 0
def aWF :=Dj func134 rfl oQ Ib Io λj r h=>Ag<|AV h λz q h=>AX 2<|.Z (x:=(Io z)) (aRQ [.d (.lit (.slice none 0 0)),Cx j.Text] (a3D q).view)<|AV h λq u h=>AX 3<|.X (XF u).view<|AV h λz u h=>AX 3<|.X (XF u).view<|AV h λq u h=>AX 3<|.X (aTV u).view<|AV h λz u h=>AX 3<|.X (a3D u).view<|AV h λq u h=>AX 3<|.X (aWX u).view<|AV h λz u h=>AX 3<|.X (aWX u).view<|Ag<|AV h λq u h=>AX 3<|.p (BN FD j.Levels.Users)<|.X (XF u).view<|Ah<|AX 2<|.Z (BN FD j.Levels.Users)<|Ar<|DX (λz q=>⟨BG 103 [(3,Io z),(4,.ptr 0 0),(46,PN j.Levels.Users),(47,Af (j.Levels.Users.length:Int)),(48,Af q)],[.box (BH (FQ j.Levels))],0⟩) _ _ _ _ (Ak [Ae 1]) h<|λz q u L I h=>Ag<|Ah<|Bq h (λh=>Ah<|Ar<|AV h λz q h=>BU<|.Z (BK FD q)<|Bv h λq I M J h=>DN AA AA AA (.a 3<|.ca (a3D I).view<|.a 2<|.ca (XF J).view<|.a 1<|.nil _)<|vX) λh=>Ce<|AV h λz q h=>AX 3<|.p (BN F7 j.Levels.Kinds)<|.X (XF q).view<|Ah<|AX 2<|.Z (BN F7 j.Levels.Kinds)<|Ar<|DX (λz q=>⟨BG 103 [(3,Io z),(4,.ptr 0 0),(66,PW j.Levels.Kinds),(67,Af (j.Levels.Kinds.length:Int)),(68,Af q)],[.box (BH (FQ j.Levels))],0⟩) _ _ _ _ (Ak [Ae 0]) h<|λz q u L I h=>Ag<|Ah<|Bq h (λh=>Ah<|Ar<|AV h λz q h=>BU<|.Z (BK F7 q)<|Bv h λq I M J h=>DN AA AA AA (.a 3<|.ca (XF I).view<|.a 2<|.ca (XF J).view<|.a 1<|.nil _)<|vX) λh=>Ce<|Ah<|Ag<|Ar<|DX (λz q=>⟨BG 103 [(3,Io z),(94,.d ((OI Ai) ([j.Levels.User,j.Levels.Message,j.Levels.State,j.Levels.gX,j.Levels.kR,j.Levels.oN,j.Levels.ig]:(A8 Int)))),(95,Af q)],[],0⟩) _ _ _ _ (Ak []) h<|λz q u L I h=>Ag<|Ah<|Bq h (λh=>Ah<|Ar<|AV h λz q h=>BU<|.Z (a2u (k:=.i64) Ai q a2a Ep AA)<|AV h λq I h=>CV<|.a 2<|.ca (XF I).view<|.aN<|D8<|u _ _ _ (Ak []) h) λh=>Eh
def yu (j:Aa):AB Int:=(oQ j.Content).bind λq=>(a0b q).bind λu=>some u
def aP5 :=Dj func60 rfl yu DY Af λj r h=>Ag<|Bv h λz q I u h=>AX 2<|.ca (aWF q)<|.X (aLg u)<|CY
def TG (j:Aa):AB Ad:=(yu j).bind λq=>some (q==j.Hash)
def a0p :=Dj func137 rfl TG DY Am λj r h=>Ag<|AV h λu q h=>F5 AA AA AA (.a 1<|.ca (aP5 q)<|.a 4<|.nil _)<|CY
def U0 (j:GX):AB GX:=(DC 16 [] j).bind λq=>some q
def a5v :=LQ func238 rfl U0 Ii Vp λj r h=>BU<|.f (CW 9 1)<|.aX<|AV h λu q h=>AX 1<|.Y (a5g 9 1 (Dv (k:=_) DW q OC AA (λ_=>rfl) Bl))<|Le
def dU (j:Ch):AB Ch:=(DC 24 [] j.Users).bind λq=>(DC 16 [] (({ j with Users:=q }).Kinds)).bind λu=>some ({ { j with Users:=q }with Kinds:=u })
def aMW :=Dj func239 rfl dU J4 J4 λj r h=>Ag<|AV h λu q h=>AX 2<|.f (a5g 146 2 (Dv (k:=_) FD q uP AA (λ_=>rfl) Bl))<|.conv _ (Jk (e:=146) (s:=2) 3 (xs:=List.map FD u) AA)<|.aW<|AV h λq z h=>AX 2<|.f (a5g 221 2 (Dv (k:=_) F7 z aJp AA (λ_=>rfl) Bl))<|.conv _ (Jk (e:=221) (s:=2) 5 (xs:=List.map F7 q) AA)<|.aW<|Ag<|F6<|by rw[←CQ h];exact⟨[J4 ({ { j with Users:=u }with Kinds:=q })],[],⟨⟨1,BH (FQ ({ { j with Users:=u }with Kinds:=q })),true,9,AA,AA,AA,Zq,Dt AA,NJ,AA⟩,trivial⟩,AA,AA,AA⟩
def a06 (j:Ad):AB Int:=(bif j then some 5 else some 0)
def zN (j:Int)(q:Ad):AB Int:=(bif q then some 2 else(bif (j==6)then some 96 else(bif (j==7)then some 1 else(bif (j==9)then some 3 else(bif (j==11)then some 13 else(bif (j==12)then a06 (j==12)else(bif (j==13)then a06 (j==13)else a06 (j==14))))))))
def kV (j:Int):AB Int:=(bif (j==2)then some 19 else(bif (j==3)then some 128 else(bif (j==4)then some 34 else(bif (j==5)then zN j (j==5)else(bif (j==8)then zN j (j==8)else zN j (j==10))))))
def aOn :=Dj func291 rfl kV Af Af λj r h=>Ag<|Ah<|Ag<|Ar<|Ag<|Di h CG λh=>Ag<|Di h CG λh=>Ag<|Di h CG λh=>D7 (λs=>∃(z:Ad),CO s ⟨BG 26 [(3,Af j),(10,Am z)],[],0⟩/\zN j z=some r) (by rintro s ⟨z,hs,h⟩;exact D9 hs<|Di h CG λh=>Ag<|Di h CG λh=>Ag<|Di h CG λh=>Ag<|Di h CG λh=>Ag<|Di h CG λh=>D7 (λs=>∃(q:Ad),CO s ⟨BG 26 [(22,Am q)],[],0⟩/\a06 q=some r) (by rintro s ⟨q,hs,h⟩;exact D9 hs<|JW)<|aPq)<|aVO
def qV (j:Int)(v2:Ad):AB Int:=(bif v2 then(kV j).bind λq=>some q else(bif (j==14)then some 4 else some 0))
def kM (j:Int):AB Int:=(bif (j==2)then some 18 else(bif (j==3)then qV j (j==3)else(bif (j==4)then qV j (j==4)else(bif (j==5)then qV j (j==5)else qV j (j==6)))))
def aQv :=Dj func240 rfl kM Af Af λj r h=>Ag<|Ah<|Ag<|Ar<|Ag<|Di h CG λh=>D7 (λs=>∃(v2:Ad),CO s ⟨BG 15 [(0,Af j),(3,Af j),(6,Am v2)],[],0⟩/\qV j v2=some r) (by rintro s ⟨v2,hs,h⟩;exact D9 hs<|Di h (λh=>AV h λq u h=>AX 1<|.X (aOn u)<|CY) λh=>Ag<|JW)<|λq=>Ag<|Bq h (λh=>q _ ⟨(j==3),Ak [],h⟩) λh=>Ag<|Bq h (λh=>q _ ⟨(j==4),Ak [],h⟩) λh=>Ag<|Bq h (λh=>q _ ⟨(j==5),Ak [],h⟩) λh=>D8<|q _ ⟨(j==6),Ak [],h⟩
def aFp (j:D6):AB D6:=some j
def aEy (z:Int)(j:D6)(q:D6):AB D6:=(bif ((F8 .and .i64 z 128) != 0)then(dU j.Levels).bind λu=>aFp ({ q with Levels:=u })else aFp q)
def aBj (q:Int)(j:D6)(z:D6):AB D6:=(bif ((F8 .and .i64 q 64) != 0)then(U0 j.iy).bind λu=>aEy q j ({ z with iy:=u })else aEy q j z)
def aJ0 (q:Int)(j:D6)(z:D6):AB D6:=(bif ((F8 .and .i64 q 32) != 0)then(U0 j.Allow).bind λu=>aBj q j ({ z with Allow:=u })else aBj q j z)
def aCV (q:Int)(j:D6)(u:D6):AB D6:=(bif ((F8 .and .i64 q 16) != 0)then aJ0 q j ({ u with Via:=j.Via })else aJ0 q j u)
def aG2 (q:Int)(j:D6)(u:D6):AB D6:=(bif ((F8 .and .i64 q 4) != 0)then aCV q j ({ u with Target:=j.Target })else aCV q j u)
def l9 (q:Int)(j:D6):AB D6:=(bif (q==1)then(U0 j.Allow).bind λz=>(U0 j.iy).bind λI=>(dU j.Levels).bind λJ=>some ({ { { j with Allow:=z }with iy:=I }with Levels:=J })else(kM q).bind λu=>(bif ((F8 .and .i64 u 2) != 0)then aG2 u j ({ Eo with N:=j.N })else aG2 u j Eo))
def aVI :=DV func149 rfl l9 Af Ib Ib λaGj j r h=>Ag<|Ah<|Ag<|BL h (λh=>Ho h λq z L x4 x5 x6 h=>F5 AA AA AA (.a 2<|.ca (a5v z).view<|.a 2<|.ca (a5v x4).view<|.a 2<|.ca (aMW x6)<|.a 6<|.nil _)<|Ag<|F6<|by rw[←CQ h];exact⟨[Ib ({ { { j with Allow:=q }with iy:=L }with Levels:=x5 })],[],⟨⟨1,BH (GI ({ { { j with Allow:=q }with iy:=L }with Levels:=x5 })),true,16,AA,AA,AA,VR,Dt AA,WS,AA⟩,trivial⟩,AA,AA,AA⟩) λh=>Ag<|AV h λq z h=>AX 1<|.X (aQv z)<|D7 (λs=>∃(M:D6),CO s ⟨BG 64 [(3,.ptr 0 0),(4,.ptr 1 0),(5,.ptr 2 0),(6,Af q)],[.box (BH (GI j)),.box (BH (GI Eo)),.box (BH (GI M))],0⟩/\aG2 q j M=some r) (by rintro s ⟨M,hs,h⟩;exact D9 hs<|D7 (λs=>∃(O:D6),CO s ⟨BG 64 [(3,.ptr 0 0),(4,.ptr 1 0),(5,.ptr 2 0),(6,Af q)],[.box (BH (GI j)),.box (BH (GI Eo)),.box (BH (GI O))],0⟩/\aCV q j O=some r) (by rintro s ⟨O,hs,h⟩;exact D9 hs<|D7 (λs=>∃(U:D6),CO s ⟨BG 64 [(3,.ptr 0 0),(4,.ptr 1 0),(5,.ptr 2 0),(6,Af q)],[.box (BH (GI j)),.box (BH (GI Eo)),.box (BH (GI U))],0⟩/\aJ0 q j U=some r) (by rintro s ⟨U,hs,h⟩;exact D9 hs<|D7 (λs=>∃(Y:D6),CO s ⟨BG 64 [(3,.ptr 0 0),(4,.ptr 1 0),(5,.ptr 2 0),(6,Af q)],[.box (BH (GI j)),.box (BH (GI Eo)),.box (BH (GI Y))],0⟩/\aBj q j Y=some r) (by rintro s ⟨Y,hs,h⟩;exact D9 hs<|D7 (λs=>∃(I:D6),CO s ⟨BG 64 [(3,.ptr 0 0),(4,.ptr 1 0),(5,.ptr 2 0),(6,Af q)],[.box (BH (GI j)),.box (BH (GI Eo)),.box (BH (GI I))],0⟩/\aEy q j I=some r) (by rintro s ⟨I,hs,h⟩;exact D9 hs<|D7 (λs=>∃(J:D6),CO s ⟨BG 64 [(4,.ptr 0 0),(5,.ptr 1 0)],[.box (BH (GI Eo)),.box (BH (GI J))],0⟩/\aFp J=some r) (by rintro s ⟨J,hs,h⟩;exact D9 hs<|Ag<|F6<|by rw[←CQ h];exact⟨[Ib J],[],⟨⟨0,BH (GI J),true,16,AA,AA,AA,VR,Dt AA,WS,AA⟩,trivial⟩,AA,AA,AA⟩)<|λZ=>AX 1<|.Z (SL (k:=.i64) (u:=q) (v:=128))<|BL h (λh=>AV h λq z h=>CV<|.a 2<|.ca (aMW z)<|.aN<|Z _ ⟨({ I with Levels:=q }),Ak [Ae 1,Ae 2],h⟩) λh=>Z _ ⟨I,Ak [Ae 1,Ae 2],h⟩)<|λz=>AX 1<|.Z (SL (k:=.i64) (u:=q) (v:=64))<|BL h (λh=>AV h λq L h=>CV<|.a 2<|.ca (a5v L).view<|.aN<|z _ ⟨({ Y with iy:=q }),Ak [Ae 0,Ae 1,Ae 2],h⟩) λh=>z _ ⟨Y,Ak [Ae 0,Ae 1,Ae 2],h⟩)<|λz=>AX 1<|.Z (SL (k:=.i64) (u:=q) (v:=32))<|BL h (λh=>AV h λq L h=>CV<|.a 2<|.ca (a5v L).view<|.aN<|z _ ⟨({ U with Allow:=q }),Ak [Ae 0,Ae 1,Ae 2],h⟩) λh=>z _ ⟨U,Ak [Ae 0,Ae 1,Ae 2],h⟩)<|λz=>AX 1<|.Z (SL (k:=.i64) (u:=q) (v:=16))<|BL h (λh=>D8<|z _ ⟨({ O with Via:=j.Via }),Ak [Ae 0,Ae 1,Ae 2],h⟩) λh=>z _ ⟨O,Ak [Ae 0,Ae 1,Ae 2],h⟩)<|λz=>AX 1<|.Z (SL (k:=.i64) (u:=q) (v:=4))<|BL h (λh=>D8<|z _ ⟨({ M with Target:=j.Target }),Ak [Ae 0,Ae 1,Ae 2],h⟩) λh=>z _ ⟨M,Ak [Ae 0,Ae 1,Ae 2],h⟩)<|λz=>AX 1<|.Z (SL (k:=.i64) (u:=q) (v:=2))<|BL h (λh=>D8<|z _ ⟨({ Eo with N:=j.N }),Ak [Ae 0,Ae 1,Ae 2],h⟩) λh=>z _ ⟨Eo,Ak [Ae 0,Ae 1,Ae 2],h⟩
def gy (j:Aa):AB Aa:=(l9 j.Kind j.Content).bind λq=>some ({ j with Content:=q })
def aPi :=Dj func131 rfl gy DY DY λj r h=>Ag<|AV h λq u h=>AX 4<|.ca (aVI u)<|aMP
def fV (j:Int):AB Ad:=(bif j>=1 then some (decide (j<=10))else some false).bind λq=>some q
def lu :=Dj func231 rfl fV Af Am λj r h=>Ag<|AX 2<|AV h λq u h=>.mg 5 3 (Am q) (.bi u)<|.aW<|CY
def dZ (j:BP):AB Int:=(wE j aB9).bind λq=>some q
def aAG :=Dj func289 rfl dZ Cx Af λj r h=>Ag<|AV h λu q h=>AX 1<|.X (aQC q)<|CY
def aHe (j:BP)(k2:(Int->AB Ad)):Int->AB Ad:=λq=>(bif q<(j.size:Int) then(Ig j q).bind λu=>(bif u<33 then some true else(Ig j q).bind λz=>some (decide (z>126))).bind λI=>(bif I then some false else k2 (BA (q+1)))else(bif (j.size:Int)>=1 then some (decide ((j.size:Int)<=32))else some false).bind λJ=>some J)
def aWg (j:BP):Int->AB Ad:=bn (aHe j) Az
def a8H (j:BP):AB Ad:=aWg j 0
def aYy :=Dj func290 rfl a8H Cx Am λj r h=>Ag<|Ah<|Ag<|Ar<|Du (λq=>⟨BG 28 [(0,Cx j),(5,Af (j.size:Int)),(6,Af q)],[],0⟩) _ _ _ (Ak []) h<|λq k2 u z h=>Ag<|Ah<|Bq h (λh=>Ah<|Ar<|Ag<|AV h λq z h=>AX 2<|.p (Ls (k:=.i64) z Hg)<|.a 1<|AV h λq z h=>.mg 13 5 (Am q) (.bi z (k2:=λh=>AV h λq u h=>.a 2<|.Z (Ls (k:=.i64) u Hg)<|Cj))<|.aX<|BL h CG λh=>D8<|u _ _ (Ak []) h) λh=>Ce<|AX 3<|AV h λq u h=>.mg 23 4 (Am q) (.bi u)<|.aW<|CY
def a6U (j:Aa):AB Ad:=(iK j.Room).bind λq=>(bif (q != 0)then some true else(dZ j.bM).bind λu=>some (u != 0)).bind λz=>(bif z then some false else(bif (j.Kind==2)then(dZ j.Key).bind λI=>some (I==0)else(bif (j.Kind==9)then(a8H j.Key).bind λJ=>some J else some true)))
def ab1 :=Dj func232 rfl a6U DY Am λu r h=>Ag<|Ah<|AV h λq j h=>AX 2<|.ca (aBL j)<|.a 1<|AV h λq j h=>.mg 7 5 (Am q) (.bi j (k2:=λh=>AV h λq j h=>.a 2<|.X (aAG j)<|Cj))<|.aX<|BL h CG λh=>Ah<|Ag<|Ar<|Ag<|Di h (λh=>AV h λq j h=>AX 2<|.X (aAG j)<|CY) λh=>Ag<|BL h (λh=>AV h λq j h=>AX 2<|.X (aYy j)<|CY) λh=>Ag<|CY
def aDs (j:Ac)(k2:(Int->AB Ad)):Int->AB Ad:=λq=>(bif q<(j.length:Int) then(Au j q).bind λu=>(bif u<0 then some true else(bif q>0 then(Au j (BA (q-1))).bind λz=>some (decide (z>=u))else some false).bind λI=>some I).bind λJ=>(bif J then some false else k2 (BA (q+1)))else some true)
def aNW (j:Ac):Int->AB Ad:=bn (aDs j) Az
def a0G (j:Ac):AB Ad:=aNW j 0
def aM7 :=Dj func233 rfl a0G Bh Am λj r h=>Ag<|Ah<|AX 1<|.Z (BN Ai j)<|Ar<|Du (λq=>⟨BG 28 [(0,Bh j),(5,Bh j),(6,Af (j.length:Int)),(7,Af q)],[],0⟩) _ _ _ (Ak []) h<|λq k2 u z h=>Ag<|Ah<|Bq h (λh=>Ah<|Ar<|AV h λq z h=>AX 1<|.Z (BK Ai z)<|AX 2<|AV h λq z h=>.mg 14 12 (Am q) (.bi z (k2:=λh=>.a 2<|AV h λq u h=>.mg 17 8 (Am q) (.bi u (λh=>AV h λq u h=>.a 3<|.Z (BK Ai u)<|Cj))<|.aW<|Cj))<|.aX<|BL h CG λh=>D8<|u _ _ (Ak []) h) λh=>Eh
def yx (j:Int):AB Ad:=(bif j>=1 then some (decide (j<=14))else some false).bind λq=>some q
def aRB :=Dj func292 rfl yx Af Am λj r h=>Ag<|AX 2<|AV h λq u h=>.mg 5 3 (Am q) (.bi u)<|.aW<|CY
def a8T (j:Ch):AB Ad:=(bif ((j.Users.length:Int)==0)then some ((j.Kinds.length:Int)==0)else some false).bind λI=>(bif I then some (j.User==0)else some false).bind λJ=>(bif J then some (j.Message==0)else some false).bind λL=>(bif L then some (j.State==0)else some false).bind λM=>(bif M then some (j.gX==0)else some false).bind λO=>(bif O then some (j.kR==0)else some false).bind λq=>(bif q then some (j.oN==0)else some false).bind λu=>(bif u then some (j.ig==0)else some false).bind λz=>some z
def akP :=Dj func354 rfl a8T J4 Am λu r h=>Ag<|AX 2<|.p (BN FD u.Users)<|.a 1<|AV h λj q h=>.mg 7 5 (Am j) (.bi q (λh=>.a 2<|.Z (BN F7 u.Kinds)<|Cj))<|.a 1<|AV h λj q h=>.mg 14 3 (Am j) (DI q)<|.a 1<|AV h λj q h=>.mg 19 3 (Am j) (DI q)<|.a 1<|AV h λj q h=>.mg 24 3 (Am j) (DI q)<|.a 1<|AV h λj q h=>.mg 29 3 (Am j) (DI q)<|.a 1<|AV h λj q h=>.mg 34 3 (Am j) (DI q)<|.a 1<|AV h λj q h=>.mg 39 3 (Am j) (DI q)<|.a 1<|AV h λj q h=>.mg 44 3 (Am j) (DI q)<|.aW<|CY
def a4D (j:Int):AB Int:=some j
def a7n (j:D6)(u:Int):AB Int:=(a8T j.Levels).bind λq=>(bif (!q)then a4D (F8 .or .i64 u 128)else a4D u)
def a6b (j:D6)(q:Int):AB Int:=(bif (j.iy.length:Int)>0 then a7n j (F8 .or .i64 q 64)else a7n j q)
def a5T (j:D6)(q:Int):AB Int:=(bif (j.Allow.length:Int)>0 then a6b j (F8 .or .i64 q 32)else a6b j q)
def a7d (j:D6)(q:Int):AB Int:=(bif (!(j.Via.toList==CX.toList))then a5T j (F8 .or .i64 q 16)else a5T j q)
def a6l (j:D6)(q:Int):AB Int:=(bif j.Thread then a7d j (F8 .or .i64 q 8)else a7d j q)
def a8i (j:D6)(v2:Int):AB Int:=(bif (j.Target != 0)then a6l j (F8 .or .i64 v2 4)else a6l j v2)
def a2y (j:D6)(q:Int):AB Int:=(bif (j.N != 0)then a8i j (F8 .or .i64 q 2)else a8i j q)
def sN (j:D6):AB Int:=(bif (!(j.Text.toList==CX.toList))then a2y j (F8 .or .i64 0 1)else a2y j 0)
def aTQ :=Dj func293 rfl sN Ib Af λj r h=>Ag<|Ag<|D7 (λs=>∃(z:Int),CO s ⟨BG 47 [(1,.ptr 0 0),(3,Af z)],[.box (BH (GI j))],0⟩/\a2y j z=some r) (by rintro s ⟨z,hs,h⟩;exact D9 hs<|D7 (λs=>∃(v2:Int),CO s ⟨BG 47 [(1,.ptr 0 0),(3,Af v2)],[.box (BH (GI j))],0⟩/\a8i j v2=some r) (by rintro s ⟨v2,hs,h⟩;exact D9 hs<|D7 (λs=>∃(I:Int),CO s ⟨BG 47 [(1,.ptr 0 0),(3,Af I)],[.box (BH (GI j))],0⟩/\a6l j I=some r) (by rintro s ⟨I,hs,h⟩;exact D9 hs<|D7 (λs=>∃(J:Int),CO s ⟨BG 47 [(1,.ptr 0 0),(3,Af J)],[.box (BH (GI j))],0⟩/\a7d j J=some r) (by rintro s ⟨J,hs,h⟩;exact D9 hs<|D7 (λs=>∃(L:Int),CO s ⟨BG 47 [(1,.ptr 0 0),(3,Af L)],[.box (BH (GI j))],0⟩/\a5T j L=some r) (by rintro s ⟨L,hs,h⟩;exact D9 hs<|D7 (λs=>∃(M:Int),CO s ⟨BG 47 [(1,.ptr 0 0),(3,Af M)],[.box (BH (GI j))],0⟩/\a6b j M=some r) (by rintro s ⟨M,hs,h⟩;exact D9 hs<|D7 (λs=>∃(O:Int),CO s ⟨BG 47 [(1,.ptr 0 0),(3,Af O)],[.box (BH (GI j))],0⟩/\a7n j O=some r) (by rintro s ⟨O,hs,h⟩;exact D9 hs<|D7 (λs=>∃(U:Int),CO s ⟨BG 47 [(3,Af U)],[],0⟩/\a4D U=some r) (by rintro s ⟨U,hs,h⟩;exact D9 hs<|Ag<|CY)<|λq=>AV h λZ Y h=>AX 2<|.X (akP Y)<|BL h (λh=>CV<|.a 1<|.p (YH (k:=.i64) (u:=O) (v:=128))<|.aN<|q _ ⟨(F8 .or .i64 O 128),Ak [],h⟩) λh=>q _ ⟨O,Ak [],h⟩)<|λq=>AX 2<|.Z (BN DW j.iy)<|BL h (λh=>CV<|.a 1<|.p (YH (k:=.i64) (u:=M) (v:=64))<|.aN<|q _ ⟨(F8 .or .i64 M 64),Ak [Ae 0],h⟩) λh=>q _ ⟨M,Ak [Ae 0],h⟩)<|λq=>AX 2<|.Z (BN DW j.Allow)<|BL h (λh=>CV<|.a 1<|.p (YH (k:=.i64) (u:=L) (v:=32))<|.aN<|q _ ⟨(F8 .or .i64 L 32),Ak [Ae 0],h⟩) λh=>q _ ⟨L,Ak [Ae 0],h⟩)<|λq=>Ag<|BL h (λh=>CV<|.a 1<|.p (YH (k:=.i64) (u:=J) (v:=16))<|.aN<|q _ ⟨(F8 .or .i64 J 16),Ak [Ae 0],h⟩) λh=>q _ ⟨J,Ak [Ae 0],h⟩)<|λq=>Ag<|BL h (λh=>CV<|.a 1<|.p (YH (k:=.i64) (u:=I) (v:=8))<|.aN<|q _ ⟨(F8 .or .i64 I 8),Ak [Ae 0],h⟩) λh=>q _ ⟨I,Ak [Ae 0],h⟩)<|λq=>Ag<|BL h (λh=>CV<|.a 1<|.p (YH (k:=.i64) (u:=v2) (v:=4))<|.aN<|q _ ⟨(F8 .or .i64 v2 4),Ak [Ae 0],h⟩) λh=>q _ ⟨v2,Ak [Ae 0],h⟩)<|λq=>Ag<|BL h (λh=>CV<|.a 1<|.p (YH (k:=.i64) (u:=z) (v:=2))<|.aN<|q _ ⟨(F8 .or .i64 z 2),Ak [Ae 0],h⟩) λh=>q _ ⟨z,Ak [Ae 0],h⟩)<|λq=>Ag<|BL h (λh=>CV<|.a 1<|.p (YH (k:=.i64) (u:=0) (v:=1))<|.aN<|q _ ⟨(F8 .or .i64 0 1),Ak [Ae 0],h⟩) λh=>q _ ⟨0,Ak [Ae 0],h⟩
def aIC (j:BP)(u:(Int->AB Int)):Int->AB Int:=λq=>(bif q<(j.size:Int) then(Ig j q).bind λz=>(bif z<33 then some true else(Ig j q).bind λI=>some (decide (I>126))).bind λJ=>(bif J then some 3 else u (BA (q+1)))else some 0)
def aBd (j:BP):Int->AB Int:=bn (aIC j) Az
def a01 (j:BP):AB Int:=(bif (j.toList==CX.toList)then some 9 else(bif (j.size:Int)>64 then some 7 else aBd j 0))
def aVr :=Dj func355 rfl a01 Cx Af λj r h=>Ag<|Ah<|Ar<|Ag<|Di h CG λh=>Ag<|BL h CG λh=>Ah<|Ag<|Ar<|Du (λq=>⟨BG 27 [(0,Cx j),(12,Af (j.size:Int)),(13,Af q)],[],0⟩) _ _ _ (Ak []) h<|λq u z I h=>Ag<|Ah<|Bq h (λh=>Ah<|Ar<|Ag<|AV h λq u h=>AX 2<|.p (Ls (k:=.i64) u Hg)<|.a 1<|AV h λq u h=>.mg 20 5 (Am q) (.bi u (k2:=λh=>AV h λq u h=>.a 2<|.Z (Ls (k:=.i64) u Hg)<|Cj))<|aJF) λh=>Eh
def aGB (j:GX)(k3:(Int->AB Int)):Int->AB Int:=λv2=>(bif v2<(j.length:Int) then(Au j v2).bind λu=>(a01 u).bind λq=>(bif (q != 0)then some q else k3 (BA (v2+1)))else some 0)
def aTq (j:GX):Int->AB Int:=bn (aGB j) Az
def XD (j:GX):AB Int:=(bif (j.length:Int)>100 then some 7 else aTq j 0)
def aTk :=Dj func300 rfl XD Ii Af λj r h=>Ag<|Ah<|AX 1<|.Z (BN DW j)<|BL h CG λh=>Ah<|AX 1<|.Z (BN DW j)<|Ar<|Du (λq=>⟨BG 21 [(9,Ii j),(10,Af (j.length:Int)),(11,Af q)],[],0⟩) _ _ _ (Ak []) h<|λq u I z h=>Ag<|Ah<|Bq h (λh=>Ah<|Ar<|AV h λq u h=>BU<|.Z (BK DW u)<|AV h λu z h=>AX 1<|.X (aVr z)<|Ag<|BL h CG λh=>TA) λh=>Eh
def lT (j:Int):AB Ad:=(bif j<(-1000) then some true else some (decide (j>1000))).bind λq=>some q
def aWt :=Dj func358 rfl lT Af Am λj r h=>Ag<|AX 2<|AV h λq u h=>.mg 5 3 (Am q) (.bi u)<|.aW<|CY
def a7U (q:IV)(k3:(Int->AB Int))(v2:Int)(u:Ad):AB Int:=(bif u then some 8 else(lT q.N).bind λj=>(bif j then some 2 else k3 (BA (v2+1))))
abbrev O7:=A8 IV
def aGI (j:O7)(k3:(Int->AB Int)):Int->AB Int:=λv2=>(bif v2<(j.length:Int) then(Au j v2).bind λq=>(dZ q.User).bind λz=>(bif (z != 0)then some 3 else(bif v2>0 then(Au j (BA (v2-1))).bind λu=>a7U q k3 v2 (Op.bytesLess (q.User.toList) (u.User.toList)||q.User.toList==u.User.toList)else a7U q k3 v2 false))else some 0)
def aLk (j:O7):Int->AB Int:=bn (aGI j) Az
def a5K (j:O7):AB Int:=(bif (j.length:Int)>100 then some 7 else aLk j 0)
def adg :=Dj func356 rfl a5K PN Af λj r h=>Ag<|Ah<|AX 1<|.Z (BN FD j)<|BL h CG λh=>Ah<|AX 1<|.Z (BN FD j)<|Ar<|Du (λq=>⟨BG 39 [(0,PN j),(8,PN j),(9,Af (j.length:Int)),(10,Af q)],[],0⟩) _ _ _ (Ak []) h<|λq z J u h=>Ag<|Ah<|Bq h (λh=>Ah<|Ar<|AV h λq I h=>AX 1<|.Z (BK FD I)<|Ar<|AV h λI M h=>AX 2<|.X (aAG M)<|Di h CG λh=>D7 (λs=>∃(L:Ad),CO s ⟨BG 39 [(0,PN j),(4,.ptr 0 0),(8,PN j),(9,Af (j.length:Int)),(10,Af u),(20,Am L)],[.box (BH (FD q))],0⟩/\a7U q z u L=some r) aRH<|λz=>EY h (λJ h=>AV h λu I h=>DN AA AA AA (.a 2<|.c (BJ some J)<|.a 5<|.p (BK FD I)<|.a 5<|.nil _)<|z _ ⟨(Op.bytesLess (q.User.toList) (u.User.toList)||q.User.toList==u.User.toList),Ak [Ae 0],h⟩) λq h=>DN AA AA AA (.a 2<|.c (BJ some q)<|.a 11<|.nil _)<|z _ ⟨false,Ak [Ae 0],h⟩) λh=>Eh
def a8b (q:Jv)(k3:(Int->AB Int))(v2:Int)(u:Ad):AB Int:=(bif u then some 8 else(lT q.N).bind λj=>(bif j then some 2 else k3 (BA (v2+1))))
abbrev OQ:=A8 Jv
def aFH (j:OQ)(k3:(Int->AB Int)):Int->AB Int:=λv2=>(bif v2<(j.length:Int) then(Au j v2).bind λq=>(yx q.Kind).bind λz=>(bif (!z)then some 1 else(bif v2>0 then(Au j (BA (v2-1))).bind λu=>a8b q k3 v2 (decide (q.Kind<=u.Kind))else a8b q k3 v2 false))else some 0)
def aWG (j:OQ):Int->AB Int:=bn (aFH j) Az
def a6N (j:OQ):AB Int:=(bif (j.length:Int)>100 then some 7 else aWG j 0)
def adM :=Dj func357 rfl a6N PW Af λj r h=>Ag<|Ah<|AX 1<|.Z (BN F7 j)<|BL h CG λh=>Ah<|AX 1<|.Z (BN F7 j)<|Ar<|Du (λq=>⟨BG 39 [(0,PW j),(8,PW j),(9,Af (j.length:Int)),(10,Af q)],[],0⟩) _ _ _ (Ak []) h<|λq z J u h=>Ag<|Ah<|Bq h (λh=>Ah<|Ar<|AV h λq I h=>AX 1<|.Z (BK F7 I)<|Ar<|AV h λI M h=>AX 2<|.X (aRB M)<|Di h CG λh=>D7 (λs=>∃(L:Ad),CO s ⟨BG 39 [(0,PW j),(4,.ptr 0 0),(8,PW j),(9,Af (j.length:Int)),(10,Af u),(20,Am L)],[.box (BH (F7 q))],0⟩/\a8b q z u L=some r) aRH<|λz=>EY h (λJ h=>AV h λu I h=>DN AA AA AA (.a 2<|.c (BJ some J)<|.a 5<|.p (BK F7 I)<|.a 5<|.nil _)<|z _ ⟨(decide (q.Kind<=u.Kind)),Ak [Ae 0],h⟩) λq h=>DN AA AA AA (.a 2<|.c (BJ some q)<|.a 11<|.nil _)<|z _ ⟨false,Ak [Ae 0],h⟩) λh=>Eh
def aWQ (j:Ch)(u:(Int->AB Int)):Int->AB Int:=λq=>(bif q<7 then(Au ([j.User,j.Message,j.State,j.gX,j.kR,j.oN,j.ig]:Ac) q).bind λz=>(lT z).bind λI=>(bif I then some 2 else u (BA (q+1)))else some 0)
def aDC (j:Ch):Int->AB Int:=bn (aWQ j) Az
def je (j:Ch):AB Int:=(a5K j.Users).bind λq=>(bif (q != 0)then some q else(a6N j.Kinds).bind λu=>(bif (u != 0)then some u else aDC j 0))
def aXt :=Dj func301 rfl je J4 Af λj r h=>Ag<|Ah<|AV h λu q h=>AX 2<|.X (adg q)<|Ag<|BL h CG λh=>Ah<|AV h λu q h=>AX 2<|.X (adM q)<|Ag<|BL h CG λh=>Ah<|Ag<|Ar<|Du (λu=>⟨BG 40 [(33,.d ((OI Ai) ([j.User,j.Message,j.State,j.gX,j.kR,j.oN,j.ig]:(A8 Int)))),(34,Af u)],[],0⟩) _ _ _ (Ak []) h<|λu q I z h=>Ag<|Ah<|Bq h (λh=>Ah<|Ar<|AV h λu q h=>BU<|.Z (a2u (k:=.i64) Ai q a2a Ep AA)<|AV h λq z h=>AX 1<|.ca (aWt z)<|a8d) λh=>Eh
def a8k (j:Ad):AB Int:=(bif j then some 7 else some 0)
def SQ (q:Int)(j:D6):AB Int:=(bif (q==9)then some (!(j.Text.toList==CX.toList))else some false).bind λz=>(bif z then(a01 j.Text).bind λI=>some I else(bif (q==12)then some (j.Text.toList==CX.toList)else some false).bind λJ=>(bif J then some 9 else(bif (q==12)then some (decide ((j.Text.size:Int)>32))else some false).bind λu=>(bif u then a8k u else a8k (decide ((j.Text.size:Int)>400)))))
def aae :=DV func294 rfl SQ Af Ib Af λI u r h=>Ag<|Ah<|Ar<|AX 2<|AV h λq j h=>.mg 8 4 (Am q) (.bi j)<|.aW<|Di h (λh=>AV h λq j h=>AX 2<|.X (aVr j)<|CY) λh=>AX 2<|AV h λq j h=>.mg 19 4 (Am q) (.bi j)<|.aW<|Di h CG λh=>D7 (λs=>∃(z:Ad),CO s ⟨BG 37 [(24,Am z)],[],0⟩/\a8k z=some r) aNM<|λq=>AX 2<|AV h λj J h=>.mg 27 5 (Am j) (.bi J)<|.aW<|Bq h (λh=>q _ ⟨j,Ak [],h⟩) λh=>D8<|q _ ⟨(decide ((u.Text.size:Int)>400)),Ak [],h⟩
def sZ (j:D6)(q:Int)(v2:Int):AB Int:=(bif j.N<q then some true else some (decide (j.N>v2))).bind λu=>(bif u then some 2 else some 0)
def PK (q:Int)(j:D6):AB Int:=(bif (q==2)then sZ j 0 4 else(bif (q==8)then sZ j 0 1000000000 else(bif (q==10)then sZ j 1 10000 else(bif (q==9)then(bif (j.N==1)then some true else some (j.N==2)).bind λu=>(bif u then some true else some (j.N==6)).bind λz=>(bif z then some 0 else some 2)else sZ j 0 3))))
def ajB :=DV func295 rfl PK Af Ib Af λI q r h=>Ag<|Ag<|D7 (λs=>∃(z:Int) (v2:Int),CO s ⟨BG 39 [(3,.ptr 0 0),(5,Af z),(6,Af v2)],[.box (BH (GI q))],0⟩/\sZ q z v2=some r) (by rintro s ⟨z,v2,hs,h⟩;exact D9 hs<|Ah<|AX 4<|AV h λj u h=>.mg 33 5 (Am j) (.bi u)<|.aX<|JW)<|λj=>Ag<|Ar<|Ag<|Di h (λh=>D8<|j _ ⟨0,4,Ak [Ae 0],h⟩) λh=>Ag<|Di h (λh=>D8<|j _ ⟨0,1000000000,Ak [Ae 0],h⟩) λh=>Ag<|Di h (λh=>D8<|j _ ⟨1,10000,Ak [Ae 0],h⟩) λh=>Ag<|BL h (λh=>Ah<|Ag<|AX 2<|AV h λj u h=>.mg 21 3 (Am j) (.bi u)<|.a 1<|AV h λj u h=>.mg 26 2 (Am j) (DI u)<|.aX<|JW) λh=>j _ ⟨0,3,Ak [Ae 0],h⟩
def Td (q:Int)(j:D6):AB Int:=(bif j.Target<0 then some true else(bif (j.Target==0)then some (q != 11)else some false).bind λu=>some u).bind λz=>(bif z then some 2 else some 0)
def ahi :=DV func296 rfl Td Af Ib Af λu z r h=>Ag<|Ah<|AX 3<|AV h λj q h=>.mg 8 8 (Am j) (.bi q (k2:=λh=>.a 3<|AV h λj q h=>.mg 12 3 (Am j) (.bi q)<|.aW<|Cj))<|.aX<|JW
def fE (q:Int)(j:D6):AB Int:=(bif j.Thread then some (j.Target==0)else some false).bind λu=>(bif u then some 1 else some 0)
def ah7 :=DV func297 rfl fE Af Ib Af λj q r h=>Ag<|Ah<|AX 2<|AV h λu z h=>.mg 7 4 (Am u) (.bi z)<|.aX<|JW
def iH (q:Int)(j:D6):AB Int:=(bif (j.Via.toList==CX.toList)then some 0 else(bif (j.N != 3)then some 1 else(dZ j.Via).bind λu=>some u))
def aXS :=DV func298 rfl iH Af Ib Af λj q r h=>Ag<|Ah<|Ar<|Ag<|Di h CG λh=>Ag<|BL h CG λh=>AV h λz u h=>AX 2<|.X (aAG u)<|CY
end
end Go.Proofs.YtfmoknlmaldmlaaGreat
