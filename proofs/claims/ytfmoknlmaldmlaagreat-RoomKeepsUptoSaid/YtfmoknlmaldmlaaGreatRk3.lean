/- Part 3 of the laws' proofs (short forms by wip/shrink2.py). -/
import Derived.Test.YtfmoknlmaldmlaaGreatRk2
set_option linter.defProp false
set_option linter.unnecessarySimpa false
set_option linter.unusedSectionVars false
set_option linter.unusedVariables false
set_option linter.unusedSimpArgs false
namespace Go.Proofs.YtfmoknlmaldmlaaGreat
open Go.RowKit Go.Proofs.Tryz
variable {A:Type}{b:AX}{u v z:A}
section
variable {P:Cm} {σ:BQ} {Q:Exit->BQ->Prop} {c:CB} {x y:Code}
def Dc (h:(bif b then u else v)=z)(j:u=z->Bq P x σ Q)(q:v=z->Bq P y σ Q)(I:σ.get c=.d (.lit (.bool b)):=by kernel_rfl):Bq P (.cond c x y) σ Q:=
 Bq.cond b I (λe=>j (S9 e h)) (λe=>q (Sr e h))
def Bo (h:(bif b then u else v)=z)(j:u=z->Q .normal σ)(q:v=z->Bq P y σ Q)(I:σ.get c=.d (.lit (.bool b)):=by kernel_rfl):Bq P (.cond c .skip y) σ Q:=Dc h (λe=>Ew (j e)) q I
def BJ (h:(bif b then u else v)=z)(j:u=z->Bq P x σ Q)(q:v=z->Q .normal σ)(I:σ.get c=.d (.lit (.bool b)):=by kernel_rfl):Bq P (.cond c x .skip) σ Q:=Dc h j (λe=>Ew (q e)) I
end
section
variable {P:Cm} {ops:Bh Oper} {o:Oper} {rest:A8 Oper} {σ σ':BQ} {K:Exit->BQ->Prop} {ns:A8 (CB×Ag)} {x:Ag} {es':A8 Bd}
def Dq.f (h:CM P o ns σ.ents x es')(k:Dq P ops rest (σ.put o.dst x es') K)(j:(ns.map λn=>σ.get n.1)=ns.map (·.2):=by kernel_rfl)(q:LC ops σ o.guard=some true:=by kernel_rfl)(u:(Oh ns).all (tmpsOf o).contains=true:=by kernel_rfl):Dq P ops (o::rest) σ K:=Dq.e es' h k rfl j q u
def Fp.f {rs:A8 Ag}{ess:A8 (A8 Bd)}{bs:A8 AX}(h:CM P o ns σ.ents x es')(k:Fp P ops rest (σ.put o.dst x es') rs ess bs σ')(j:(ns.map λn=>σ.get n.1)=ns.map (·.2):=by kernel_rfl)(q:LC ops σ o.guard=some true:=by kernel_rfl)(u:(Oh ns).all (tmpsOf o).contains=true:=by kernel_rfl):Fp P ops (o::rest) σ (x::rs) (es'::ess) (true::bs) σ':=Fp.e es' h k rfl j q u
end
def Yd (h:(bif b then u else v)=z):(b=true/\u=z)\/(b=false/\v=z):=by
 grind
variable {a:A}
def CQ {b:A}(h:some a=some b):a=b:=E5 h
variable {α β γ:Type}{x:AB α}{y:α->AB β}{z:γ}
def bK {f:α->β->AB γ}(h:(x.bind λa=>(y a).bind (f a))=some z):∃a,x=some a/\∃b,y a=some b/\f a b=some z:=by
 obtain⟨a,h1,h⟩:=Dl h;obtain⟨b,h2,h⟩:=Dl h
 grind
variable {δ:Type}{w:α->β->AB δ}
def a4G {f:α->β->δ->AB γ}(h:(x.bind λa=>(y a).bind λb=>(w a b).bind (f a b))=some z):∃a,x=some a/\∃b,y a=some b/\∃d,w a b=some d/\f a b d=some z:=by
 obtain⟨a,h1,b,h2,h⟩:=bK h;obtain⟨d,h3,h⟩:=Dl h
 grind
variable {G:Prop}
def AO {f:α->AB β}{z:β}(h:x.bind f=some z)(k:∀a,x=some a->f a=some z->G):G:=by
 obtain⟨a,h1,h⟩:=Dl h;exact k a h1 h
def Bv {f:α->β->AB γ}(h:(x.bind λa=>(y a).bind (f a))=some z)(k:∀a,x=some a->∀b,y a=some b->f a b=some z->G):G:=by
 obtain⟨a,h1,b,h2,h⟩:=bK h;exact k a h1 b h2 h
def Hz {f:α->β->δ->AB γ}(h:(x.bind λa=>(y a).bind λb=>(w a b).bind (f a b))=some z)(k:∀a,x=some a->∀b,y a=some b->∀d,w a b=some d->f a b d=some z->G):G:=by
 obtain⟨a,h1,b,h2,d,h3,h⟩:=a4G h
 grind
variable {e t:Bz}{j:Bh (Nat×CB)}{len q size:Nat}{x y:CB}{z:BI}{σ:BQ}
section
variable {P:Cm} {o:Oper} {es:A8 Bd} {α:Type}
def aXM {P:Cm}(T:Kn P)(t n:Nat):AX:=match PN t T.sl with
 |some e=>match PN e T.ty with
  |some (_,m)=>Nat.beq m n
  |none=>false
 |none=>false
def BH [T:Kn P]{i:Int}(enc:α->D){l:A8 α}{a:α}(h:Aq l i=some a)(j:o.op=.indexAddr t x y:=by exact rfl)(hs:aXM T t (enc a).cells.length=true:=by kernel_rfl):
 CM P o [(x,.d (BZ enc l)),(y,.d (.lit (.int .i64 i)))] es (.d (.ref (enc a).cells 0)) es:=by
 unfold aXM at hs;split at hs
 ·rename_i e h1;split at hs
  ·rename_i agg m h2;exact Yq enc h (T.hsl.mem _ (NQ h1)) (T.hty.mem _ (NQ h2)) (a4T hs).symm j
  cases hs
 cases hs
def BK [T:Kn P](enc:α->D)(l:A8 α)(j:o.op=.call { callee:=.builtin .len,args:= #[x],argTypes:= #[t] }:=by exact rfl)(q:(PN t T.sl).isSome=true:=by kernel_rfl):
 CM P o [(x,.d (BZ enc l))] es (.d (Ac l.length)) es:=by
 obtain⟨e,h1⟩:=SX.1 q;exact aZ4 enc l (T.hsl.mem _ (NQ h1)) j
def EI (hE:GV P t e size q)(J:(P.info? e).bind (·.zero)=some z)(ys:A8 D)(L:o.op=.buildSlice t len j:=by exact rfl)(h1:z.cells.all (·.oneCell')=true:=by kernel_rfl)(u:z.cells.size=size:=by kernel_rfl)(hlen:Nat.ble (len*size) 16777216=true:=by kernel_rfl)(hp:OQ (λi=>some (i*size,size)) (len*size) j.toList (ys.map .d)=true:=by kernel_rfl)(M:MB (λi=>some (i*size,size)) (RQ z (len*size)) j.toList (ys.map .d)=flat ys:=by kernel_rfl)(hl:ys.length=len:=by kernel_rfl)(I:ys.all (λy=>y.cells.length=size)=true:=by kernel_rfl):
 CM P o (Ol j.toList (ys.map .d)) es (.d (.sl ys)) es:=aEK hE J h1 u (Dt hlen) (ys.map .d) ys hp M hl I L
def Hy (hE:GV P t e size q)(J:(P.info? e).bind (·.zero)=some z)(ys:A8 D)(L:o.op=.buildSlice t len j:=by exact rfl)(h1:z.cells.all (·.oneCell')=true:=by kernel_rfl)(u:z.cells.size=size:=by kernel_rfl)(hlen:Nat.ble (len*size) 16777216=true:=by kernel_rfl)(hp:OQ (λi=>some (i*size,size)) (len*size) j.toList (ys.map .d)=true:=by kernel_rfl)(M:MB (λi=>some (i*size,size)) (RQ z (len*size)) j.toList (ys.map .d)=flat ys:=by kernel_rfl)(hl:ys.length=len:=by kernel_rfl)(I:ys.all (λy=>y.cells.length=size)=true:=by kernel_rfl):
 CM P o (Ol j.toList (ys.map .d)) es (.aS es.length) (es++[.arr e size ys]):=a2A hE J h1 u (Dt hlen) (ys.map .d) ys hp M hl I L
def Dq.aM {ops:Bh Oper}{l:A8 Oper}{K:Exit->BQ->Prop}[T:Kn P]{M:BQ->Prop}(n:Nat)(k:M (OL (Gj T ops n l σ)))(hl:l.length=n:=by kernel_rfl)(h:(Gj T ops n l σ).isSome=true:=by kernel_rfl):Dq P ops l σ (Js M K):=
 .a n (by rw[aB6 (QJ hl)];exact .aY k) h
end
def EU {z:A}(h:(bif b then u else v)=z)(j:b=true->u=z->G)(k2:b=false->v=z->G):G:=by
 grind
section
variable {P:Cm} {ops:Bh Oper} {l:A8 Oper} {σ S:BQ} {K:Exit->BQ->Prop}
def Dq.aN [T:Kn P](k:K .normal (OL (Gj T ops l.length l σ)))(h:(Gj T ops l.length l σ).isSome=true:=by kernel_rfl):Dq P ops l σ K:=.a l.length (by rw[PL];exact .nil k) h
def DJ [T:Kn P]{id:Nat}(k:K .normal (OL (Gj T ops ops.toList.length ops.toList σ)))(h:(Gj T ops ops.toList.length ops.toList σ).isSome=true:=by kernel_rfl):Bq P (.region id ops false) σ K:=CZ (Dq.aN k h)
def aSa :Ag->AX
 | .junk=>false
 |_=>true
def Ae (π:A8 (Nat×AX))(h1:WC σ.base σ.ents π=true:=by kernel_rfl)(h2:S=⟨NI π (S.slots.map aSa) σ.slots,U0 σ.ents π,σ.base⟩:=by kernel_rfl):CP σ S:=aar (S.slots.map aSa) π h1 h2
end
section
variable {P:Cm} {f:FuncId} {fn:Func} {c:Code} {α β γ δ ε:Type}
def Ee.h1 (j:P.funcs[f]? =some fn) (q:fn.body=some c) (F:α->AB ε) (a:α->Ag) (R:ε->Ag) (k:∀x r,F x=some r->Bq P c (.enter [a x] fn.ntmps []) (dY P fn (R r) [])) ⦃x:α⦄ ⦃r:ε⦄ (h:F x=some r):Ee P f [a x] [] (R r) []:=.dS j q (k x r h)
def Dk:=@Ee.h1
def Ee.h2 (j:P.funcs[f]? =some fn) (q:fn.body=some c) (F:α->β->AB ε) (a:α->Ag) (b:β->Ag) (R:ε->Ag) (k:∀x y r,F x y=some r->Bq P c (.enter [a x,b y] fn.ntmps []) (dY P fn (R r) [])) ⦃x:α⦄ ⦃y:β⦄ ⦃r:ε⦄ (h:F x y=some r):Ee P f [a x,b y] [] (R r) []:=.dS j q (k x y r h)
def DZ:=@Ee.h2
def Ee.h3 (j:P.funcs[f]? =some fn) (q:fn.body=some c) (F:α->β->γ->AB ε) (a:α->Ag) (b:β->Ag) (d:γ->Ag) (R:ε->Ag) (k:∀x y z r,F x y z=some r->Bq P c (.enter [a x,b y,d z] fn.ntmps []) (dY P fn (R r) [])) ⦃x:α⦄ ⦃y:β⦄ ⦃z:γ⦄ ⦃r:ε⦄ (h:F x y z=some r):Ee P f [a x,b y,d z] [] (R r) []:=.dS j q (k x y z r h)
def Nl:=@Ee.h3
def Ee.o1 (j:P.funcs[f]? =some fn) (q:fn.body=some c) (F:α->AB ε) (a:α->Ag) (R:ε->Bd) (k:∀x r,F x=some r->Bq P c (.enter [a x] fn.ntmps []) (dY P fn (.aS 0) [R r])) ⦃x:α⦄ ⦃r:ε⦄ (h:F x=some r):Ee P f [a x] [] (.aS 0) [R r]:=.dS j q (k x r h)
def L8:=@Ee.o1
def Ee.o2 (j:P.funcs[f]? =some fn) (q:fn.body=some c) (F:α->β->AB ε) (a:α->Ag) (b:β->Ag) (R:ε->Bd) (k:∀x y r,F x y=some r->Bq P c (.enter [a x,b y] fn.ntmps []) (dY P fn (.aS 0) [R r])) ⦃x:α⦄ ⦃y:β⦄ ⦃r:ε⦄ (h:F x y=some r):Ee P f [a x,b y] [] (.aS 0) [R r]:=.dS j q (k x y r h)
def GZ:=@Ee.o2
end
def aZ5 (o:AB A)(f:A->Ag):Ag:=match o with
 |none=>.d (.lit (.pointer none))
 |some a=>f a
def aeS (o:AB A)(f:A->A8 Bd):A8 Bd:=match o with
 |none=>[]
 |some a=>f a
variable {B:Type}
def YE (o:AB A)(x:AB B)(f:A->AB B):AB B:=match o with
 |none=>x
 |some a=>f a
variable {z:AB B}
def yc {x:AB B}{f:A->AB B}(h:YE none x f=z):x=z:=h
def zh {x:AB B}{f:A->AB B}(h:YE (some a) x f=z):f a=z:=h
variable {t':Bz}
section
variable {P:Cm} {o:Oper} {es:A8 Bd}
def a1q {k off:Nat}(q:P.underlying t=some (.pointer (P.pointee t)))(z:o.op=.binOp .eql t x y t':=by exact rfl):CM P o [(x,.ptr k off),(y,.d (.lit (.pointer none)))] es (.d (EC false)) es:=
 .pure λ_ _ a w _ _ j=>⟨.bool false,by
  have h1:=(Fb j).1;have h2:=(Fb j).2.lit;simp only at h1 h2;generalize I:a.eval x=u at h1;cases h1 with
  |ptr _ _ b s L=>
   have J:(eqGuard .eql t x y (Value.pointer (some ⟨b,off,none⟩)) (.pointer none)).run P w=.ok () w:=by
    unfold eqGuard;simp[pure,Sem.run_pure']
   simp only[execOp,z,I,h2,G9,J,GU,run_eql_pointer_nil w t _ q,Hg]
   rfl,.d _ _ (.lit _)⟩
def a18 (q:P.underlying t=some (.pointer (P.pointee t)))(u:o.op=.binOp .eql t x y t':=by exact rfl):CM P o [(x,.d (.lit (.pointer none))),(y,.d (.lit (.pointer none)))] es (.d (EC true)) es:=
 .pure λ_ _ a w _ _ j=>⟨.bool true,by
  have h1:=(Fb j).1.lit;have h2:=(Fb j).2.lit;simp only at h1 h2
  have z:(eqGuard .eql t x y (Value.pointer none) (.pointer none)).run P w=.ok () w:=by
   unfold eqGuard;simp[pure,Sem.run_pure']
  simp only[execOp,u,h1,h2,G9,z,GU,run_eql_pointer_nil w t _ q,Hg]
  rfl,.d _ _ (.lit _)⟩
end
def aEs :A8 ResultVar->AX
 | []=>true
 | .tmp _::rs=>aEs rs
 |_::_=>false
def a7t (σ:BQ):A8 ResultVar->A8 Ag
 | []=>[]
 | .tmp t::rs=>σ.slots.getD t .junk::a7t σ rs
 |_::rs=>.junk::a7t σ rs
def aOj {P:Cm}{σ:BQ}:∀{rs:A8 ResultVar},aEs rs=true->ZW P σ rs (a7t σ rs)
 | [],_=>trivial
 | .tmp _::_,h=>⟨rfl,aOj h⟩
def Et {P:Cm}{rs:A8 ResultVar}{j:Ag}{E':A8 Bd}(π:A8 (Nat×AX))(ha:aEs rs=true:=by kernel_rfl)(q:WC σ.base σ.ents π=true:=by kernel_rfl)(u:j=(oK (a7t σ rs)).back π:=by kernel_rfl)(z:E'=U0 σ.ents π:=by kernel_rfl):
 ∃xs π,ZW P σ rs xs/\WC σ.base σ.ents π=true/\j=(oK xs).back π/\E'=U0 σ.ents π:=⟨_,π,aOj ha,q,u,z⟩
def ag6 (o:Oper):Nat:=o.after.toList.foldl (λm e=>bif Region.binds .any e then Nat.lor m (2^e.on)else m) 0
def aYu (o:Oper):AX:=match o.op with
 | .alloc _=>true
 | .box .. =>true
 |_=>false
def aOU :A8 Oper->Nat->A8 (Nat×Nat×AX)
 | [],_=>[]
 |o::l,i=>(2^i,ag6 o,aYu o)::aOU l (i+1)
def aTL (m a:Nat):A8 (Nat×Nat)->Nat->AB Nat
 | [],_=>none
 |s::S,j=>bif Nat.beq s.1 m&&Nat.beq s.2 a then some j else aTL m a S (j+1)
def a7e (m a k:Nat):A8 (Nat×Nat×AX)->Nat->A8 (Nat×Nat)->A8 (Nat×Nat×Nat)->A8 (Nat×Nat)×A8 (Nat×Nat×Nat)
 | [],_,S,T=>(S,T)
 |(b,e,w)::l,i,S,T=>bif Nat.beq (Nat.land m b) 0&&Nat.beq (Nat.land m e) e then
    (match aTL (m+b) (bif w then 64*a+i+1 else a) S 0 with
    |some j=>a7e m a k l (i+1) S ((k,i,j)::T)
    |none=>a7e m a k l (i+1) (S++[(m+b,bif w then 64*a+i+1 else a)]) ((k,i,S.length)::T))
  else a7e m a k l (i+1) S T
def aSL (E:A8 (Nat×Nat×AX)):Nat->Nat->A8 (Nat×Nat)->A8 (Nat×Nat×Nat)->A8 (Nat×Nat×Nat)
 |0,_,_,T=>T.reverse
 |n+1,k,S,T=>match S[k]? with
  |some (m,a)=>match a7e m a k E 0 S T with
   |(S,T)=>aSL E n (k+1) S T
  |none=>T.reverse
def WO (ops:Bh Oper):A8 (Nat×Nat×Nat):=aSL (aOU ops.toList 0) 2000 0 [(0,0)] []
def aDX :A8 (Nat×Nat×Nat)->A8 (A8 Nat)->Nat->A8 (A8 Nat)
 | [],N,_=>N
 |t::Tr,N,n=>bif Nat.beq t.2.2 n then aDX Tr (N++[t.2.1::N.getD t.1 []]) (n+1)else aDX Tr N n
def QH (ops:Bh Oper):A8 (A8 Nat):=aDX (WO ops) [[]] 1
section
variable {P:Cm} [T:Kn P] {id:Nat} {ops:Bh Oper} {σ:BQ} {Q:Exit->BQ->Prop} {y:Code}
def Bq.aDw (L:A8 (MS P))(j:Nat)(q:Q .normal (KR T L ops σ ((QH ops).getD j [])))(hm:P.follows .mixedOrders=true:=by kernel_rfl)(u:eK ops (QH ops) (WO ops) [j]=true:=by kernel_rfl)(z:((WO ops).map λt=>Ut T L ops (KR T L ops σ ((QH ops).getD t.1 [])) t.2.1)=(WO ops).map λt=>some (KR T L ops σ ((QH ops).getD t.2.2 []),WA L t.2.1):=by kernel_rfl)(I:(QH ops).getD 0 [0]=[]:=by kernel_rfl):Bq P (.region id ops true) σ Q:=
 Bq.node1 L _ _ j q hm u I z
def dW (L:A8 (MS P))(j:Nat)(q:Bq P y (KR T L ops σ ((QH ops).getD j [])) Q)(hm:P.follows .mixedOrders=true:=by kernel_rfl)(u:eK ops (QH ops) (WO ops) [j]=true:=by kernel_rfl)(z:((WO ops).map λt=>Ut T L ops (KR T L ops σ ((QH ops).getD t.1 [])) t.2.1)=(WO ops).map λt=>some (KR T L ops σ ((QH ops).getD t.2.2 []),WA L t.2.1):=by kernel_rfl)(I:(QH ops).getD 0 [0]=[]:=by kernel_rfl):Bq P (.seq (.region id ops true) y) σ Q:=
 Bq.aKj L _ _ j q hm u I z
def Bq.awi (L:A8 (MS P))(F:A8 Nat)(j:BQ)(q:Qc (λk=>wB (KR T L ops σ ((QH ops).getD k [])) j) F)(u:Bq P y j Q)(hm:P.follows .mixedOrders=true:=by kernel_rfl)(z:eK ops (QH ops) (WO ops) F=true:=by kernel_rfl)(I:((WO ops).map λt=>Ut T L ops (KR T L ops σ ((QH ops).getD t.1 [])) t.2.1)=(WO ops).map λt=>some (KR T L ops σ ((QH ops).getD t.2.2 []),WA L t.2.1):=by kernel_rfl)(J:(QH ops).getD 0 [0]=[]:=by kernel_rfl):Bq P (.seq (.region id ops true) y) σ Q:=
 Bq.aKk L _ _ F j q u hm z J I
end
end Go.Proofs.YtfmoknlmaldmlaaGreat
namespace Go
open Go.Proofs.YtfmoknlmaldmlaaGreat
variable {P:Cm}
def a1k (w:Ba)(U Y ty q:Bz)(b o u I:Nat)(a:Addr)(z J k n:Nat)(cs:A8 BI)(Z:P.underlying U=some (.slice q))(hs:(P.info? q).map (·.size)=some k)(hn:n=Nat.min z u)(hl:cs.length=n*k)(L:∀j v,cs[j]? =some v->w.cell? (a.add j)=some v)(hc:∀j,j<cs.length->(w.cell? ⟨b,o+j,none⟩).isSome=true)(hf:∀j,j<cs.length->w.frozen? ⟨b,o+j,none⟩=false)(h1:∀v∈cs,v.oneCell'=true):
 (Builtin.copy_ #[U,Y] ty #[.slice (some ⟨b,o,none⟩) u I,.slice (some a) z J]).run P w=.ok (goInt n) (w.setCells b o cs):=by
 have M:=aVP (P:=P) w a cs L;have hst:=run_storeCells_cells (P:=P) b o cs 0 w (by simpa using hc) (by simpa using hf) h1;rw[hl]at M;cases O:P.info? q with
 |none=>simp[O]at hs
 |some i=>
  have hi:i.size=k:=by simpa[O]using hs
  simp[Builtin.copy_,aAR Z,Builtin.lenOf,Builtin.firstCells,sizeOf,typeInfo,O,hi,←hn,M,hst]
end Go
namespace Go.Proofs.YtfmoknlmaldmlaaGreat
open Go.Proofs.Tryz
open Go.Shelf Go.RowKit Go.Lib
variable {es:A8 Bd}{k:Nat}{ok:Nat->Prop}{w:Ba}
section
variable {K V:Type} [BEq K]
def aWz {α β:Type}(f:α->β):∀(l:A8 α) (j:Nat),(l.map f).eraseIdx j=(l.eraseIdx j).map f
 | [],_=>rfl
 |_::_,0=>rfl
 |x::l,j+1=>BG (f x:: ·) (aWz f l j)
def LY :A8 (K×V)->K->A8 (K×V)
 | [],_=>[]
 |p::l,k=>bif k==p.1 then l else p::LY l k
def aOX {ek:K->BI}{kd:TypeDesc}(hs:∀a b,Instr.sameNow kd (ek a) (ek b)=some (a==b))(k:K):∀(m:A8 (K×V)) (l:A8 MapEntry) (i:Nat),l.map (·.key)=m.map (λp=>ek p.1)->
 (Instr.findNow kd (ek k) l i=some none/\LY m k=m)\/∃(j:Nat) (e:MapEntry),Instr.findNow kd (ek k) l i=some (some (i+j,e.val))/\j<l.length/\LY m k=m.eraseIdx j
 | [],[],_,_=>.inl ⟨rfl,rfl⟩
 | [],_::_,_,h=>JB
 |_::_,[],_,h=>JB
 |p::m,e::l,i,h=>by
  simp only[Gs,a7T]at h;cases q:(k==p.1)with
  |true=>
   refine .inr ⟨0,e,?_,Bf,?_⟩
   ·simp[Instr.findNow,h.1,hs,q]
   simp[LY,q]
  |false=>
   rcases aOX hs k m l (i+1) h.2 with⟨h1,h2⟩|⟨j,e',h1,h2,h3⟩
   ·refine .inl ⟨?_,?_⟩
    ·simp[Instr.findNow,h.1,hs,q,h1]
    simp[LY,q,h2]
   refine .inr ⟨j+1,e',?_,L9,?_⟩
   ·simp[Instr.findNow,h.1,hs,q,h1];omega
   simp[LY,q,h3]
def Kt.erase {es:A8 (BI×D)}{ms:Bh MapEntry}{clock:Nat}(h:Kt ok w es ms clock){j:Nat}(z:j<ms.size):Kt ok w (es.eraseIdx j) (ms.eraseIdxIfInBounds j) clock:=by
 have hE:ms.eraseIdxIfInBounds j=ms.eraseIdx j z:=by simp[Array.eraseIdxIfInBounds,z]
 have hl:=h.len
 have key:∀(i:Nat) (m:MapEntry),(ms.eraseIdx j z)[i]? =some m->∃q,(∀e,(es.eraseIdx j)[i]? =some e->es[q]? =some e)/\ms[q]? =some m/\q=(if i<j then i else i+1):=λi m hm=>by
  rw[Array.getElem?_eraseIdx]at hm;refine⟨if i<j then i else i+1,λe u=>?_,?_,rfl⟩
  ·rw[List.getElem?_eraseIdx]at u;split at u<;>rename_i c
   ·rw[Ea c];exact u
   rw[Eh c];exact u
  split at hm<;>rename_i c
  ·rw[Ea c];exact hm
  rw[Eh c];exact hm
 rw[hE];refine⟨by rw[Array.size_eraseIdx,List.length_eraseIdx];split<;>omega,λi e m u hm=>?_,λi k m n I hm J=>?_⟩
 ·obtain⟨q,h1,h2,_⟩:=key i m hm;exact h.ent q e m (h1 e u) h2
 obtain⟨q,_,h2,L⟩:=key i m hm;obtain⟨k',_,M,O⟩:=key k n J;exact h.inc q k' m n (by rw[L,O];split<;>split<;>omega) h2 M
def agH {P:Cm}{o:Oper}{t kt vt u:Bz}{x y:CB}{ek:K->BI}(ev:V->D){m:A8 (K×V)}{key:K}(ht:P.underlying t=some (.map kt vt))(hk:KeyTy P kt ek)(I:es[k]? =some (.map (m.map (CV ek ev))))(ho:o.op=.call { callee:=.builtin .delete,args:= #[x,y],argTypes:= #[t,u] }:=by exact rfl):
 CM P o [(x,.mp k),(y,.d (.lit (ek key)))] es .junk (es.set k (.map ((LY m key).map (CV ek ev)))):=
 .eff λC ok H a w hm hn=>by
  obtain⟨hd,J,L⟩:=Hr hm.ent hm.hlen I;obtain⟨b,ms,clock,h1,h2,h3⟩:=L;have M:=U4 (hn (x,.mp k) Bf) J;have O:=(hn (y,.d (.lit (ek key))) Bf).lit;simp only at M O;obtain⟨kd,q,hs⟩:=hk.same;have U:ms.toList.map (·.key)=m.map (λp=>ek p.1):=a6w
  have z:=hk.check;rcases aOX (i:=0) hs key m ms.toList U with⟨Y,Z⟩|⟨j,e,Y,q2,Z⟩
  ·obtain⟨r1,r2,r3⟩:=vg (P:=P) hm I J h1 h2 h3;refine⟨.tuple #[],_,ok,H,.inl ?_,r3,.refl _,?_,.junk _⟩
   ·simp[execOp,ho,resolve,invoke,builtin,Builtin.delete_,M,O,h1,underlying,ht,Qi h2,z,Instr.findKey,q,Y,r1]
   rw[Z];exact r2
  have hM:=h3.erase (j:=j) oJ;obtain⟨r1,r2,r3⟩:=vg (P:=P) hm I J h1 h2 hM;refine⟨.tuple #[],_,ok,H,.inl ?_,r3,.refl _,?_,.junk _⟩
  ·simp[execOp,ho,resolve,invoke,builtin,Builtin.delete_,M,O,h1,underlying,ht,Qi h2,z,Instr.findKey,q,Y,r1]
  rw[Z,←aWz];exact r2
end
set_option linter.unusedVariables false
set_option linter.unusedSimpArgs false
set_option maxHeartbeats 4000000 in
set_option maxRecDepth 100000 in
def aib (b n c i vb vc:Nat)(cs vs:A8 BI)(w:Ba)(hi:i<n)(hroom:n+1<=c)(hc63:c<=9223372036854775807)(hvb:vb≠b)(hcl:cs.length=n*29)(hvl:vs.length=29)(hcs:∀j v,cs[j]? =some v->w.cell? ⟨b,j,none⟩=some v)(hsp:∀j,j<(n+1)*29->(w.cell? ⟨b,j,none⟩).isSome=true)(hfz:∀j,j<(n+1)*29->w.frozen? ⟨b,j,none⟩=false)(hvs:∀j v,vs[j]? =some v->w.cell? ⟨vb,j,none⟩=some v)(h1c:∀v∈cs,v.oneCell'=true)(h1v:∀v∈vs,v.oneCell'=true)(tA tB:Bz)(kA kB:Nat)(hsa:w.shape? vb=some (tA,kA))(hsb:w.shape? b=some (tB,kB))(hkB:kB≠0)(hfa:w.frozen? ⟨vb,0,none⟩=false)(hfe:w.frozen? ⟨vb,kA,none⟩=false):
 Calls Au 140 #[.slice (some ⟨b,0,none⟩) n c,.int .i64 i,.slice (some ⟨vb,0,none⟩) 1 vc] w λe w'=>
  e=.returned (.slice (some ⟨b,0,none⟩) (n+1) c)/\w'=(w.drew.setCells b ((i+1)*29) (cs.drop (i*29))).setCells b (i*29) vs:=by
 have hz2:¬((i:Int)=(n:Int)):=AL
 have hw1:Aw ((i:Int)+1)=(i:Int)+1:=Oj
 have hw2:Aw ((n:Int)+1)=(n:Int)+1:=Oj
 have hb1:(0:Int)<=(i:Int)+1:=AL
 have hin:i<=n:=AL
 have htn:((i:Int)+1).toNat=i+1:=AL
 have aRD:((n:Int)+1).toNat=n+1:=AL
 have hb2:¬(c=i+1):=AL
 have hb3:(i:Int)<=(n:Int)+1:=AL
 have hb4:¬(c=i):=AL
 have hb5:¬((c:Int)<(n:Int)+1):=AL
 have z:(Au.info? 38).map (·.size)=some 29:=AA
 have U:∀w,(Go.sizeOf 38).run Au w=.ok 29 w:=λw=>by
  cases Y:Au.info? 38 with
  |none=>simp[Y]at z
  |some i=>
   have h0:i.size=29:=by simpa[Y]using z
   simp[sizeOf,typeInfo,Y,h0]
 have Z:∀lb cb,(callFunc 218 #[.slice (some ⟨vb,0,none⟩) 1 vc,.slice (some ⟨b,(i+1)*29,none⟩) lb cb]).run Au w=.ok (.value (.bool false)) w:=λlb cb=>by
  rw[run_callFunc_extern func218 AA AA AA (e:=Extern.SlicesOverlaps.overlaps #[22,22] #[4]) AA,
   Lib.run_overlaps_apart w 22 4 38 SPr 29 U ⟨vb,0,none⟩ ⟨b,(i+1)*29,none⟩ 1 vc lb cb hvb tA tB kA kB hsa hsb hkB hfa hfe]
  rfl
 have I:(cs.drop (i*29)).length=(n-i)*29:=by rw[Ld,hcl,Nat.sub_mul]
 have J:∀ty BD sc,(Builtin.copy_ #[22,22] ty #[.slice (some ⟨b,(i+1)*29,none⟩) (n-i) BD,.slice (some ⟨b,i*29,none⟩) (n+1-i) sc]).run Au w.drew=.ok (goInt (n-i:Nat)) (w.drew.setCells b ((i+1)*29) (cs.drop (i*29))):=λty BD sc=>
  a1k w.drew _ _ ty 38 b ((i+1)*29) (n-i) BD ⟨b,i*29,none⟩ (n+1-i) sc 29 (n-i) (cs.drop (i*29)) SPr z a3S I
   (λj v q=>by rw[kW];exact hcs (i*29+j) v (by rwa [Vd]at q))
   (λj q=>hsp _ aH8) (λj q=>hfz _ aH8) (λv hv=>h1c v (aCn hv))
 obtain⟨W1,u⟩:∃W1,W1=w.drew.setCells b ((i+1)*29) (cs.drop (i*29)):=⟨_,rfl⟩
 have L:∀k,k<(n+1)*29->(W1.cell? ⟨b,k,none⟩).isSome=true:=λk hk=>by
  rw[u];exact isSome_setCells b (cs.drop (i*29)) ((i+1)*29) w.drew (λj q=>hsp _ aH8) _ (hsp k hk)
 have M:∀(W:Ba),(∀x,W.cell? x=W1.cell? x)->(∀x,W.frozen? x=W1.frozen? x)->∀ty BD,(Builtin.copy_ #[22,22] ty #[.slice (some ⟨b,i*29,none⟩) (n+1-i) BD,.slice (some ⟨vb,0,none⟩) 1 vc]).run Au W=.ok (goInt (1:Nat)) (W.setCells b (i*29) vs):=λW O hWf ty BD=>
  a1k W _ _ ty 38 b (i*29) (n+1-i) BD ⟨vb,0,none⟩ 1 vc 29 1 vs SPr z a3S (by rw[hvl])
   (λj v q=>by
    rw[kW,O,u,World.cell?_setCells_out b _ _ _ _ (λh _=>absurd h hvb),Ky]
    exact hvs j v q)
   (λj q=>by rw[O];exact L _ AL) (λj q=>by rw[hWf,u,World.frozen?_setCells];exact hfz _ AL) h1v
 rw[←u]at J;have mixed:Au.follows .mixedOrders=true:=AA
 go_enter func140,Tryz.ntmps140
 go_wp2_with (simp only[Z])
 go_region_law_o (refine step_copy_runI rfl _ _ 22 22 rfl _ _ a4s a4s (J _ _ _) ?_)
 go_wp2_with (at_builtin;refine wpList_copy_runI _ rfl _ _ 22 22 rfl _ _ rfl rfl (M _ (λ_=>rfl) (λ_=>rfl) _ _) ?_)
 go_ret
 first|exact⟨rfl,rfl⟩|exact⟨rfl,by rw[u]⟩
set_option maxHeartbeats 4000000 in
set_option maxRecDepth 100000 in
def aad (b n c i vb vc:Nat)(cs vs:A8 BI)(w:Ba)(hi:i<n)(hnc:n<=c)(hroom:c<n+1)(hbig:(n+1)*376<=140737488355328)(hcl:cs.length=n*29)(hvl:vs.length=29)(hcs:∀j v,cs[j]? =some v->w.cell? ⟨b,j,none⟩=some v)(hvs:∀j v,vs[j]? =some v->w.cell? ⟨vb,j,none⟩=some v)(h1c:∀v∈cs,v.oneCell'=true)(h1v:∀v∈vs,v.oneCell'=true):
 Calls Au 140 #[.slice (some ⟨b,0,none⟩) n c,.int .i64 i,.slice (some ⟨vb,0,none⟩) 1 vc] w λe w'=>∃G ROW,e=.returned (.slice (some ⟨w.heap.size,0,none⟩) (n+1) G)/\n+1<=G/\G<=maxLen/\G*29<=ROW.size/\ROW.toList.take (i*29)=cs.take (i*29)/\
  w'=(((w.alloc (.cells ROW 38)).drew.setCells w.heap.size (i*29) vs).drew).setCells w.heap.size ((i+1)*29) (cs.drop (i*29)):=by
 have hE:GV Au 22 38 29 376:=KH AA;obtain⟨i0,z0,hi0,hz0,hzs,hzb,hzc⟩:=hE.info;have hsz:(Au.info? 38).map (·.size)=some 29:=by rw[hi0];simp[hzs]
 have mixed:Au.follows .mixedOrders=true:=AA
 have hz2:¬((i:Int)=(n:Int)):=AL
 have hz3:(c:Int)<(n:Int)+1:=AL
 have hil:i*29<cs.length:=AL
 have hbw:b<w.heap.size:=block_lt_of_cell (hcs 0 _ (ES AL));have hvw:vb<w.heap.size:=block_lt_of_cell (hvs 0 _ (ES AL));have hkk:(n:Int)+1-(i:Int)=((n+1-i:Nat):Int):=AL
 have O:i+(n+1-i)=n+1:=AL
 have U:(cs.take (i*29)).length=i*29:=cZ
 have L:(Builtin.firstCells i0.size i (.slice (some ⟨b,0,none⟩) i c)).run Au w.drew=.ok (cs.take (i*29)).toArray w.drew:=by
  rw[hzs]
  exact run_firstCells_some w.drew 29 i ⟨b,0,none⟩ i c (cs.take (i*29)) (by rw[U]) (λj v q=>by
   rw[kW,Ky];rw[a1o]at q;split at q
   ·exact hcs j v q
   cases q)
 have J:∀ty,(Builtin.append_ #[22,3] ty #[.slice (some ⟨b,0,none⟩) i c,.int .i64 ((n:Int)+1-(i:Int))]).run Au w=
  .ok (.slice (some ⟨w.heap.size,0,none⟩) (n+1) (grownCap w (n+1) c 38)) (w.drew.alloc (.cells ((cs.take (i*29)).toArray++Builtin.zeroCells z0.cells (n+1-i)++Builtin.zeroCells z0.cells (grownCap w (n+1) c 38-(n+1))) 38)):=λty=>by
  have h:=Lib.run_append_grow_zeros w 22 3 ty 38 i0 z0 .i64 .i64 hE.und AA hi0 hz0 (some ⟨b,0,none⟩) i c (cs.take (i*29)) L (n+1-i) AL AL AL AL (by rw[hzb];omega) (by rw[hzb,O];exact growslice_fits AL AL);rw[O]at h;rw[hkk];exact h
 have hGn:n+1<=grownCap w (n+1) c 38:=a0F w _ _ _;have Y:=a7s w (n+1) c 38 nK;obtain⟨G,hG⟩:∃G,G=grownCap w (n+1) c 38:=⟨_,rfl⟩
 obtain⟨ROW,u⟩:∃ROW:Bh BI,ROW=(cs.take (i*29)).toArray++Builtin.zeroCells z0.cells (n+1-i)++Builtin.zeroCells z0.cells (G-(n+1)):=⟨_,rfl⟩
 rw[←hG]at J hGn Y;rw[←u]at J
 have hRl:ROW.size=G*29:=by
  rw[u];simp[Builtin.zeroCells,hzc];omega
 have hRt:ROW.toList.take (i*29)=cs.take (i*29):=by
  rw[u];simp[JU];rw[zX U]
 obtain⟨W1,z⟩:∃W1,W1=w.drew.alloc (.cells ROW 38):=⟨_,rfl⟩
 rw[←z]at J
 have hN:∀j,j<(n+1)*29->(W1.cell? ⟨w.heap.size,j,none⟩).isSome=true:=λj q=>by
  rw[z,World.cell?_alloc_at (w:=w.drew) ROW _ w.heap.size j rfl,oV AL];rfl
 have hNf:∀j,W1.frozen? ⟨w.heap.size,j,none⟩=false:=λj=>by rw[z];exact World.frozen?_alloc_at (w:=w.drew) ROW _ w.heap.size j rfl
 have hOb:∀j v,w.cell? ⟨b,j,none⟩=some v->W1.cell? ⟨b,j,none⟩=some v:=λj v h=>by rw[z,World.cell?_alloc_past (w:=w.drew) _ b j hbw];exact h
 have hOv:∀j v,w.cell? ⟨vb,j,none⟩=some v->W1.cell? ⟨vb,j,none⟩=some v:=λj v h=>by rw[z,World.cell?_alloc_past (w:=w.drew) _ vb j hvw];exact h
 have hcpA:∀(W:Ba),(∀x,W.cell? x=W1.cell? x)->(∀x,W.frozen? x=W1.frozen? x)->∀ty BD,(Builtin.copy_ #[22,22] ty #[.slice (some ⟨w.heap.size,i*29,none⟩) (n+1-i) BD,.slice (some ⟨vb,0,none⟩) 1 vc]).run Au W=.ok (goInt (1:Nat)) (W.setCells w.heap.size (i*29) vs):=λW I Z ty BD=>
  a1k W _ _ ty 38 w.heap.size (i*29) (n+1-i) BD ⟨vb,0,none⟩ 1 vc 29 1 vs hE.und hsz a3S (by rw[hvl])
   (λj v q=>by rw[kW,I,Ky];exact hOv _ v (hvs j v q))
   (λj q=>by rw[I];exact hN _ AL) (λj q=>by rw[Z];exact hNf _) h1v
 have hG63:G<=9223372036854775807:=by unfold maxLen at Y;omega
 have hGi:¬(G=i):=AL
 have hGim:¬(G=i+1):=AL
 have hci:¬(c=i):=AL
 have hbN:b≠w.heap.size:=AL
 have hdl:(cs.drop (i*29)).length=(n-i)*29:=by rw[Ld,hcl,Nat.sub_mul]
 have M:∀(W:Ba),(∀x,W.cell? x=(W1.setCells w.heap.size (i*29) vs).cell? x)->(∀x,W.frozen? x=(W1.setCells w.heap.size (i*29) vs).frozen? x)->∀ty BD sc,(Builtin.copy_ #[22,22] ty #[.slice (some ⟨w.heap.size,(i+1)*29,none⟩) (n-i) BD,.slice (some ⟨b,i*29,none⟩) (n-i) sc]).run Au W=.ok (goInt (n-i:Nat)) (W.setCells w.heap.size ((i+1)*29) (cs.drop (i*29))):=λW I Z ty BD sc=>
  a1k W _ _ ty 38 w.heap.size ((i+1)*29) (n-i) BD ⟨b,i*29,none⟩ (n-i) sc 29 (n-i) (cs.drop (i*29)) hE.und hsz a3S hdl
   (λj v q=>by
    rw[kW,I,World.cell?_setCells_out _ _ _ _ _ (λh _=>absurd h hbN)]
    exact hOb _ v (hcs (i*29+j) v (by rwa [Vd]at q)))
   (λj q=>by rw[I];exact isSome_setCells _ vs (i*29) W1 (λt ht=>hN _ AL) _ (hN _ (by rw[hdl]at q;omega)))
   (λj q=>by rw[Z,World.frozen?_setCells];exact hNf _) (λv hv=>h1c v (aCn hv))
 subst z;have hE1:∀x,((w.alloc (.cells ROW 38)).drew).cell? x=(w.drew.alloc (.cells ROW 38)).cell? x:=λx=>rfl;have hE2:∀x,((w.alloc (.cells ROW 38)).drew).frozen? x=(w.drew.alloc (.cells ROW 38)).frozen? x:=λx=>rfl;have hF1:∀x,(((w.alloc (.cells ROW 38)).drew.setCells w.heap.size (i*29) vs).drew).cell? x=((w.drew.alloc (.cells ROW 38)).setCells w.heap.size (i*29) vs).cell? x:=λx=>rfl;have hF2:∀x,(((w.alloc (.cells ROW 38)).drew.setCells w.heap.size (i*29) vs).drew).frozen? x=((w.drew.alloc (.cells ROW 38)).setCells w.heap.size (i*29) vs).frozen? x:=λx=>rfl;have hw1:Aw ((i:Int)+1)=(i:Int)+1:=Oj
 have hw2:Aw ((n:Int)+1)=(n:Int)+1:=Oj
 have hw3:Aw ((n:Int)+1-(i:Int))=(n:Int)+1-(i:Int):=Oj
 have hb1:(0:Int)<=(i:Int)+1:=AL
 have hin:i<=n:=AL
 have htn:((i:Int)+1).toNat=i+1:=AL
 have hb3:(i:Int)<=(n:Int):=AL
 clear hkk O L u hG hil U
 go_enter func140,Tryz.ntmps140
 go_wp2_with (first
  |(at_builtin;refine a0u _ rfl _ _ _ _ rfl _ _ rfl rfl _ _ (J _) ?_)
  |(at_builtin;refine wpList_copy_runI _ rfl _ _ 22 22 rfl _ _ rfl rfl (hcpA _ hE1 hE2 _ _) ?_)
  |(at_builtin;refine wpList_copy_runI _ rfl _ _ 22 22 rfl _ _ rfl rfl (M _ (λ_=>rfl) (λ_=>rfl) _ _ _) ?_))
 go_region_law_o (refine step_copy_runI rfl _ _ 22 22 rfl (.slice (some ⟨w.heap.size,(i+1)*29,none⟩) (n-i) (G-(i+1))) (.slice (some ⟨b,i*29,none⟩) (n-i) (c-i)) a4s a4s (M _ hF1 hF2 3 (G-(i+1)) (c-i)) ?_)
 go_wp2
 go_ret
 exact⟨G,ROW,rfl,hGn,Y,QJ hRl.symm,hRt,rfl⟩
def putAt (j:Bh BI):Nat->A8 BI->Bh BI
 |_,[]=>j
 |o,v::r=>putAt (j.setIfInBounds o v) (o+1) r
def jT :∀(vs:A8 BI) (o:Nat) (j:Bh BI),(putAt j o vs).size=j.size
 | [],_,_=>rfl
 |v::r,o,j=>by rw[putAt,jT r];simp
def Res :∀(vs:A8 BI) (o:Nat) (q:Bh BI),o+vs.length<=q.size->(putAt q o vs).toList=q.toList.take o++vs++q.toList.drop (o+vs.length)
 | [],o,q,_=>by simp[putAt]
 |v::r,o,q,h=>by
  simp only[GK]at h;rw[putAt,Res r (o+1) _ Ej,aFs];refine ku λj=>?_;simp only[JU,List.getElem?_append,H6,jX,Uz,a1o,List.getElem?_set,Vd,GK,aP,aVo]
  grind
def zN (b:Nat):∀(vs:A8 BI) (o:Nat) (w:Ba) (j:Bh BI) (e:Bz) (fr:Nat×Nat),w.heap[b]? =some (.cells j e fr)->(w.setCells b o vs).heap[b]? =some (.cells (putAt j o vs) e fr)
 | [],_,_,_,_,_,h=>h
 |v::r,o,w,j,e,fr,h=>by
  rw[World.setCells,putAt];refine zN b r (o+1) _ _ e fr ?_;simp[World.setCell,ah,h]
variable {n vb vc:Nat}{v:BI}{xs:A8 BI}
set_option maxHeartbeats 4000000 in
set_option maxRecDepth 100000 in
def afo {news:A8 BI}(hown:nC w 38 29 v n xs)(hsrc:Xx w (.slice (some ⟨vb,0,none⟩) 1 vc) 1 29 news)(hb:(n+1)*376<=140737488355328):
 Calls Au 140 #[v,.int .i64 n,.slice (some ⟨vb,0,none⟩) 1 vc] w λe w'=>∃v',e=.returned v'/\nC w' 38 29 v' (n+1) (xs++news)/\w.grownBy w' v.ownBlock/\∀g,EF v'=some g->EF v=some g\/w.heap.size<=g:=by
 have hE:GV Au 22 38 29 376:=KH AA;obtain⟨v',w',u,h2,h3,z⟩:=aHx (ty:=22) hE hown hsrc hb nK;have mixed:Au.follows .mixedOrders=true:=AA
 rcases hown.2 with⟨rfl,J⟩|⟨g,cap,L,rfl,_,U,M,j,O,q⟩
 ·subst J
  go_enter func140,Tryz.ntmps140
  go_wp2_with (at_builtin;refine a0u _ rfl _ _ _ _ rfl _ _ rfl rfl _ _ u ?_)
  go_ret
  exact⟨v',rfl,h2,h3,z⟩
 have I:cap<=9223372036854775807:=by unfold maxLen at j;omega
 go_enter func140,Tryz.ntmps140
 go_wp2_with (at_builtin;refine a0u _ rfl _ _ _ _ rfl _ _ rfl rfl _ _ u ?_)
 all_goals (go_ret;exact⟨v',rfl,h2,h3,z⟩)
def zi (b:Nat):∀(vs:A8 BI) (o:Nat) (w:Ba),(w.setCells b o vs).os=w.os/\(w.setCells b o vs).tape=w.tape/\(w.setCells b o vs).output=w.output/\(w.setCells b o vs).heap.size=w.heap.size/\∀i,i≠b->(w.setCells b o vs).heap[i]? =w.heap[i]?
 | [],_,_=>⟨rfl,rfl,rfl,rfl,λ_ _=>rfl⟩
 |v::r,o,w=>by
  obtain⟨h1,h2,h3,j,q⟩:=zi b r (o+1) (w.setCell ⟨b,o,none⟩ v);rw[World.setCells];refine⟨h1,h2,h3,by rw[j];simp[World.setCell],λi hi=>?_⟩;rw[q i hi];simp[World.setCell,ah,Ne.symm hi]
variable {N a:Nat}{j:Bh BI}{vs:A8 BI}
def aZj (u:j.toList.take N=xs)(hl:xs.length=N)(q:vs.length=k)(ha:a<=N)(hs:N+k<=j.size):
 (putAt (putAt j (a+k) (xs.drop a)) a vs).toList.take (N+k)=xs.take a++vs++xs.drop a:=by
 have hd:(xs.drop a).length=N-a:=by rw[Ld,hl]
 rw[Res vs a _ (by rw[jT];omega),Res (xs.drop a) (a+k) j AL,q,hd]
 have z:(j.toList.take (a+k)++xs.drop a++j.toList.drop (a+k+(N-a))).take a=xs.take a:=by
  rw[JU,List.take_append_of_le_length Ej,aFO,←u,aFO,yh AL,yh ha]
 have I:(j.toList.take (a+k)++xs.drop a++j.toList.drop (a+k+(N-a))).drop (a+k)=xs.drop a++j.toList.drop (a+k+(N-a)):=by
  rw[JU,List.drop_left' Ej]
 rw[z,I,←JU,zX (by simp[hd,q,hl];omega)]
def akn (u:j.toList.take a=xs.take a)(hl:xs.length=N)(q:vs.length=k)(ha:a<=N)(hs:N+k<=j.size):
 (putAt (putAt j a vs) (a+k) (xs.drop a)).toList.take (N+k)=xs.take a++vs++xs.drop a:=by
 have hd:(xs.drop a).length=N-a:=by rw[Ld,hl]
 rw[Res (xs.drop a) (a+k) _ (by rw[jT];omega),Res vs a j AL,q,hd,u];have z:(xs.take a++vs++j.toList.drop (a+k)).take (a+k)=xs.take a++vs:=zX (by simp[q,hl];omega);rw[z,zX (by simp[hd,q,hl];omega)]
variable {T:Bz}{fr:Nat×Nat}{g:Nat}{q:Bh BI}
def a0S (u:w.heap[g]? =some (.cells q T fr))(z:q.toList.take n=xs)(j:Nat)(v:BI)(h:xs[j]? =some v):w.cell? ⟨g,j,none⟩=some v:=by
 unfold World.cell?;simp only[u];rw[←z,a1o]at h;split at h
 ·simpa using h
 cases h
def amu (u:w.heap[g]? =some (.cells q T fr))(j:Nat)(h:j<q.size):(w.cell? ⟨g,j,none⟩).isSome=true:=by
 unfold World.cell?;simp[u,h]
def aKp (u:w.heap[g]? =some (.cells q T (0,0)))(j:Nat):w.frozen? ⟨g,j,none⟩=false:=by
 unfold World.frozen?;simp[u]
def aZ8 {i:Nat}{q:A8 BI}(hi:i<=n)(J:nC w 38 29 v n xs)(h1:∀u∈xs,u.oneCell'=true)(hx:nC w 38 29 (.slice (some ⟨vb,0,none⟩) 1 vc) 1 q)(Z:∀u∈q,u.oneCell'=true)(hne:EF v≠some vb)(hb:(n+1)*376<=140737488355328):
 Calls Au 140 #[v,.int .i64 i,.slice (some ⟨vb,0,none⟩) 1 vc] w λe w'=>∃v',e=.returned v'/\nC w' 38 29 v' (n+1) (xs.take (i*29)++q++xs.drop (i*29))/\Turns v w w'/\∀g,EF v'=some g->EF v=some g\/w.heap.size<=g:=by
 have L:=J.1;have M:q.length=29:=by have :=hx.1;omega
 rcases hx.2 with⟨e0,_⟩|⟨vb',aRE,aLF,e0,_,O,hvn,_,hvs,hvt⟩
 ·cases e0
 injection e0 with e1 _ e3
 injection e1 with e1
 injection e1 with e1
 subst e1 e3;rcases kK i n with hin|hin
 ·rcases J.2 with⟨_,h0⟩|⟨g,cap,Y,rfl,_,hg,hnc,hcm,hcs,I⟩
  ·omega
  have hgv:vb≠g:=λe=>hne uS;have hil:i*29<=n*29:=La _ hi;rcases kK n cap with z|z
  ·have hfit:(n+1)*29<=Y.size:=EK (La _ z) hcs;refine(aib g n cap i vb vc xs q w hin z (by unfold maxLen at hcm;omega) hgv L M (a0S hg I) (λj hj=>amu hg j AL) (λj _=>aKp hg j) (a0S O hvt) h1 Z 38 38 aLF.size Y.size (by simp[World.shape?,O]) (by simp[World.shape?,hg]) AL (aKp O 0) (aKp O _)).mono ?_;rintro e w' ⟨rfl,rfl⟩;have hh:=zN g q (i*29) _ _ _ _ (zN g (xs.drop (i*29)) ((i+1)*29) w.drew Y 38 (0,0) hg);obtain⟨a1,a2,a3,a4,a5⟩:=zi g (xs.drop (i*29)) ((i+1)*29) w.drew;obtain⟨b1,b2,b3,b4,b5⟩:=zi g q (i*29) (w.drew.setCells g ((i+1)*29) (xs.drop (i*29)));refine⟨_,rfl,⟨?_,.inr ⟨g,cap,_,rfl,F7 _,hh,z,hcm,by rw[jT,jT];exact hcs,?_⟩⟩,⟨b1.trans a1,b2.trans a2,b3.trans a3,by rw[b4,a4];exact Eb _,λc hc hcb=>?_⟩,λg' hg'=>.inl hg'⟩
   ·simp[M,L];omega
   ·have :=aZj (a:=i*29) (k:=29) I L M hil AL;rw[show(i+1)*29=i*29+29 by omega,show(n+1)*29=n*29+29 by omega];exact this
   have U:c≠g:=λe=>hcb uS;rw[b5 c U,a5 c U];rfl
  refine(aad g n cap i vb vc xs q w hin hnc AL hb L M (a0S hg I) (a0S O hvt) h1 Z).mono ?_;rintro e w' ⟨G,ROW,rfl,hGn,hGm,hGs,hRt,rfl⟩
  have hal:((w.alloc (.cells ROW 38)).drew).heap[w.heap.size]? =some (.cells ROW 38 (0,0)):=by
   show(w.heap.push (.cells ROW 38 (0,0)))[w.heap.size]? =_;simp
  have hh:=zN w.heap.size (xs.drop (i*29)) ((i+1)*29) _ _ _ _ (show(((w.alloc (.cells ROW 38)).drew.setCells w.heap.size (i*29) q).drew).heap[w.heap.size]? =_ from zN w.heap.size q (i*29) _ ROW 38 (0,0) hal);obtain⟨a1,a2,a3,a4,a5⟩:=zi w.heap.size q (i*29) (w.alloc (.cells ROW 38)).drew;obtain⟨b1,b2,b3,b4,b5⟩:=zi w.heap.size (xs.drop (i*29)) ((i+1)*29) ((w.alloc (.cells ROW 38)).drew.setCells w.heap.size (i*29) q).drew;refine⟨_,rfl,⟨?_,.inr ⟨w.heap.size,G,_,rfl,F7 _,hh,hGn,hGm,by rw[jT,jT];exact hGs,?_⟩⟩,⟨b1.trans a1,b2.trans a2,b3.trans a3,?_,λc hc hcb=>?_⟩,λg' hg'=>.inr (by simp[EF]at hg';omega)⟩
  ·simp[M,L];omega
  ·have :=akn (a:=i*29) (k:=29) hRt L M hil (by have :=La 29 hGn;omega);rw[show(i+1)*29=i*29+29 by omega,show(n+1)*29=n*29+29 by omega];exact this
  ·rw[b4];show w.heap.size<=((w.alloc (.cells ROW 38)).drew.setCells w.heap.size (i*29) q).heap.size;rw[a4];show w.heap.size<=(w.heap.push (.cells ROW 38 (0,0))).size;simp
  have U:c≠w.heap.size:=AL
  rw[b5 c U];show((w.alloc (.cells ROW 38)).drew.setCells w.heap.size (i*29) q).heap[c]? =_;rw[a5 c U];show(w.heap.push (.cells ROW 38 (0,0)))[c]? =_;simp[nP,U]
 have hni:i=n:=AL
 subst hni;refine(afo J ⟨AL,Z,.inl ⟨_,_,rfl,λj u hj=>by rw[kW,Ky];exact a0S O hvt j u hj⟩⟩ hb).mono ?_;rintro e w' ⟨v',rfl,h2,h3,h4⟩;refine⟨v',rfl,?_,⟨h3.os,h3.tape,h3.output,h3.size,λk hk hne'=>h3.block k hk ?_⟩,h4⟩
 ·rw[Qj AL,aB6 AL,RZ];exact h2
 rcases J.2 with⟨rfl,_⟩|⟨g,cap,Y,rfl,_⟩
 ·simp[Value.ownBlock]
 intro e;exact hne' e.symm
def amv (hs:j.size=3):j= #[j.getD 0 undef,j.getD 1 undef,j.getD 2 undef]:=by
 refine dP (by simp[hs]) λi h1 h2=>?_;simp at h2;have :i=0\/i=1\/i=2:=AL
 rcases this with rfl|rfl|rfl<;>simp[Array.getD,hs]
variable {H:A8 CO}{xs:A8 Ag}
def aei (h:Gz ok w H xs vs)(n:Nat):Gz ok w H (xs.take n) (vs.take n):=by
 refine⟨by rw[H6,H6,h.1],λi hi=>?_⟩;rw[H6]at hi;have :=h.2 i AL;rw[uZ,uZ]at this ⊢;rw[TI AL,TI AL];exact this
def abL (h:Gz ok w H xs vs)(n:Nat):Gz ok w H (xs.drop n) (vs.drop n):=by
 refine⟨by rw[Ld,Ld,h.1],λi hi=>?_⟩;rw[Ld]at hi;have :=h.2 (n+i) AL;rw[uZ,uZ]at this ⊢;rw[Vd,Vd];exact this
def aPV (h:Gz ok w H xs vs):∀u∈vs,u.oneCell'=true:=λu j=>by
 obtain⟨i,hi,rfl⟩:=G8 j;have h2:=h.2 i (by rw[←h.1];exact hi);have :=h2.2.leaf h2.1
 rwa [uZ,ES hi]at this
def aM1 {size:Nat}:∀{es:A8 D} (i:Nat),(∀x∈es,x.cells.length=size)->flat (es.take i)=(flat es).take (i*size)
 | [],i,_=>VO
 |x::l,0,_=>VO
 |x::l,i+1,h=>by
  have j:(x.cells.map Ag.d).length=size:=by rw[Df];exact h x (Gt ..)
  rw[List.take_succ_cons,XH,XH,aM1 i λy q=>h y (IZ _ q),gu,a2L,WQ,←j,List.take_length_add_append]
def aVz {size:Nat}:∀{es:A8 D} (i:Nat),(∀x∈es,x.cells.length=size)->flat (es.drop i)=(flat es).drop (i*size)
 | [],i,_=>VO
 |x::l,0,_=>VO
 |x::l,i+1,h=>by
  have j:(x.cells.map Ag.d).length=size:=by rw[Df];exact h x (Gt ..)
  rw[List.drop_succ_cons,XH,aVz i λy q=>h y (IZ _ q),gu,a2L,WQ,←j,List.drop_length_add_append]
def Dz.kill {C:FC}(hm:Dz C ok H es w)(k:Nat):Dz C ok H (es.set k .dead) w:=
 (hm.change (ok':=ok) (H':=H) (w':=w) (es':=es.set k .dead) (λ_=>False) rfl rfl rfl (Eb _) (λ_ _ _=>rfl) (λ_ h=>h.elim) (λ_ h=>h) (λ_ h=>.inl h) (.refl _) (by simpa using hm.hlen) (by
  intro j e' h' q u;by_cases z:k=j
  ·subst z;rw[List.getElem?_set]at q;simp only[KP]at q;split at q
   ·cases q;exact .inr ⟨trivial,λh=>Gv⟩
   cases q
  rw[bT z]at q
  exact .inl ⟨q,u,λ_ _ _ h=>h⟩)).1
variable {α:Type}
def a5n (l:A8 α)(i:Int)(m:A8 α):AB (A8 α):=match m with
 | [x]=>if(0<=i/\i<=(l.length:Int))/\l.length<=34359738368 then some (l.take i.toNat++x::l.drop i.toNat)else none
 |_=>none
def ayG {e:α->D}(hk:∀x,(e x).cells.length=29)(l:A8 α)(q:Int)(m r:A8 α)(h:a5n l q m=some r):
 E9 140 [.aS 0,.d (Ac q),.aS 1] [.arr 38 29 (l.map e),.arr 38 29 (m.map e)] (.aS 2) [.dead,.dead,.arr 38 29 (r.map e)]:=by
 unfold a5n at h;split at h
 case h_2=>cases h
 rename_i x;split at h
 case isFalse=>cases h
 rename_i hc;obtain⟨⟨hq0,hql⟩,hb⟩:=hc;obtain rfl:=E5 h;obtain⟨i,rfl⟩:∃i:Nat,q=i:=⟨q.toNat,AL⟩
 have hi:i<=l.length:=AL
 rw[XI];intro ok X H w L hm hs ha;have h0:=ha 0 Bf;have hq:=ha 1 Bf;have h2:=ha 2 Bf;rw[amv hs];obtain⟨hd,hh,hok⟩:=Hr hm.ent hm.hlen (k:=0) rfl;obtain⟨M,O,U⟩:=Hr hm.ent hm.hlen (k:=1) rfl;obtain hv:=Qg h0 hh;obtain hv1:=Qg h2 O
 have hq':L.getD 1 undef=.int .i64 i:=by
  simp only[List.getD,lV,fA,Nz]at hq;cases hq with |d _ _ hq=>exact EN.SC hq
 rw[hv,hv1,hq'];obtain⟨hz,Y,xs,Z,J⟩:=hok;obtain⟨hz1,aRF,news,u,I⟩:=U;rw[Df]at Z
 obtain⟨g1,c1,hg1⟩:∃g1 c1,M.v=.slice (some ⟨g1,0,none⟩) 1 c1:=by
  rcases u.2 with⟨_,h⟩|⟨g,cap,cur,h,_⟩
  ·cases h
  exact⟨g,cap,h⟩
 have hne:EF hd.v≠some g1:=λhb=>by
  have :=hm.Jk 0 1 _ _ hd M g1 rfl rfl rfl rfl hh O hb (by rw[hg1];rfl);cases this
 rw[hg1]at u ⊢;refine(aZ8 hi Z (aPV J) u (aPV I) hne AL).mono ?_;rintro y w' ⟨v',rfl,j,ht,hblk⟩;have hlen:l.length+1=((l.take i++x::l.drop i).map e).length:=Ej
 rw[hlen]at j
 have hfl:flat ((l.take i++x::l.drop i).map e)=(flat (l.map e)).take (i*29)++flat ([x].map e)++(flat (l.map e)).drop (i*29):=by
  rw[←aM1 i Y,←aVz i Y,←qJ,←qJ,JY,Gs,aV,iy,JU];rfl
 have hg:=hm.turn (e:=.arr 38 29 ((l.take i++x::l.drop i).map e)) (h':=⟨v',29⟩) (w':=w') (k:=0) rfl rfl hh ht.os ht.tape ht.output ht.size ht.block (λg hg=>⟨a09 j hg,hblk g hg⟩) (λhgr=>⟨rfl,λy hy=>by
  obtain⟨z,_,rfl⟩:=Ez.1 hy
  exact hk z,_,j,by rw[hfl];exact(a3j (a3j (aei J _) I) (abL J _)).mono hgr (.push _ _)⟩)
 refine⟨v',ok,H++[⟨v',29⟩],rfl,hg.1.kill 1,?_⟩;have hl:H.length=2:=hm.hlen;have hr:(H++[(⟨v',29⟩:CO)])[2]? =some ⟨v',29⟩:=by rw[←hl];simp
 rcases j.2 with⟨rfl,_⟩|⟨g,cap,cur,rfl,_⟩
 ·exact .aS 2 _ _ _ 29 hr
 exact .aS 2 _ _ _ 29 hr
end Go.Proofs.YtfmoknlmaldmlaaGreat
namespace Go.Proofs.YtfmoknlmaldmlaaGreat
open Go.RowKit Go.Proofs.Tryz
variable {α:Type}
def cu (j:Nat)(n:Int):AB (A8 α):=if 0<=n/\n*j<=140737488355328 then some []else none
def agl (w:Ba)(n:Nat)(hb:n*376<=140737488355328):
 Calls Au 230 #[.slice none 0 0,.int .i64 n] w λe w'=>(e=.returned (.slice none 0 0)/\w'=w)\/∃G ROW,e=.returned (.slice (some ⟨w.heap.size,0,none⟩) 0 G)/\G<=maxLen/\ROW.size=G*29/\w'=w.drew.alloc (.cells ROW 38):=by
 have hE:GV Au 22 38 29 376:=KH AA;obtain⟨Z,z0,I,J,hzs,L,M⟩:=hE.info;have mixed:Au.follows .mixedOrders=true:=AA
 rcases Ux n with O|O
 ·subst O;refine Calls.mono ?_ (λe w' h=>Or.inl h)
  go_enter func230,Tryz.ntmps230
  go_wp2
  go_ret
  exact⟨rfl,rfl⟩
 refine Calls.mono ?_ (λe w' h=>Or.inr h);have U:n<=grownCap w n 0 38:=a0F w _ _ _;have u:=a7s w n 0 38 nK
 have q:∀ty,(Builtin.append_ #[22,3] ty #[.slice none 0 0,.int .i64 (n:Int)]).run Au w=.ok (.slice (some ⟨w.heap.size,0,none⟩) n (grownCap w n 0 38)) (w.drew.alloc (.cells (Builtin.zeroCells z0.cells n++Builtin.zeroCells z0.cells (grownCap w n 0 38-n)) 38)):=λty=>
  Lib.run_append_nil_zeros w 22 3 ty 38 Z z0 .i64 .i64 hE.und AA I J n O AL AL (by rw[L];omega)
 obtain⟨G,Y⟩:∃G,G=grownCap w n 0 38:=⟨_,rfl⟩
 obtain⟨ROW,j⟩:∃ROW:Bh BI,ROW=Builtin.zeroCells z0.cells n++Builtin.zeroCells z0.cells (G-n):=⟨_,rfl⟩
 rw[←Y]at q U u;rw[←j]at q
 have z:ROW.size=G*29:=by
  rw[j];simp[Builtin.zeroCells,M];omega
 have hp1:¬((n:Int)<0):=AL
 have hp2:(n:Int)>0:=AL
 have hw1:Aw ((n:Int)-0)=(n:Int):=Oj
 have hw2:Aw (n:Int)=(n:Int):=Oj
 have hc0:(0:Int)<=(G:Int):=AL
 clear Y j
 go_enter func230,Tryz.ntmps230
 go_wp2_with (first
  |(at_builtin;refine a0u _ rfl _ _ _ _ rfl _ _ rfl rfl _ _ (q _) ?_))
 go_ret
 exact⟨G,rfl,u,ROW,by first|exact z|simpa using z,rfl⟩
def akZ (e:α->D)(q:Int)(r:A8 α)(h:cu 376 q=some r):E9 230 [.d (.lit (.slice none 0 0)),.d (Ac q)] [] (.aS 0) [.arr 38 29 (r.map e)]:=by
 unfold cu at h;split at h
 case isFalse=>cases h
 rename_i Z;obtain rfl:=E5 h;obtain⟨n,rfl⟩:∃n:Nat,q=n:=⟨q.toNat,AL⟩
 intro ok X H w j hm hs ha;have z:=ha 0 Bf;have h1:=ha 1 Bf
 have I:j.getD 0 undef=.slice none 0 0:=by
  simp only[List.getD,fA,Nz]at z;cases z with |d _ _ u=>exact EN.SC u
 have J:j.getD 1 undef=.int .i64 n:=by
  simp only[List.getD,lV,fA,Nz]at h1;cases h1 with |d _ _ u=>exact EN.SC u
 have L:j= #[.slice none 0 0,.int .i64 n]:=by
  rw[←I,←J];exact aF9 hs
 rw[L];have M:H.length=0:=hm.hlen;obtain rfl:H=[]:=Ho M;refine(agl w n AL).mono ?_;rintro y w' (⟨rfl,rfl⟩|⟨G,ROW,rfl,hG,hR,rfl⟩)
 ·obtain⟨h2,h3⟩:=yu hm 38 29;exact⟨_,ok,[]++[⟨.slice none 0 0,29⟩],rfl,h2,.aS 0 none 0 0 29 rfl⟩
 obtain⟨O,d2⟩:=hm.drew
 have h2:=O.push (.cells ROW 38) ⟨.slice (some ⟨w.heap.size,0,none⟩) 0 G,29⟩ (.arr 38 29 []) (λb U=>by
  have :w.heap.size=b:=E5 U
  exact this.symm) ⟨rfl,λx Y=>absurd Y G7,[],⟨rfl,.inr ⟨w.heap.size,G,ROW,rfl,F7 _,VZ w.drew _,F7 _,hG,QJ hR.symm,rfl⟩⟩,rfl,λi hi=>absurd hi (gQ _)⟩
 exact⟨_,ok,[]++[⟨.slice (some ⟨w.heap.size,0,none⟩) 0 G,29⟩],rfl,h2.1,.aS 0 _ 0 _ 29 rfl⟩
def ai6 (w:Ba)(n:Nat)(hb:n*8<=140737488355328):
 Calls Au 256 #[.slice none 0 0,.int .i64 n] w λe w'=>(e=.returned (.slice none 0 0)/\w'=w)\/∃G ROW,e=.returned (.slice (some ⟨w.heap.size,0,none⟩) 0 G)/\G<=maxLen/\ROW.size=G*1/\w'=w.drew.alloc (.cells ROW 3):=by
 have hE:GV Au 27 3 1 8:=KH AA;obtain⟨Z,z0,I,J,hzs,L,M⟩:=hE.info;have mixed:Au.follows .mixedOrders=true:=AA
 rcases Ux n with O|O
 ·subst O;refine Calls.mono ?_ (λe w' h=>Or.inl h)
  go_enter func256,Tryz.ntmps256
  go_wp2
  go_ret
  exact⟨rfl,rfl⟩
 refine Calls.mono ?_ (λe w' h=>Or.inr h);have U:n<=grownCap w n 0 3:=a0F w _ _ _;have u:=a7s w n 0 3 nK
 have q:∀ty,(Builtin.append_ #[27,3] ty #[.slice none 0 0,.int .i64 (n:Int)]).run Au w=.ok (.slice (some ⟨w.heap.size,0,none⟩) n (grownCap w n 0 3)) (w.drew.alloc (.cells (Builtin.zeroCells z0.cells n++Builtin.zeroCells z0.cells (grownCap w n 0 3-n)) 3)):=λty=>
  Lib.run_append_nil_zeros w 27 3 ty 3 Z z0 .i64 .i64 hE.und AA I J n O AL AL (by rw[L];omega)
 obtain⟨G,Y⟩:∃G,G=grownCap w n 0 3:=⟨_,rfl⟩
 obtain⟨ROW,j⟩:∃ROW:Bh BI,ROW=Builtin.zeroCells z0.cells n++Builtin.zeroCells z0.cells (G-n):=⟨_,rfl⟩
 rw[←Y]at q U u;rw[←j]at q
 have z:ROW.size=G*1:=by
  rw[j];simp[Builtin.zeroCells,M];omega
 have hp1:¬((n:Int)<0):=AL
 have hp2:(n:Int)>0:=AL
 have hw1:Aw ((n:Int)-0)=(n:Int):=Oj
 have hw2:Aw (n:Int)=(n:Int):=Oj
 have hc0:(0:Int)<=(G:Int):=AL
 clear Y j
 go_enter func256,Tryz.ntmps256
 go_wp2_with (first
  |(at_builtin;refine a0u _ rfl _ _ _ _ rfl _ _ rfl rfl _ _ (q _) ?_))
 go_ret
 exact⟨G,rfl,u,ROW,by first|exact z|simpa using z,rfl⟩
def aYD (e:α->D)(q:Int)(r:A8 α)(h:cu 8 q=some r):E9 256 [.d (.lit (.slice none 0 0)),.d (Ac q)] [] (.aS 0) [.arr 3 1 (r.map e)]:=by
 unfold cu at h;split at h
 case isFalse=>cases h
 rename_i Z;obtain rfl:=E5 h;obtain⟨n,rfl⟩:∃n:Nat,q=n:=⟨q.toNat,AL⟩
 intro ok X H w j hm hs ha;have z:=ha 0 Bf;have h1:=ha 1 Bf
 have I:j.getD 0 undef=.slice none 0 0:=by
  simp only[List.getD,fA,Nz]at z;cases z with |d _ _ u=>exact EN.SC u
 have J:j.getD 1 undef=.int .i64 n:=by
  simp only[List.getD,lV,fA,Nz]at h1;cases h1 with |d _ _ u=>exact EN.SC u
 have L:j= #[.slice none 0 0,.int .i64 n]:=by
  rw[←I,←J];exact aF9 hs
 rw[L];have M:H.length=0:=hm.hlen;obtain rfl:H=[]:=Ho M;refine(ai6 w n AL).mono ?_;rintro y w' (⟨rfl,rfl⟩|⟨G,ROW,rfl,hG,hR,rfl⟩)
 ·obtain⟨h2,h3⟩:=yu hm 3 1;exact⟨_,ok,[]++[⟨.slice none 0 0,1⟩],rfl,h2,.aS 0 none 0 0 1 rfl⟩
 obtain⟨O,d2⟩:=hm.drew
 have h2:=O.push (.cells ROW 3) ⟨.slice (some ⟨w.heap.size,0,none⟩) 0 G,1⟩ (.arr 3 1 []) (λb U=>by
  have :w.heap.size=b:=E5 U
  exact this.symm) ⟨rfl,λx Y=>absurd Y G7,[],⟨rfl,.inr ⟨w.heap.size,G,ROW,rfl,F7 _,VZ w.drew _,F7 _,hG,QJ hR.symm,rfl⟩⟩,rfl,λi hi=>absurd hi (gQ _)⟩
 exact⟨_,ok,[]++[⟨.slice (some ⟨w.heap.size,0,none⟩) 0 G,1⟩],rfl,h2.1,.aS 0 _ 0 _ 1 rfl⟩
section
variable {P:Cm}
def ak6 (ops:Bh Oper)(σ:BQ)(i:Nat):BQ:=match ops[i]? with
 |some o=>match o.op with
  | .move x=>σ.tV o.dst (σ.get x)
  | .assign x=>σ.tV o.dst (σ.get x)
  |_=>σ
 |none=>σ
def as5 (ops:Bh Oper)(σ:BQ)(sl:A8 Nat):BQ:=sl.foldl (ak6 ops) σ
end
variable {P:Cm}
def lQ {o:Oper}{es:A8 Bd}{t:Bz}{k:Nat}(j:o.op=.makeMap t none:=by exact rfl)(q:es.length=k:=by kernel_rfl):CM P o [] es (.mp k) (es++[.map []]):=q▸akl j
def a1U (P:Cm)(c:Code)(Q:Exit->BQ->Prop):Nat->BQ->Prop
 |0,_=>False
 |m+1,σ=>Bq P c σ (Js (a1U P c Q m) Q)
variable {Q:Exit->BQ->Prop}{c:Code}{σ:BQ}
def wX {m:Nat}(h:Bq P c σ (Js (a1U P c Q m) Q)):a1U P c Q (m+1) σ:=h
def Bq.rounds (m:Nat)(h:a1U P c Q m σ):Bq P (.loop c) σ Q:=by
 refine⟨λro j C ok H a w q=>wpIn_loop_rounds m ?_⟩
 induction m generalizing σ ok H a w with
 |zero=>exact h.elim
 |succ m u=>
  rw[roundsIn_succ];refine Ui (h.run ro j C ok H a w q) ?_;rintro e a' w' ⟨ok',H',σ',h1,h2⟩;cases e with
  |normal=>exact u h2 ok' H' a' w' h1
  |_=>exact⟨ok',H',σ',h1,h2⟩
variable {E E':A8 Bd}{ats:Bh Bz}{fB:A8 Ag}{j res':Ag}{ops:Bh CB}{x:CB}
section
variable {P:Cm} {o:Oper} {es:A8 Bd}
def Jo {f:FuncId}(eH:A8 Ag)(q:Ee P f fB [] j E')(u:o.op=.call { callee:=.value (.func f),args:=ops,argTypes:=ats }:=by exact rfl)(z:I7 P f=true:=by kernel_rfl)(I:E'.all Bd.closed=true:=by kernel_rfl)(ha:OA [] eH fB:=by repeat (first|exact trivial|refine⟨.inl rfl,?_⟩|refine⟨.inr (.inr ⟨rfl,rfl⟩),?_⟩))(hl:ops.toList.length=eH.length:=by kernel_rfl)(J:j.up [] es.length=res':=by kernel_rfl):CM P o (GH ops.toList eH) es res' (es++E'):=aE3 q z I ha hl J u
def aRZ {f:FuncId}(eH:A8 Ag)(q:Ee P f fB [] j [])(u:o.op=.call { callee:=.value (.func f),args:=ops,argTypes:=ats }:=by exact rfl)(z:I7 P f=true:=by kernel_rfl)(ha:OA [] eH fB:=by repeat (first|exact trivial|refine⟨.inl rfl,?_⟩|refine⟨.inr (.inr ⟨rfl,rfl⟩),?_⟩))(hl:ops.toList.length=eH.length:=by kernel_rfl)(I:j.up [] es.length=res':=by kernel_rfl):CM P o (GH ops.toList eH) es res' es:=aTY q z ha hl I u
def EL {f:FuncId}(srcs:A8 EW)(eH:A8 Ag)(q:Ee P f fB E j E')(u:o.op=.call { callee:=.value (.func f),args:=ops,argTypes:=ats }:=by exact rfl)(z:I7 P f=true:=by kernel_rfl)(I:U9 srcs es E E'=true:=by kernel_rfl)(hE:Rs srcs es srcs E:=by first|exact trivial|exact Ns AA trivial)(ha:OA srcs eH fB:=by repeat (first|exact trivial|refine⟨.inl rfl,?_⟩|refine⟨⟨0,rfl,rfl⟩,?_⟩|refine⟨⟨1,rfl,rfl⟩,?_⟩|refine⟨⟨2,rfl,rfl⟩,?_⟩|refine⟨.inr (.inr ⟨rfl,rfl⟩),?_⟩))(hl:ops.toList.length=eH.length:=by kernel_rfl)(J:res'=j.up srcs es.length:=by kernel_rfl):CM P o (GH ops.toList eH) es res' (Nh srcs es E'):=aNI srcs q z I hE ha hl J u
def er {f:FuncId}(srcs:A8 EW)(fi ca eH:A8 Ag)(q:Ee P f fB E j E')(u:o.op=.call { callee:=.value x,args:=ops,argTypes:=ats }:=by exact rfl)(z:I7 P f=true:=by kernel_rfl)(I:U9 srcs es E E'=true:=by kernel_rfl)(hE:Rs srcs es srcs E:=by first|exact trivial|exact Ns AA trivial)(ha:OA srcs (fi++eH++ca) fB:=by repeat (first|exact trivial|refine⟨.inl rfl,?_⟩|refine⟨⟨0,rfl,rfl⟩,?_⟩|refine⟨⟨1,rfl,rfl⟩,?_⟩|refine⟨⟨2,rfl,rfl⟩,?_⟩|refine⟨.inr (.inr ⟨rfl,rfl⟩),?_⟩))(hl:ops.toList.length=eH.length:=by kernel_rfl)(J:res'=j.up srcs es.length:=by kernel_rfl):CM P o ((x,.fn (.func f) fi ca)::GH ops.toList eH) es res' (Nh srcs es E'):=aXd srcs fi ca q z I hE ha hl J u
def aPD {f:FuncId}(srcs:A8 EW)(fi ca:A8 D)(eH:A8 Ag)(q:Ee P f fB E j E')(u:o.op=.call { callee:=.value x,args:=ops,argTypes:=ats }:=by exact rfl)(z:I7 P f=true:=by kernel_rfl)(I:U9 srcs es E E'=true:=by kernel_rfl)(hE:Rs srcs es srcs E:=by first|exact trivial|exact Ns AA trivial)(ha:OA srcs (fi.map .d++eH++ca.map .d) fB:=by repeat (first|exact trivial|refine⟨.inl rfl,?_⟩|refine⟨⟨0,rfl,rfl⟩,?_⟩|refine⟨⟨1,rfl,rfl⟩,?_⟩|refine⟨⟨2,rfl,rfl⟩,?_⟩|refine⟨.inr (.inr ⟨rfl,rfl⟩),?_⟩))(hl:ops.toList.length=eH.length:=by kernel_rfl)(J:res'=j.up srcs es.length:=by kernel_rfl):CM P o ((x,.d (.fn (.func f) fi ca))::GH ops.toList eH) es res' (Nh srcs es E'):=alO srcs fi ca q z I hE ha hl J u
end
variable {eH:A8 Ag}
section
variable {P:Cm} {ops:Bh Oper} {o:Oper} {rest l:A8 Oper} {σ:BQ} {K:Exit->BQ->Prop}
def Dq.ca {f:FuncId}(q:Ee P f eH [] j [])(k:Dq P ops rest (σ.tV o.dst (j.up [] σ.ents.length)) K)(u:I7 P f=true:=by kernel_rfl)(z:WS σ o=some (f,eH):=by kernel_rfl)(hd:eH.all Ag.CX=true:=by kernel_rfl)(I:LC ops σ o.guard=some true:=by kernel_rfl):Dq P ops (o::rest) σ K:=.call q u k z hd I
def Fp.ca {σ':BQ}{f:FuncId}{rs:A8 Ag}{ess:A8 (A8 Bd)}{bs:A8 AX}(q:Ee P f eH [] j [])(k:Fp P ops rest (σ.tV o.dst (j.up [] σ.ents.length)) rs ess bs σ')(u:I7 P f=true:=by kernel_rfl)(z:WS σ o=some (f,eH):=by kernel_rfl)(hd:eH.all Ag.CX=true:=by kernel_rfl)(I:LC ops σ o.guard=some true:=by kernel_rfl):Fp P ops (o::rest) σ (j.up [] σ.ents.length::rs) (σ.ents::ess) (false::bs) σ':=.call q u k z hd I
end
variable {A:Type}{M:BQ->Prop}{b:AX}{ns:A8 (CB×Ag)}{x:Ag}{u v z:A}
section
variable {P:Cm} {ops:Bh Oper} {o:Oper} {rest l:A8 Oper} {σ:BQ} {K:Exit->BQ->Prop}
def Dq.aW [T:Kn P](k:M (OL (Gj T ops l.length l σ)))(h:(Gj T ops l.length l σ).isSome=true:=by kernel_rfl):Dq P ops l σ (Js M K):=.aM l.length k rfl h
def Dq.Z [T:Kn P](h:CM P o ns σ.ents x σ.ents)(k:M (OL (Gj T ops rest.length rest (σ.tV o.dst x))))(j:(ns.map λn=>σ.get n.1)=ns.map (·.2):=by kernel_rfl)(q:LC ops σ o.guard=some true:=by kernel_rfl)(u:(Oh ns).all (tmpsOf o).contains=true:=by kernel_rfl)(hh:(Gj T ops rest.length rest (σ.tV o.dst x)).isSome=true:=by kernel_rfl):Dq P ops (o::rest) σ (Js M K):=Dq.p h (Dq.aW k hh) j q u
def Dq.Y [T:Kn P]{es':A8 Bd}(h:CM P o ns σ.ents x es')(k:M (OL (Gj T ops rest.length rest (σ.put o.dst x es'))))(j:(ns.map λn=>σ.get n.1)=ns.map (·.2):=by kernel_rfl)(q:LC ops σ o.guard=some true:=by kernel_rfl)(u:(Oh ns).all (tmpsOf o).contains=true:=by kernel_rfl)(hh:(Gj T ops rest.length rest (σ.put o.dst x es')).isSome=true:=by kernel_rfl):Dq P ops (o::rest) σ (Js M K):=Dq.f h (Dq.aW k hh) j q u
def Dq.X [T:Kn P]{f:FuncId}(q:Ee P f eH [] j [])(k:M (OL (Gj T ops rest.length rest (σ.tV o.dst (j.up [] σ.ents.length)))))(u:I7 P f=true:=by kernel_rfl)(z:WS σ o=some (f,eH):=by kernel_rfl)(hd:eH.all Ag.CX=true:=by kernel_rfl)(I:LC ops σ o.guard=some true:=by kernel_rfl)(hh:(Gj T ops rest.length rest (σ.tV o.dst (j.up [] σ.ents.length))).isSome=true:=by kernel_rfl):Dq P ops (o::rest) σ (Js M K):=Dq.ca q (Dq.aW k hh) u z hd I
def Dq.bi [T:Kn P](h:(bif b then u else v)=z)(j:u=z->Dq P ops rest (σ.tV o.dst (.d (.lit (.bool true)))) K:=by exact λh=>.aW<|D9)(k2:v=z->Dq P ops rest (σ.tV o.dst (.d (.lit (.bool false)))) K:=by exact λh=>.aW<|D9)(hs:(YM T ops σ o).map (λr=>(r.x,r.E,r.bar))=some (.d (.lit (.bool b)),σ.ents,false):=by kernel_rfl):Dq P ops (o::rest) σ K:=EU h (λe h=>.c (BG some e) (j h) hs) λe h=>.c (BG some e) (k2 h) hs
def DU {G:Prop}(h:(bif b then u else v)=z)(j:b=true->u=z->G:=by exact λe i=>aTs)(k2:b=false->v=z->G:=by exact λe i=>aTs):G:=EU h j k2
def AZ [T:Kn P]{id:Nat}{y:Code}(k:Bq P y (OL (Gj T ops ops.toList.length ops.toList σ)) Q)(h:(Gj T ops ops.toList.length ops.toList σ).isSome=true:=by kernel_rfl):Bq P (.seq (.region id ops false) y) σ Q:=BP (.aW k h)
end
section
variable {P:Cm} {ops:Bh Oper} {l:A8 Oper} {σ:BQ} {K:Exit->BQ->Prop}
def Dq.mg (a c:Nat)(x:Ag)(h1:Dq P ops (l.take (c+1)) σ (Js (λs=>s.wipe (List.range' a c)=(σ.wipe (List.range' a c)).tV (some (a+c)) x) K))(h2:Dq P ops (l.drop (c+1)) ((σ.wipe (List.range' a c)).tV (some (a+c)) x) K):Dq P ops l σ K:=.merge (c+1) (List.range' a c) (a+c) x h1 h2
end
variable {β:Type}{g:α->AB (Except BI β)}{r:Except BI β}
def PI {y:α}(h:NC (.ok y) g=some r):g y=some r:=h
def Pm {u:BI}(h:NC (.error u) g=some r):some (.error u)=some r:=h
def Ce :BO:=⟨#[]⟩
def pG (k:IntKind)(n:Int):D:=.lit (.int k n)
def aGy :BO:=⟨#[33,114,58,97]⟩
def uQ :BO:=⟨#[58]⟩
def a5q :BO:=⟨#[33]⟩
def a7P :BO:=⟨#[64]⟩
def aAw :BO:=⟨#[64,33]⟩
def Jg :BO:=⟨#[84,101,120,116]⟩
def KO :BO:=⟨#[78]⟩
def NS :BO:=⟨#[86,105,97]⟩
def NY :BO:=⟨#[76,101,118,101,108,115]⟩
def ML :BO:=⟨#[65,108,108,111,119]⟩
def Nr :BO:=⟨#[68,101,110,121]⟩
def KG :BO:=⟨#[84,97,114,103,101,116]⟩
def Nk :BO:=⟨#[84,104,114,101,97,100]⟩
def aJ0 :BO:=⟨#[64,117,58,97]⟩
def aQ5 :BO:=⟨#[97]⟩
def Ep :BI:=.int .i64 0
def EZ :BI:=.string Ce
def I9 :BI:=.slice none 0 0
def a7x :BI:=.agg #[I9,I9,Ep,Ep,Ep,Ep,Ep,Ep,Ep]
def a6d :BI:=.agg #[EZ,Ep,Ep,.bool false,EZ,I9,I9,I9,I9,Ep,Ep,Ep,Ep,Ep,Ep,Ep]
def a4n :BI:=.agg #[EZ,Ep]
def a2h :BI:=.agg #[Ep,EZ,EZ,Ep,.bool false,EZ,Ep,Ep,I9,I9,EZ,Ep,Ep,.bool false,EZ,I9,I9,I9,I9,Ep,Ep,Ep,Ep,Ep,Ep,Ep,Ep,EZ,Ep]
def a5f :BI:=.agg #[EZ,I9,I9,I9,I9,I9,Ep,I9,I9]
def a5C :BI:=.agg #[Ep,Ep,Ep,.bool false]
def a6p :BI:=.agg #[Ep,EZ,Ep]
def a7z :BI:=.agg #[Ep,.nilFunc]
def a6I :BI:=.agg #[.map none,.map none,.map none]
def aAT :BI:=.agg #[EZ,Ep]
def a4B :BI:=.agg #[Ep,I9,I9,Ep]
def a3O :BI:=.agg #[I9]
def aPK :BI:=.agg #[Ep,Ep]
def a4R :BI:=.agg #[Ep,Ep,Ep,Ep,Ep,Ep,Ep]
def aQg :BI:=.agg #[I9,I9,I9]
def a4d :BI:=.agg #[Ep,Ep]
def a2I :BI:=.agg #[Ep]
def a3T :BI:=.agg #[Ep,.nilFunc]
def aQO :BI:=.agg #[I9,I9,I9,I9,I9]
def a6h :BI:=.agg #[]
def a1O :BI:=.agg #[I9]
def a3g :BI:=.agg #[Ep,Ep,Ep,Ep,Ep]
def a1L :BI:=.agg #[I9,I9]
def a7C :BI:=.agg #[I9,I9]
def a8e :BI:=.agg #[Ep,EZ]
def a5P :BI:=.agg #[]
def aB8 :BI:=.agg #[Ep,Ep,Ep,I9]
def a1t :BI:=.agg #[Ep,Ep,Ep]
structure IQ where
 User:ByteArray
 N:Int
def FB (x:IQ):D:=.agg [DX x.User,Ac x.N]
def akW :IQ:=⟨Ce,0⟩
instance : Inhabited IQ:=⟨akW⟩
structure Jr where
 Kind:Int
 N:Int
def FD (x:Jr):D:=.agg [Ac x.Kind,Ac x.N]
def al0 :Jr:=⟨0,0⟩
instance : Inhabited Jr:=⟨al0⟩
structure Cx where
 Users:(List IQ)
 Kinds:(List Jr)
 User:Int
 Message:Int
 State:Int
 gW:Int
 kS:Int
 oN:Int
 iq:Int
def FN (x:Cx):D:=.agg [(BZ FB) x.Users,(BZ FD) x.Kinds,Ac x.User,Ac x.Message,Ac x.State,Ac x.gW,Ac x.kS,Ac x.oN,Ac x.iq]
def KU :Cx:=⟨[],[],0,0,0,0,0,0,0⟩
instance : Inhabited Cx:=⟨KU⟩
structure D8 where
 Text:ByteArray
 N:Int
 Target:Int
 Thread:Bool
 Via:ByteArray
 Allow:(List ByteArray)
 iK:(List ByteArray)
 Levels:Cx
def GN (x:D8):D:=.agg [DX x.Text,Ac x.N,Ac x.Target,EC x.Thread,DX x.Via,(BZ DX) x.Allow,(BZ DX) x.iK,(BZ FB) x.Levels.Users,(BZ FD) x.Levels.Kinds,Ac x.Levels.User,Ac x.Levels.Message,Ac x.Levels.State,Ac x.Levels.gW,Ac x.Levels.kS,Ac x.Levels.oN,Ac x.Levels.iq]
def Eu :D8:=⟨Ce,0,0,false,Ce,[],[],KU⟩
instance : Inhabited D8:=⟨Eu⟩
structure PW where
 Server:ByteArray
 Sum:Int
def af0 (x:PW):D:=.agg [DX x.Server,Ac x.Sum]
def iM :PW:=⟨Ce,0⟩
instance : Inhabited PW:=⟨iM⟩
structure AQ where
 Id:Int
 Room:ByteArray
 bQ:ByteArray
 Kind:Int
 State:Bool
 Key:ByteArray
 Time:Int
 Depth:Int
 bH:(List Int)
 bJ:(List Int)
 Content:D8
 Hash:Int
 rV:PW
def BF (x:AQ):D:=.agg [Ac x.Id,DX x.Room,DX x.bQ,Ac x.Kind,EC x.State,DX x.Key,Ac x.Time,Ac x.Depth,(BZ Ac) x.bH,(BZ Ac) x.bJ,DX x.Content.Text,Ac x.Content.N,Ac x.Content.Target,EC x.Content.Thread,DX x.Content.Via,(BZ DX) x.Content.Allow,(BZ DX) x.Content.iK,(BZ FB) x.Content.Levels.Users,(BZ FD) x.Content.Levels.Kinds,Ac x.Content.Levels.User,Ac x.Content.Levels.Message,Ac x.Content.Levels.State,Ac x.Content.Levels.gW,Ac x.Content.Levels.kS,Ac x.Content.Levels.oN,Ac x.Content.Levels.iq,Ac x.Hash,DX x.rV.Server,Ac x.rV.Sum]
def Fj :AQ:=⟨0,Ce,Ce,0,false,Ce,0,0,[],[],Eu,0,iM⟩
instance : Inhabited AQ:=⟨Fj⟩
structure FZ where
 Pos:Int
 Id:Int
 Status:Int
 Gone:Bool
def Em (x:FZ):D:=.agg [Ac x.Pos,Ac x.Id,Ac x.Status,EC x.Gone]
def KW :FZ:=⟨0,0,0,false⟩
instance : Inhabited FZ:=⟨KW⟩
structure BL where
 Kind:Int
 Key:ByteArray
 Id:Int
def BX (x:BL):D:=.agg [Ac x.Kind,DX x.Key,Ac x.Id]
def akI :BL:=⟨0,Ce,0⟩
instance : Inhabited BL:=⟨akI⟩
structure nJ where
 User:ByteArray
 Thread:Int
 Id:Int
 Time:Int
def aFM (x:nJ):D:=.agg [DX x.User,Ac x.Thread,Ac x.Id,Ac x.Time]
def aew :nJ:=⟨Ce,0,0,0⟩
instance : Inhabited nJ:=⟨aew⟩
structure nD where
 User:ByteArray
 Until:Int
def aCz (x:nD):D:=.agg [DX x.User,Ac x.Until]
def ae5 :nD:=⟨Ce,0⟩
instance : Inhabited nD:=⟨ae5⟩
structure C9 where
 Id:ByteArray
 Events:(List AQ)
 Rows:(List FZ)
 Waiting:(List AQ)
 vY:(List Int)
 State:(List BL)
 Next:Int
 uI:(List nJ)
 BM:(List nD)
def Cb (x:C9):D:=.agg [DX x.Id,(BZ BF) x.Events,(BZ Em) x.Rows,(BZ BF) x.Waiting,(BZ Ac) x.vY,(BZ BX) x.State,Ac x.Next,(BZ aFM) x.uI,(BZ aCz) x.BM]
def O1 :C9:=⟨Ce,[],[],[],[],[],0,[],[]⟩
instance : Inhabited C9:=⟨O1⟩
structure Pq where
 aFe:Int
 aDB:Nat
def WT (x:Pq):D:=.agg [Ac x.aFe,aUn x.aDB]
def ajQ :Pq:=⟨0,0⟩
instance : Inhabited Pq:=⟨ajQ⟩
structure G5 where
 b_:(List Int)
def NG (x:G5):D:=.agg [(BZ Dn) x.b_]
def aJc :G5:=⟨[]⟩
instance : Inhabited G5:=⟨aJc⟩
structure U2 where
 pV:Int
 nR:Int
def KY (x:U2):D:=.agg [Ac x.pV,Ac x.nR]
def a1E :U2:=⟨0,0⟩
instance : Inhabited U2:=⟨a1E⟩
structure pU where
 apE:Int
def abJ :pU:=⟨0⟩
instance : Inhabited pU:=⟨abJ⟩
structure ZF where
def zW (x:ZF):D:=.agg []
def aZR :ZF:=⟨⟩
instance : Inhabited ZF:=⟨aZR⟩
structure PX where
 Iq:(List BL)
 ams:(List Int)
 awm:(List Int)
def jK (x:PX):D:=.agg [(BZ BX) x.Iq,(BZ Ac) x.ams,(BZ Ac) x.awm]
def aBW :PX:=⟨[],[],[]⟩
instance : Inhabited PX:=⟨aBW⟩
structure SY where
 nR:Int
 SL:Int
 CW:Int
 aDC:(List Int)
def MK (x:SY):D:=.agg [Ac x.nR,Ac x.SL,Ac x.CW,(BZ Ac) x.aDC]
def aiD :SY:=⟨0,0,0,[]⟩
instance : Inhabited SY:=⟨aiD⟩
structure VP where
 adx:Int
 ady:ByteArray
def MO (x:VP):D:=.agg [Ac x.adx,DX x.ady]
def aZA :VP:=⟨0,Ce⟩
instance : Inhabited VP:=⟨aZA⟩
structure Yi where
 aBI:(List Int)
def zV (x:Yi):D:=.agg [(BZ Ac) x.aBI]
def ad6 :Yi:=⟨[]⟩
instance : Inhabited Yi:=⟨ad6⟩
structure MP where
 nR:Int
 zL:Int
 CW:Int
def P6 (x:MP):D:=.agg [Ac x.nR,Ac x.zL,Ac x.CW]
def amd :MP:=⟨0,0,0⟩
instance : Inhabited MP:=⟨amd⟩
structure JA where
 Id:Int
 Before:(List BL)
 After:(List BL)
 Err:Int
def MF (x:JA):D:=.agg [Ac x.Id,(BZ BX) x.Before,(BZ BX) x.After,Ac x.Err]
def WU :JA:=⟨0,[],[],0⟩
instance : Inhabited JA:=⟨WU⟩
structure PU where
 Same:(List BL)
 Power:(List Int)
 First:(List BL)
 Others:(List Int)
 Last:(List BL)
def bV (x:PU):D:=.agg [(BZ BX) x.Same,(BZ Ac) x.Power,(BZ BX) x.First,(BZ Ac) x.Others,(BZ BX) x.Last]
def XC :PU:=⟨[],[],[],[],[]⟩
instance : Inhabited PU:=⟨XC⟩
def acD :ED Au 38 10 10:=EO AA
def UH :El Au 34 true 16:=Fq AA
def aSR :(Au.info? 34).bind (·.zero)=some (a6d):=AA
def acn :ED Au 38 8 8:=EO AA
def aIL :El Au 27 false 1:=Fq AA
def JW :Au.underlying 27=some (.slice 3):=AA
def ahK :ED Au 38 9 9:=EO AA
def aZJ :ED Au 34 5 5:=EO AA
def abe :El Au 28 false 1:=Fq AA
def ai7 :Au.underlying 28=some (.slice 9):=AA
def ajd :ED Au 34 6 6:=EO AA
def aZu :ED Au 34 7 7:=EO AA
def aXr :ED Au 32 0 0:=EO AA
def aRn :El Au 29 false 1:=Fq AA
def aPJ :Au.underlying 29=some (.slice 146):=AA
def akt :ED Au 32 1 1:=EO AA
def aR7 :El Au 30 false 1:=Fq AA
def aMm :Au.underlying 30=some (.slice 221):=AA
def afd :ED Au 38 1 1:=EO AA
def W9 :El Au 9 false 1:=Fq AA
def IB :Au.underlying 9=some (.string):=AA
def aaC :ED Au 38 2 2:=EO AA
def abq :ED Au 38 5 5:=EO AA
def ah4 :ED Au 34 0 0:=EO AA
def aYO :ED Au 34 4 4:=EO AA
def agh :ED Au 38 12 27:=EO AA
def aXb :ED Au 36 0 0:=EO AA
def afr :El Au 146 true 2:=Fq AA
def amH :ED Au 146 0 0:=EO AA
def NU :Au.underlying 22=some (.slice 38):=AA
def IY :El Au 38 true 29:=Fq AA
def agp :ED Au 34 1 1:=EO AA
def FT :El Au 3 false 1:=Fq AA
def ab5 :Jp Au 34 [(0,1),(1,1),(2,1),(3,1),(4,1),(5,1),(6,1),(7,9)] (a6d):=MR AA aSR AA
def Zh :El Au 32 true 9:=Fq AA
def aYY :ED Au 34 2 2:=EO AA
def O5 :(Au.info? 38).bind (·.zero)=some (a2h):=AA
def ak4 :ED Au 38 3 3:=EO AA
def XF :El Au 26 false 1:=Fq AA
def aqQ :Az 192=true:=AA
def aZQ :ED Au 146 1 1:=EO AA
def adW :El Au 221 true 2:=Fq AA
def abk :ED Au 221 0 0:=EO AA
def ak5 :ED Au 221 1 1:=EO AA
def ahq :ED Au 32 2 2:=EO AA
def alD :ED Au 32 3 3:=EO AA
def aZM :ED Au 32 4 4:=EO AA
def aZ6 :ED Au 32 5 5:=EO AA
def anR :ED Au 32 6 6:=EO AA
def ah5 :ED Au 32 7 7:=EO AA
def ad9 :ED Au 32 8 8:=EO AA
def aXQ :ED Au 34 3 3:=EO AA
def aGk :El Au 4 false 1:=Fq AA
def aQk :Au.underlying 4=some (.bool):=AA
def aqu :Az 181=true:=AA
def ase :Az 182=true:=AA
def ac0 :ED Au 38 0 0:=EO AA
def alI :ED Au 38 4 4:=EO AA
def aj7 :ED Au 38 6 6:=EO AA
def aaU :ED Au 38 7 7:=EO AA
def aou :Az 43=true:=AA
def apd :Az 106=true:=AA
def ais :ED Au 38 11 26:=EO AA
def abw :ED Au 36 1 1:=EO AA
def Uh :Au.underlying 3=some (.int .i64):=AA
def akO :Au.underlying 202=some (.int .u64):=AA
def a2i :Au.underlying 5=some (.int .u8):=AA
def Jv :GV Au 95 5 1 1:=KH AA
def SP :(Au.info? 5).bind (·.zero)=some (.int .u8 0):=AA
def apa :Az 194=true:=AA
def Zl :Az 117=true:=AA
def aAq :Au.underlying 95=some (.slice 5):=AA
def aEB :Az 116=true:=AA
def Dx :GV Au 27 3 1 8:=KH AA
def zero3 :(Au.info? 3).bind (·.zero)=some (.int .i64 0):=AA
def aYA :Az 328=true:=AA
def aP4 :Az 329=true:=AA
def zero32 :(Au.info? 32).bind (·.zero)=some (a7x):=AA
def aqE :Az 330=true:=AA
def ajm :El Au 5 false 1:=Fq AA
def apl :Az 196=true:=AA
def atS :Az 195=true:=AA
def at6 :Az 265=true:=AA
def aq0 :Az 119=true:=AA
def apQ :Az 193=true:=AA
def aqX :Az 114=true:=AA
def arw :Az 36=true:=AA
def aqn :Az 115=true:=AA
def ata :Az 42=true:=AA
def aol :Az 183=true:=AA
def atY :Az 197=true:=AA
def aph :Az 198=true:=AA
def aej :ED Au 45 1 1:=EO AA
def aZc :El Au 22 false 1:=Fq AA
def a4a :Az 125=true:=AA
def asB :Az 268=true:=AA
def al8 :Au.underlying 203=some (.int .u64):=AA
def atN :Az 199=true:=AA
def atB :Az 200=true:=AA
def aoh :Az 126=true:=AA
def PD :El Au 45 true 9:=Fq AA
def atg :Az 51=true:=AA
def aqA :Az 107=true:=AA
def ao3 :Az 122=true:=AA
def arj :Az 121=true:=AA
def aoJ :Az 120=true:=AA
def a7O :(Au.info? 79).bind (·.zero)=some (a5C):=AA
def aXt :ED Au 45 2 2:=EO AA
def afy :El Au 39 false 1:=Fq AA
def aN7 :Au.underlying 39=some (.slice 79):=AA
def vT :El Au 79 true 4:=Fq AA
def ahW :ED Au 79 1 1:=EO AA
def ali :Jp Au 79 [(0,1),(1,1),(2,1),(3,1)] (a5C):=MR AA a7O AA
def arX :Az 32=true:=AA
def aXU :ED Au 79 2 2:=EO AA
def aJD :El Au 71 false 1:=Fq AA
def asF :Az 124=true:=AA
def apT :Az 123=true:=AA
def abQ :ED Au 45 0 0:=EO AA
def apO :Az 47=true:=AA
def asi :Az 48=true:=AA
def aiH :ED Au 45 5 5:=EO AA
def aZd :El Au 41 false 1:=Fq AA
def lF :Au.underlying 41=some (.slice 82):=AA
def Qe :El Au 82 true 3:=Fq AA
def Qp :(Au.info? 82).bind (·.zero)=some (a6p):=AA
def abK :ED Au 82 0 0:=EO AA
def adV :ED Au 82 1 1:=EO AA
def aiU :ED Au 82 2 2:=EO AA
def as6 :Az 50=true:=AA
def ai9 :Az 33=true:=AA
def ahD :Jp Au 38 [(0,1),(1,1),(2,1),(3,1),(4,1),(5,1),(6,1),(7,1),(8,1),(9,1),(10,16),(26,1),(27,2)] (a2h):=MR AA O5 AA
def JH :GV Au 22 38 29 376:=KH AA
def a4W :GV Au 39 79 4 32:=KH AA
def aPQ :(Au.info? 45).bind (·.zero)=some (a5f):=AA
def aYh :Jp Au 45 [(0,1),(1,1),(2,1),(3,1),(4,1),(5,1),(6,1),(7,1),(8,1)] (a5f):=MR AA aPQ AA
def arV :Az 342=true:=AA
def atc :Az 274=true:=AA
def asT :Az 271=true:=AA
def aq1 :Az 269=true:=AA
def ac9 :Az 272=true:=AA
def an4 :Az 270=true:=AA
def atZ :Az 203=true:=AA
def aql :Az 204=true:=AA
def asa :Az 202=true:=AA
def arz :Az 201=true:=AA
def ao9 :Az 130=true:=AA
def aog :Az 166=true:=AA
def apI :Az 89=true:=AA
def aso :Az 277=true:=AA
def atm :Az 214=true:=AA
def arM :Az 215=true:=AA
def zF :(Au.info? 146).bind (·.zero)=some (aAT):=AA
def aUl :(Au.info? 221).bind (·.zero)=some (aPK):=AA
def aM3 :(Au.info? 222).bind (·.zero)=some (a4R):=AA
def acI :fH Au 222 1 (a4R):=a1M AA aM3 AA
def a6T :Au.underlying 222=some (.array 7 3):=AA
def asj :Az 134=true:=AA
def aoU :Az 60=true:=AA
def OE :GV Au 28 9 1 16:=KH AA
def yI :GV Au 29 146 2 24:=KH AA
def aD2 :GV Au 30 221 2 16:=KH AA
def aqF :Az 291=true:=AA
def asV :Az 238=true:=AA
def atV :Az 239=true:=AA
def arR :Az 240=true:=AA
def arS :Az 149=true:=AA
def arI :Az 289=true:=AA
def arP :Az 290=true:=AA
def aos :Az 354=true:=AA
def apy :Az 355=true:=AA
def aoq :Az 358=true:=AA
def asY :Az 292=true:=AA
def atH :Az 356=true:=AA
def apc :Az 357=true:=AA
def arU :Az 293=true:=AA
def aGE :(Au.info? 276).bind (·.zero)=some (a3T):=AA
def aY4 :Jp Au 276 [(0,1),(1,1)] (a3T):=MR AA aGE AA
def adw :GV Au 277 276 2 16:=KH AA
def ahR :Au.underlying 277=some (.slice 276):=AA
def ajH :El Au 276 true 2:=Fq AA
def alG :ED Au 276 0 0:=EO AA
def ahX :ED Au 276 1 1:=EO AA
def amI :El Au 236 false 1:=Fq AA
def anh :Az 300=true:=AA
def aem :Az 294=true:=AA
def aiT :Az 295=true:=AA
def anN :Az 296=true:=AA
def amX :Az 297=true:=AA
def alm :Az 298=true:=AA
def adB :Az 299=true:=AA
def aqW :Az 301=true:=AA
def as4 :Az 231=true:=AA
def atO :Az 232=true:=AA
def anm :Az 233=true:=AA
def arO :Az 234=true:=AA
def a4x (x y:IQ):AX:=(x.User.toList==y.User.toList&&(x.N==y.N&&true))
def aZi (x y:IQ):Yn Au 2 146 [.string x.User,.int .i64 x.N] [.string y.User,.int .i64 y.N] (a4x x y):=⟨λd w=>pS AA AA AA (l:=[(9,0),(3,1)]) AA (P5 (J5 W9 AA w) (J5 W9 AA w) (aLG w _ _ _ _ IB)<|P5 (J5 FT AA w) (J5 FT AA w) (TF w _ _ .i64 _ _ _ Uh)<|lD _ _ _ _)⟩
def afN :Program.eqGuardType Au (Program.depth Au) 146=false:=AA
def aLJ :Au.underlying 26=some (.int .i64):=AA
def aBd (x y:Jr):AX:=(x.Kind==y.Kind&&(x.N==y.N&&true))
def aiF (x y:Jr):Yn Au 2 221 [.int .i64 x.Kind,.int .i64 x.N] [.int .i64 y.Kind,.int .i64 y.N] (aBd x y):=⟨λd w=>pS AA AA AA (l:=[(26,0),(3,1)]) AA (P5 (J5 XF AA w) (J5 XF AA w) (TF w _ _ .i64 _ _ _ aLJ)<|P5 (J5 FT AA w) (J5 FT AA w) (TF w _ _ .i64 _ _ _ Uh)<|lD _ _ _ _)⟩
def afK :Program.eqGuardType Au (Program.depth Au) 221=false:=AA
def ap8 :Az 235=true:=AA
def asI :Az 236=true:=AA
def atE :Az 237=true:=AA
def aWx :(Au.info? 209).bind (·.zero)=some (a3O):=AA
def aYn :Jp Au 209 [(0,1)] (a3O):=MR AA aWx AA
def ahC :ED Au 209 0 0:=EO AA
def ajM :El Au 95 false 1:=Fq AA
def atM :Az 206=true:=AA
def atP :Az 205=true:=AA
def zero9 :(Au.info? 9).bind (·.zero)=some (.string Ce):=AA
def asM :Az 208=true:=AA
def atj :Az 207=true:=AA
def abB :GV Au 258 4 1 1:=KH AA
def vU :(Au.info? 4).bind (·.zero)=some (.bool false):=AA
def abZ :Au.underlying 258=some (.slice 4):=AA
def aqw :Az 210=true:=AA
def apZ :Az 209=true:=AA
def a6S :GV Au 244 27 1 24:=KH AA
def jg :(Au.info? 27).bind (·.zero)=some (.slice none 0 0):=AA
def a3w :Au.underlying 244=some (.slice 27):=AA
def ang :Az 343=true:=AA
def aqI :Az 275=true:=AA
def aoA :Az 212=true:=AA
def asO :Az 211=true:=AA
def aqS :Az 131=true:=AA
def aPW :(Au.info? 36).bind (·.zero)=some (a4n):=AA
def aat :Jp Au 36 [(0,1),(1,1)] (a4n):=MR AA aPW AA
def acN :El Au 36 true 2:=Fq AA
def apS :Az 132=true:=AA
def ano :Az 147=true:=AA
def arG :Az 137=true:=AA
def aod :Az 148=true:=AA
def ar5 :Az 58=true:=AA
def aoL :Az 57=true:=AA
def a2v (x y:PW):AX:=(x.Server.toList==y.Server.toList&&(x.Sum==y.Sum&&true))
def aiR (x y:PW):Yn Au 2 36 [.string x.Server,.int .i64 x.Sum] [.string y.Server,.int .i64 y.Sum] (a2v x y):=⟨λd w=>pS AA AA AA (l:=[(9,0),(3,1)]) AA (P5 (J5 W9 AA w) (J5 W9 AA w) (aLG w _ _ _ _ IB)<|P5 (J5 FT AA w) (J5 FT AA w) (TF w _ _ .i64 _ _ _ Uh)<|lD _ _ _ _)⟩
def abt :Program.eqGuardType Au (Program.depth Au) 36=false:=AA
def apA :Az 74=true:=AA
def aoK :Az 172=true:=AA
def adT :Az 217=true:=AA
def aqh :Az 138=true:=AA
def aqe :Az 139=true:=AA
def arN :Az 140=true:=AA
def QX :Au.underlying 196=some (.map 3 4):=AA
def Hu :KeyTy Au 3 D6:=alk Uh
def aqk :Az 184=true:=AA
def aoH :Az 109=true:=AA
def PG :Au.underlying 183=some (.map 3 3):=AA
def apV :Az 169=true:=AA
def aaG :(Au.info? 183).bind (·.zero)=some (.map none):=AA
def aiu :El Au 183 false 1:=Fq AA
def aoZ :Az 255=true:=AA
def atU :Az 168=true:=AA
def arD :Az 170=true:=AA
def aLb :GV Au 249 251 2 16:=KH AA
def aA8 :(Au.info? 251).bind (·.zero)=some (a4d):=AA
def aYc :Jp Au 251 [(0,1),(1,1)] (a4d):=MR AA aA8 AA
def Xe :Au.underlying 249=some (.slice 251):=AA
def VI :El Au 251 true 2:=Fq AA
def akd :ED Au 251 0 0:=EO AA
def agP :ED Au 251 1 1:=EO AA
def Ty :Au.underlying 40=some (.slice 82):=AA
def aeg :Jp Au 82 [(0,1),(1,1),(2,1)] (a6p):=MR AA Qp AA
def aqB :Az 405=true:=AA
def asW :Az 403=true:=AA
def aeE :Az 404=true:=AA
def ai4 :Az 406=true:=AA
def apG :Az 327=true:=AA
def aFC :Au.underlying 190=some (.slice 41):=AA
def aom :Az 323=true:=AA
def VR :(Au.info? 41).bind (·.zero)=some (.slice none 0 0):=AA
def ajz :El Au 190 false 1:=Fq AA
def aoW :Az 229=true:=AA
def aNy :Az 288=true:=AA
def arp :Az 393=true:=AA
def NH :GV Au 41 82 3 32:=KH AA
def alE :Az 434=true:=AA
def aag :Az 435=true:=AA
def aSQ :Az 396=true:=AA
def aoG :Az 433=true:=AA
def atL :Az 319=true:=AA
def apB :Az 394=true:=AA
def apF :Az 452=true:=AA
def aV7 :Az 436=true:=AA
def aoO :Az 64=true:=AA
def aob :Az 395=true:=AA
def apz :Az 397=true:=AA
def zG :Az 261=true:=AA
def adG :Az 459=true:=AA
def arq :Az 457=true:=AA
def aow :Az 441=true:=AA
def apN :Az 458=true:=AA
def ani :Az 223=true:=AA
def aNz :(Au.info? 263).bind (·.zero)=some (a2I):=AA
def ak7 :Jp Au 263 [(0,1)] (a2I):=MR AA aNz AA
def akV :(match Au.underlying 263 with |some (.interface _)=>false|some _=>true|none=>false)=true:=AA
def rO :Az 225=true:=AA
def V4 :Az 224=true:=AA
def aoo :Az 280=true:=AA
def apb :Az 227=true:=AA
def aTF :(Au.info? 311).bind (·.zero)=some (a3g):=AA
def afL :fH Au 311 1 (a3g):=a1M AA aTF AA
def akD :El Au 311 true 5:=Fq AA
def aP3 :Au.underlying 311=some (.array 5 3):=AA
def asb :Az 282=true:=AA
def aqT :Az 345=true:=AA
def aqf :Az 346=true:=AA
def ant :Az 347=true:=AA
def arC :Az 283=true:=AA
def aiA :Az 415=true:=AA
def atQ :Az 348=true:=AA
def ape :Az 349=true:=AA
def as3 :Az 350=true:=AA
def aey :Jp Au 32 [(0,1),(1,1),(2,1),(3,1),(4,1),(5,1),(6,1),(7,1),(8,1)] (a7x):=MR AA zero32 AA
def ahg :Jp Au 146 [(0,1),(1,1)] (aAT):=MR AA zF AA
def aq4 :Az 351=true:=AA
def asP :Az 284=true:=AA
def apm :Az 285=true:=AA
def aby :Az 281=true:=AA
def asK :Az 221=true:=AA
def as1 :Az 226=true:=AA
def ar6 :Az 286=true:=AA
def aQK :El Au 222 true 7:=Fq AA
def aWo :Az 353=true:=AA
def aGc :Az 352=true:=AA
def aN9 :(Au.info? 320).bind (·.zero)=some (a1L):=AA
def akQ :fH Au 320 1 (a1L):=a1M AA aN9 AA
def aiO :Au.underlying 320=some (.array 2 30):=AA
def aMO :(Au.info? 321).bind (·.zero)=some (a7C):=AA
def acJ :fH Au 321 1 (a7C):=a1M AA aMO AA
def aie :Au.underlying 321=some (.array 2 29):=AA
def aox :Az 287=true:=AA
def aot :Az 228=true:=AA
def aht :Az 222=true:=AA
def asH :Az 456=true:=AA
def ar1 :Az 143=true:=AA
def aWy :(Au.info? 378).bind (·.zero)=some (a5P):=AA
def ak3 :Jp Au 378 [] (a5P):=MR AA aWy AA
def aiC :(match Au.underlying 378 with |some (.interface _)=>false|some _=>true|none=>false)=true:=AA
def ap6 :Az 437=true:=AA
def asl :Az 438=true:=AA
def aoz :Az 399=true:=AA
def aSZ :Az 439=true:=AA
def aqP :Az 440=true:=AA
def ahj :(Au.info? 247).bind (·.zero)=some (aQg):=AA
def aq6 :Az 320=true:=AA
def aq8 :Az 321=true:=AA
def aQr :(Au.info? 292).bind (·.zero)=some (a6h):=AA
def aes :Jp Au 292 [] (a6h):=MR AA aQr AA
def adS :(match Au.underlying 292 with |some (.interface _)=>false|some _=>true|none=>false)=true:=AA
def aF2 :(Au.info? 347).bind (·.zero)=some (a8e):=AA
def aiB :Jp Au 347 [(0,1),(1,1)] (a8e):=MR AA aF2 AA
def aDs :GV Au 342 347 2 24:=KH AA
def as2 :Az 400=true:=AA
def aEG :Au.underlying 342=some (.slice 347):=AA
def aGp :El Au 347 true 2:=Fq AA
def aeI :ED Au 347 0 0:=EO AA
def aZw :ED Au 347 1 1:=EO AA
def aVJ :Az 402=true:=AA
def aoj :Az 326=true:=AA
def aoP :Az 479=true:=AA
def aGB :(Au.info? 411).bind (·.zero)=some (aB8):=AA
def amK :Jp Au 411 [(0,1),(1,1),(2,1),(3,1)] (aB8):=MR AA aGB AA
def aDN :GV Au 408 411 4 48:=KH AA
def apC :Az 477=true:=AA
def aDK :Au.underlying 408=some (.slice 411):=AA
def aHu :El Au 411 true 4:=Fq AA
def agu :ED Au 411 3 3:=EO AA
def ael :ED Au 411 0 0:=EO AA
def alT :ED Au 411 1 1:=EO AA
def ajP :ED Au 411 2 2:=EO AA
def aZ7 :Az 478=true:=AA
def arA :Az 476=true:=AA
def aaz :Az 475=true:=AA
def aaf :wZ Au 292 "fedchat/resolve.sort" 475=true:=AA
def aqH :Az 398=true:=AA
def asZ :Az 322=true:=AA
def aci :ED Au 247 1 1:=EO AA
def apW :Az 324=true:=AA
def aVV :(Au.info? 296).bind (·.zero)=some (a1O):=AA
def akF :Jp Au 296 [(0,1)] (a1O):=MR AA aVV AA
def abd :(match Au.underlying 296 with |some (.interface _)=>false|some _=>true|none=>false)=true:=AA
def abS :ED Au 296 0 0:=EO AA
def aoc :Az 482=true:=AA
def aE2 :(Au.info? 415).bind (·.zero)=some (a1t):=AA
def acA :Jp Au 415 [(0,1),(1,1),(2,1)] (a1t):=MR AA aE2 AA
def aV9 :GV Au 413 415 3 24:=KH AA
def ao0 :Az 483=true:=AA
def xu :Au.underlying 413=some (.slice 415):=AA
def uH :El Au 415 true 3:=Fq AA
def zY (x y:MP):AX:=(x.nR==y.nR&&(x.zL==y.zL&&(x.CW==y.CW&&true)))
def amj (x y:MP):Yn Au 2 415 [.int .i64 x.nR,.int .i64 x.zL,.int .i64 x.CW] [.int .i64 y.nR,.int .i64 y.zL,.int .i64 y.CW] (zY x y):=⟨λd w=>pS AA AA AA (l:=[(3,0),(3,1),(3,2)]) AA (P5 (J5 FT AA w) (J5 FT AA w) (TF w _ _ .i64 _ _ _ Uh)<|P5 (J5 FT AA w) (J5 FT AA w) (TF w _ _ .i64 _ _ _ Uh)<|P5 (J5 FT AA w) (J5 FT AA w) (TF w _ _ .i64 _ _ _ Uh)<|lD _ _ _ _)⟩
def ajl :Program.eqGuardType Au (Program.depth Au) 415=false:=AA
def aoi :Az 486=true:=AA
def aeV :ED Au 415 0 0:=EO AA
def aqt :Az 481=true:=AA
def ahF :Az 480=true:=AA
def abb :wZ Au 296 "fedchat/resolve.sort" 480=true:=AA
def acE :ED Au 247 0 0:=EO AA
def ahM :ED Au 247 2 2:=EO AA
def aLc :El Au 247 true 3:=Fq AA
def apK :Az 259=true:=AA
def acR :nI Au 247 0 0 false 1=true:=AA
def ark :Az 401=true:=AA
def zero22 :(Au.info? 22).bind (·.zero)=some (.slice none 0 0):=AA
def asx :Az 325=true:=AA
def ajc :ED Au 142 2 2:=EO AA
def aa8 :El Au 140 false 1:=Fq AA
def jy :Au.underlying 140=some (.map 3 64):=AA
def zero64 :(Au.info? 64).bind (·.zero)=some (.int .i64 0):=AA
def asc :Az 144=true:=AA
def aed :ED Au 142 1 1:=EO AA
def agK :El Au 139 false 1:=Fq AA
def qX :Au.underlying 139=some (.map 3 41):=AA
def aU :GV Au 190 41 1 24:=KH AA
def atF :Az 178=true:=AA
def ar0 :Az 260=true:=AA
def ab4 :ED Au 142 0 0:=EO AA
def aqN :Az 167=true:=AA
def asu :Az 91=true:=AA
def aSA :(Au.info? 142).bind (·.zero)=some (a6I):=AA
def aR9 :Jp Au 142 [(0,1),(1,1),(2,1)] (a6I):=MR AA aSA AA
def aoV :Az 179=true:=AA
def aon :Az 180=true:=AA
def aqJ :Az 104=true:=AA
def aY7 :Az 220=true:=AA
def aRv :GV Au 186 71 1 8:=KH AA
def aWc :(Au.info? 71).bind (·.zero)=some (.int .i64 0):=AA
def aqs :Az 171=true:=AA
def aYU :Au.underlying 186=some (.slice 71):=AA
def anz :Az 105=true:=AA
def ac2 :El Au 136 false 1:=Fq AA
def aqM :Az 258=true:=AA
def anr :Az 257=true:=AA
def atb :Az 177=true:=AA
def asC :Az 176=true:=AA
def apo :Az 175=true:=AA
def at1 :Az 65=true:=AA
def asz :Az 141=true:=AA
def alM :ED Au 45 6 6:=EO AA
def asf :Az 142=true:=AA
def ai5 :Az 145=true:=AA
def aoN :Az 101=true:=AA
def asw :Az 103=true:=AA
def ajg :ED Au 45 4 4:=EO AA
def ajZ :Au.underlying 233=some (.slice 22):=AA
def aqg :Az 230=true:=AA
def aY8 :ED Au 45 3 3:=EO AA
def anl :Az 66=true:=AA
def aXj :GV Au 233 22 1 24:=KH AA
def aq7 :Az 146=true:=AA
def as7 :Az 67=true:=AA
def aoY :Az 63=true:=AA
def ao8 :Az 68=true:=AA
def ar8 :Az 30=true:=AA
def aqv :Az 20=true:=AA
def aZX :ED Au 45 7 7:=EO AA
def aZS :El Au 42 false 1:=Fq AA
def alL :Au.underlying 42=some (.slice 102):=AA
def aZr :ED Au 45 8 8:=EO AA
def aZs :El Au 43 false 1:=Fq AA
def aau :Au.underlying 43=some (.slice 104):=AA
def aqi :Az 216=true:=AA
def aqa :Az 62=true:=AA
def atW :Az 135=true:=AA
def ar9 :Az 136=true:=AA
def asq :Az 61=true:=AA
def ap3 :Az 368=true:=AA
def aoR :Az 249=true:=AA
def asX :Az 76=true:=AA
def apR :Az 369=true:=AA
def aqd :Az 370=true:=AA
def asU :Az 451=true:=AA
def asy :Az 426=true:=AA
def anu :Az 427=true:=AA
def ao2 :Az 428=true:=AA
def asG :Az 431=true:=AA
def ath :Az 371=true:=AA
def aoa :Az 429=true:=AA
def ao1 :Az 430=true:=AA
def arf :Az 372=true:=AA
def arY :Az 373=true:=AA
def apJ :Az 374=true:=AA
def aoX :Az 375=true:=AA
def arF :Az 376=true:=AA
def anp :Az 377=true:=AA
def aoy :Az 378=true:=AA
def atC :Az 379=true:=AA
def apn :Az 380=true:=AA
def apL :Az 303=true:=AA
def aq3 :Az 304=true:=AA
def aop :Az 381=true:=AA
def ap9 :Az 305=true:=AA
def asL :Az 245=true:=AA
def at7 :Az 246=true:=AA
def ap4 :Az 19=true:=AA
def aoI :Az 159=true:=AA
def aqC :Az 150=true:=AA
def apP :Az 187=true:=AA
def aqO :Az 160=true:=AA
def ar7 :Az 111=true:=AA
def aqm :Az 112=true:=AA
def ag5 :Az 84=true:=AA
def aok :Az 151=true:=AA
def aqo :Az 152=true:=AA
def aoQ :Az 306=true:=AA
def aXa :Az 307=true:=AA
def aHo :(Au.info? 174).bind (·.zero)=some (a4B):=AA
def aBA :Au.underlying 171=some (.slice 174):=AA
def Ze :El Au 174 true 4:=Fq AA
def ajy :ED Au 174 0 0:=EO AA
def ahi :Jp Au 174 [(0,1),(1,1),(2,1),(3,1)] (a4B):=MR AA aHo AA
def apg :Az 364=true:=AA
def aJi :Az 262=true:=AA
def anw :Az 416=true:=AA
def asn :Az 186=true:=AA
def aq9 :Az 185=true:=AA
def aov :Az 367=true:=AA
def aaT :Az 446=true:=AA
def aRQ :Az 110=true:=AA
def aof :Az 447=true:=AA
def arT :Az 445=true:=AA
def aao :Az 420=true:=AA
def ar4 :Az 444=true:=AA
def arB :Az 359=true:=AA
def arL :Az 417=true:=AA
def asE :Az 418=true:=AA
def apY :Az 419=true:=AA
def iV :GV Au 40 82 3 32:=KH AA
def aqj :Az 432=true:=AA
def apw :Az 383=true:=AA
def aqz :Az 382=true:=AA
def aqD :Az 389=true:=AA
def aoM :Az 309=true:=AA
def aqb :Az 315=true:=AA
def anj :Az 316=true:=AA
def atD :Az 448=true:=AA
def atn :Az 421=true:=AA
def aqV :Az 422=true:=AA
def amD :Az 449=true:=AA
def ato :Az 251=true:=AA
def arx :Az 385=true:=AA
def aqy :Az 386=true:=AA
def ars :Az 387=true:=AA
def apX :Az 388=true:=AA
def aqU :Az 253=true:=AA
def as8 :Az 311=true:=AA
def apt :Az 312=true:=AA
def ati :Az 313=true:=AA
def atX :Az 314=true:=AA
def aqx :Az 391=true:=AA
def asv :Az 390=true:=AA
def aqY :Az 317=true:=AA
def asR :Az 392=true:=AA
def ao5 :Az 318=true:=AA
def aq5 :Az 252=true:=AA
def aoT :Az 254=true:=AA
def apx :Az 310=true:=AA
def ap2 :Az 423=true:=AA
def aqR :Az 162=true:=AA
def apu :Az 250=true:=AA
def aps :Az 424=true:=AA
def arK :Az 365=true:=AA
def atG :Az 455=true:=AA
def arv :Az 450=true:=AA
def apM :Az 425=true:=AA
def aZO :(Au.info? 281).bind (·.zero)=some (aQO):=AA
def alC :ED Au 281 0 0:=EO AA
def anq :Az 360=true:=AA
def aqK :Az 361=true:=AA
def atK :Az 362=true:=AA
def aif :ED Au 281 1 1:=EO AA
def aor :Az 363=true:=AA
def aZp :ED Au 281 2 2:=EO AA
def ap1 :Az 366=true:=AA
def aZ3 :ED Au 281 3 3:=EO AA
def alU :ED Au 281 4 4:=EO AA
def aMY :El Au 281 true 5:=Fq AA
def aoB :Az 302=true:=AA
def amL :nI Au 281 4 4 false 1=true:=AA
def aLq :Az 384=true:=AA
def asg :Az 308=true:=AA
def aq2 :Az 155=true:=AA
def aZE :ED Au 174 3 3:=EO AA
def aj2 :El Au 64 false 1:=Fq AA
def ash :Az 163=true:=AA
def ar2 :Az 247=true:=AA
def acf :ED Au 174 2 2:=EO AA
def arJ :Az 244=true:=AA
def amm :ED Au 174 1 1:=EO AA
def apq :Az 248=true:=AA
def aSH :GV Au 171 174 4 64:=KH AA
def apH :Az 161=true:=AA
def ap7 :Az 78=true:=AA
def aqL :Az 241=true:=AA
def acF :ED Au 79 0 0:=EO AA
def arE :Az 153=true:=AA
def atJ :Az 154=true:=AA
def ap5 :Az 156=true:=AA
def aoE :Az 77=true:=AA
def aoS :Az 86=true:=AA
def aqG :Az 243=true:=AA
def as9 :Az 242=true:=AA
def ate :Az 157=true:=AA
def atA :Az 158=true:=AA
def arW :Az 79=true:=AA
def apr :Az 80=true:=AA
def atd :Az 81=true:=AA
def arH :Az 37=true:=AA
def ao4 :Az 82=true:=AA
def asJ :Az 71=true:=AA
def apj :Az 108=true:=AA
def atf :Az 256=true:=AA
def ahr :Az 173=true:=AA
def aru :Az 174=true:=AA
def aqp :Az 90=true:=AA
def ap0 :Az 92=true:=AA
def anE :(Au.info? 93).bind (·.zero)=some (.nilFunc):=AA
def aXR :El Au 93 false 1:=Fq AA
def aqc :Az 95=true:=AA
def amc :Az 93=true:=AA
def aHK :(Au.info? 134).bind (·.zero)=some (a7z):=AA
def aaF :Jp Au 134 [(0,1),(1,1)] (a7z):=MR AA aHK AA
def an2 :Az 97=true:=AA
def anx :Az 100=true:=AA
def aLS (x y:BL):AX:=(x.Kind==y.Kind&&(x.Key.toList==y.Key.toList&&(x.Id==y.Id&&true)))
def adA (x y:BL):Yn Au 2 82 [.int .i64 x.Kind,.string x.Key,.int .i64 x.Id] [.int .i64 y.Kind,.string y.Key,.int .i64 y.Id] (aLS x y):=⟨λd w=>pS AA AA AA (l:=[(26,0),(9,1),(3,2)]) AA (P5 (J5 XF AA w) (J5 XF AA w) (TF w _ _ .i64 _ _ _ aLJ)<|P5 (J5 W9 AA w) (J5 W9 AA w) (aLG w _ _ _ _ IB)<|P5 (J5 FT AA w) (J5 FT AA w) (TF w _ _ .i64 _ _ _ Uh)<|lD _ _ _ _)⟩
def amA :Program.eqGuardType Au (Program.depth Au) 82=false:=AA
def apD :Az 102=true:=AA
def acp :GV Au 135 134 2 16:=KH AA
def jl :Au.underlying 135=some (.slice 134):=AA
def a0e :El Au 134 true 2:=Fq AA
def aYf :ED Au 134 1 1:=EO AA
def aYM :El Au 25 false 1:=Fq AA
def aer :Az 94=true:=AA
def ad3 :ED Au 134 0 0:=EO AA
def aXg :Az 96=true:=AA
def ake :Az 98=true:=AA
def ads :Az 99=true:=AA
def arQ :Az 55=true:=AA
def asQ :Az 38=true:=AA
def anv :Az 28=true:=AA
def aQC :Au.underlying 71=some (.int .i64):=AA
def o9 (x y:FZ):AX:=(x.Pos==y.Pos&&(x.Id==y.Id&&(x.Status==y.Status&&(x.Gone==y.Gone&&true))))
def aTC (x y:FZ):Yn Au 2 79 [.int .i64 x.Pos,.int .i64 x.Id,.int .i64 x.Status,.bool x.Gone] [.int .i64 y.Pos,.int .i64 y.Id,.int .i64 y.Status,.bool y.Gone] (o9 x y):=⟨λd w=>pS AA AA AA (l:=[(3,0),(3,1),(71,2),(4,3)]) AA (P5 (J5 FT AA w) (J5 FT AA w) (TF w _ _ .i64 _ _ _ Uh)<|P5 (J5 FT AA w) (J5 FT AA w) (TF w _ _ .i64 _ _ _ Uh)<|P5 (J5 aJD AA w) (J5 aJD AA w) (TF w _ _ .i64 _ _ _ aQC)<|P5 (J5 aGk AA w) (J5 aGk AA w) (run_equalIn_bool' w _ _ _ _ aQk)<|lD _ _ _ _)⟩
def aMN :Program.eqGuardType Au (Program.depth Au) 79=false:=AA
def ale :El Au 102 true 4:=Fq AA
def alV :El Au 104 true 2:=Fq AA
def acr :Az 23=true:=AA
def aXT :Az 24=true:=AA
def aZk :Az 25=true:=AA
def atl :Az 26=true:=AA
def arZ :Az 29=true:=AA
instance ank :Kn Au where
 und:=[(9,.string),(4,.bool),(3,.int .i64),(202,.int .u64),(5,.int .u8),(203,.int .u64),(26,.int .i64),(71,.int .i64)]
 aoe:=⟨IB,aQk,Uh,akO,a2i,al8,aLJ,aQC,trivial⟩
 ty:=[(34,true,16),(27,false,1),(28,false,1),(29,false,1),(30,false,1),(9,false,1),(146,true,2),(38,true,29),(3,false,1),(32,true,9),(26,false,1),(221,true,2),(4,false,1),(5,false,1),(22,false,1),(45,true,9),(39,false,1),(79,true,4),(71,false,1),(41,false,1),(82,true,3),(276,true,2),(236,false,1),(95,false,1),(36,true,2),(183,false,1),(251,true,2),(190,false,1),(311,true,5),(222,true,7),(347,true,2),(411,true,4),(415,true,3),(247,true,3),(140,false,1),(139,false,1),(136,false,1),(42,false,1),(43,false,1),(174,true,4),(281,true,5),(64,false,1),(93,false,1),(134,true,2),(25,false,1),(102,true,4),(104,true,2)]
 hty:=⟨UH,aIL,abe,aRn,aR7,W9,afr,IY,FT,Zh,XF,adW,aGk,ajm,aZc,PD,afy,vT,aJD,aZd,Qe,ajH,amI,ajM,acN,aiu,VI,ajz,akD,aQK,aGp,aHu,uH,aLc,aa8,agK,ac2,aZS,aZs,Ze,aMY,aj2,aXR,a0e,aYM,ale,alV,trivial⟩
 fld:=[((38,10),10),((38,8),8),((38,9),9),((34,5),5),((34,6),6),((34,7),7),((32,0),0),((32,1),1),((38,1),1),((38,2),2),((38,5),5),((34,0),0),((34,4),4),((38,12),27),((36,0),0),((146,0),0),((34,1),1),((34,2),2),((38,3),3),((146,1),1),((221,0),0),((221,1),1),((32,2),2),((32,3),3),((32,4),4),((32,5),5),((32,6),6),((32,7),7),((32,8),8),((34,3),3),((38,0),0),((38,4),4),((38,6),6),((38,7),7),((38,11),26),((36,1),1),((45,1),1),((45,2),2),((79,1),1),((79,2),2),((45,0),0),((45,5),5),((82,0),0),((82,1),1),((82,2),2),((276,0),0),((276,1),1),((209,0),0),((251,0),0),((251,1),1),((347,0),0),((347,1),1),((411,3),3),((411,0),0),((411,1),1),((411,2),2),((247,1),1),((296,0),0),((415,0),0),((247,0),0),((247,2),2),((142,2),2),((142,1),1),((142,0),0),((45,6),6),((45,4),4),((45,3),3),((45,7),7),((45,8),8),((174,0),0),((281,0),0),((281,1),1),((281,2),2),((281,3),3),((281,4),4),((174,3),3),((174,2),2),((174,1),1),((79,0),0),((134,1),1),((134,0),0)]
 hfld:=⟨acD,acn,ahK,aZJ,ajd,aZu,aXr,akt,afd,aaC,abq,ah4,aYO,agh,aXb,amH,agp,aYY,ak4,aZQ,abk,ak5,ahq,alD,aZM,aZ6,anR,ah5,ad9,aXQ,ac0,alI,aj7,aaU,ais,abw,aej,aXt,ahW,aXU,abQ,aiH,abK,adV,aiU,alG,ahX,ahC,akd,agP,aeI,aZw,agu,ael,alT,ajP,aci,abS,aeV,acE,ahM,ajc,aed,ab4,alM,ajg,aY8,aZX,aZr,ajy,alC,aif,aZp,aZ3,alU,aZE,acf,amm,acF,aYf,ad3,trivial⟩
 part:=[((247,0),0,false,1),((281,4),4,false,1)]
 hpart:=⟨acR,amL,trivial⟩
 zero:=[(34,a6d),(38,a2h),(5,.int .u8 0),(3,.int .i64 0),(32,a7x),(79,a5C),(82,a6p),(45,a5f),(146,aAT),(221,aPK),(222,a4R),(276,a3T),(209,a3O),(9,.string Ce),(4,.bool false),(27,.slice none 0 0),(36,a4n),(183,.map none),(251,a4d),(41,.slice none 0 0),(263,a2I),(311,a3g),(320,a1L),(321,a7C),(378,a5P),(247,aQg),(292,a6h),(347,a8e),(411,aB8),(296,a1O),(415,a1t),(22,.slice none 0 0),(64,.int .i64 0),(142,a6I),(71,.int .i64 0),(174,a4B),(281,aQO),(93,.nilFunc),(134,a7z)]
 hzero:=⟨⟨aSR,AA⟩,⟨O5,AA⟩,⟨SP,AA⟩,⟨zero3,AA⟩,⟨zero32,AA⟩,⟨a7O,AA⟩,⟨Qp,AA⟩,⟨aPQ,AA⟩,⟨zF,AA⟩,⟨aUl,AA⟩,⟨aM3,AA⟩,⟨aGE,AA⟩,⟨aWx,AA⟩,⟨zero9,AA⟩,⟨vU,AA⟩,⟨jg,AA⟩,⟨aPW,AA⟩,⟨aaG,AA⟩,⟨aA8,AA⟩,⟨VR,AA⟩,⟨aNz,AA⟩,⟨aTF,AA⟩,⟨aN9,AA⟩,⟨aMO,AA⟩,⟨aWy,AA⟩,⟨ahj,AA⟩,⟨aQr,AA⟩,⟨aF2,AA⟩,⟨aGB,AA⟩,⟨aVV,AA⟩,⟨aE2,AA⟩,⟨zero22,AA⟩,⟨zero64,AA⟩,⟨aSA,AA⟩,⟨aWc,AA⟩,⟨aHo,AA⟩,⟨aZO,AA⟩,⟨anE,AA⟩,⟨aHK,AA⟩,trivial⟩
 st:=[(34,[(0,1),(1,1),(2,1),(3,1),(4,1),(5,1),(6,1),(7,9)],a6d),(79,[(0,1),(1,1),(2,1),(3,1)],a5C),(38,[(0,1),(1,1),(2,1),(3,1),(4,1),(5,1),(6,1),(7,1),(8,1),(9,1),(10,16),(26,1),(27,2)],a2h),(45,[(0,1),(1,1),(2,1),(3,1),(4,1),(5,1),(6,1),(7,1),(8,1)],a5f),(276,[(0,1),(1,1)],a3T),(209,[(0,1)],a3O),(36,[(0,1),(1,1)],a4n),(251,[(0,1),(1,1)],a4d),(82,[(0,1),(1,1),(2,1)],a6p),(263,[(0,1)],a2I),(32,[(0,1),(1,1),(2,1),(3,1),(4,1),(5,1),(6,1),(7,1),(8,1)],a7x),(146,[(0,1),(1,1)],aAT),(378,[],a5P),(292,[],a6h),(347,[(0,1),(1,1)],a8e),(411,[(0,1),(1,1),(2,1),(3,1)],aB8),(296,[(0,1)],a1O),(415,[(0,1),(1,1),(2,1)],a1t),(142,[(0,1),(1,1),(2,1)],a6I),(174,[(0,1),(1,1),(2,1),(3,1)],a4B),(134,[(0,1),(1,1)],a7z)]
 hst:=⟨ab5,ali,ahD,aYh,aY4,aYn,aat,aYc,aeg,ak7,aey,ahg,ak3,aes,aiB,amK,akF,acA,aR9,ahi,aaF,trivial⟩
 arr:=[(222,1,a4R),(311,1,a3g),(320,1,a1L),(321,1,a7C)]
 harr:=⟨acI,afL,akQ,acJ,trivial⟩
 sl:=[(27,3),(28,9),(29,146),(30,221),(22,38),(95,5),(39,79),(41,82),(277,276),(258,4),(244,27),(249,251),(40,82),(190,41),(342,347),(408,411),(413,415),(186,71),(233,22),(42,102),(43,104),(171,174),(135,134)]
 hsl:=⟨JW,ai7,aPJ,aMm,NU,aAq,aN7,lF,ahR,abZ,a3w,Xe,Ty,aFC,aEG,aDK,xu,aYU,ajZ,alL,aau,aBA,jl,trivial⟩
abbrev Ci :=λx=>Bd.arr 3 1 (List.map Ac x)
abbrev FY :=λx=>Bd.arr 38 29 (List.map BF x)
abbrev a0b :=λx=>Bd.arr 79 4 (List.map Em x)
abbrev Iw :=λx=>Bd.arr 5 1 (List.map Dn x)
abbrev VU :=λx=>Bd.arr 9 1 (List.map DX x)
abbrev Lm :=λx=>Bd.arr 82 3 (List.map BX x)
abbrev uM :=λx=>Bd.arr 27 1 (List.map (BZ Ac) x)
abbrev Qq :=λx=>Bd.arr 174 4 (List.map MF x)
abbrev dJ :=λx=>Bd.arr 415 3 (List.map P6 x)
abbrev Wq :=λx=>Bd.arr 251 2 (List.map KY x)
abbrev IV :=λx=>Ag.d (Cb x)
abbrev AY :=λx=>Ag.d (Ac x)
abbrev BN :=λx=>Ag.d ((BZ BF) x)
abbrev Tq :=λx=>Ag.d ((BZ MF) x)
abbrev Af :=λx=>Ag.d (EC x)
abbrev Bg :=λx=>Ag.d ((BZ Ac) x)
abbrev Dh :=λx=>Ag.d ((BZ BX) x)
abbrev DY :=λx=>Ag.d (BF x)
abbrev D7 :=λx=>Ag.d (DX x)
abbrev kC :=λx=>Ag.d ((BZ Em) x)
abbrev dK :=λx=>Ag.d (Em x)
abbrev Ia :=λx=>Ag.d (GN x)
abbrev Ie :=λx=>Ag.d ((BZ DX) x)
abbrev Iy :=λx=>Ag.d (FN x)
abbrev Ii :=λx=>Ag.d ((BZ Dn) x)
abbrev Pj :=λx=>Ag.d ((BZ FB) x)
abbrev P8 :=λx=>Ag.d ((BZ FD) x)
abbrev XD :=λx=>Ag.d (MF x)
abbrev JJ :=λx=>Ag.d ((BZ (BZ BX)) x)
abbrev XE :=λx=>Ag.d (BX x)
abbrev WR :=λx=>Ag.d ((BZ MK) x)
section
set_option maxRecDepth 20000
set_option maxHeartbeats 4000000
def xE (q:Int)(j:D8):AB D8:=(bif (q==1)then some j else(bif (q==2)then some ({ Eu with N:=j.N,Via:=j.Via })else(bif (q==3)then some ({ Eu with Levels:=j.Levels })else(bif (q==4)then some ({ Eu with N:=j.N,Allow:=j.Allow })else(bif (q==5)then some ({ Eu with N:=j.N })else(bif (q==6)then some ({ Eu with Allow:=j.Allow,iK:=j.iK })else(bif (q==14)then some ({ Eu with Target:=j.Target })else some Eu)))))))
def aVZ :=DZ func192 rfl xE AY Ia Ia λu j r h=>AZ<|Aa<|AZ<|Am<|AZ<|Dc h (λh=>AZ<|F5<|by rw[←CQ h];exact⟨[Ia j],[],⟨⟨1,BD (GN j),true,16,AA,AA,AA,UH,Dt AA,VQ,AA⟩,trivial⟩,AA,AA,AA⟩) λh=>AZ<|Dc h (λh=>AZ<|F5<|by rw[←CQ h];exact⟨[Ia ({ Eu with N:=j.N,Via:=j.Via })],[],⟨⟨1,BD (GN ({ Eu with N:=j.N,Via:=j.Via })),true,16,AA,AA,AA,UH,Dt AA,VQ,AA⟩,trivial⟩,AA,AA,AA⟩) λh=>AZ<|Dc h (λh=>AZ<|F5<|by rw[←CQ h];exact⟨[Ia ({ Eu with Levels:=j.Levels })],[],⟨⟨1,BD (GN ({ Eu with Levels:=j.Levels })),true,16,AA,AA,AA,UH,Dt AA,VQ,AA⟩,trivial⟩,AA,AA,AA⟩) λh=>AZ<|Dc h (λh=>AZ<|F5<|by rw[←CQ h];exact⟨[Ia ({ Eu with N:=j.N,Allow:=j.Allow })],[],⟨⟨1,BD (GN ({ Eu with N:=j.N,Allow:=j.Allow })),true,16,AA,AA,AA,UH,Dt AA,VQ,AA⟩,trivial⟩,AA,AA,AA⟩) λh=>AZ<|Dc h (λh=>AZ<|F5<|by rw[←CQ h];exact⟨[Ia ({ Eu with N:=j.N })],[],⟨⟨1,BD (GN ({ Eu with N:=j.N })),true,16,AA,AA,AA,UH,Dt AA,VQ,AA⟩,trivial⟩,AA,AA,AA⟩) λh=>AZ<|Dc h (λh=>AZ<|F5<|by rw[←CQ h];exact⟨[Ia ({ Eu with Allow:=j.Allow,iK:=j.iK })],[],⟨⟨1,BD (GN ({ Eu with Allow:=j.Allow,iK:=j.iK })),true,16,AA,AA,AA,UH,Dt AA,VQ,AA⟩,trivial⟩,AA,AA,AA⟩) λh=>AZ<|BJ h (λh=>AZ<|F5<|by rw[←CQ h];exact⟨[Ia ({ Eu with Target:=j.Target })],[],⟨⟨1,BD (GN ({ Eu with Target:=j.Target })),true,16,AA,AA,AA,UH,Dt AA,VQ,AA⟩,trivial⟩,AA,AA,AA⟩) λh=>AZ<|F5<|by rw[←CQ h];exact⟨[Ia Eu],[],⟨⟨1,BD (GN Eu),true,16,AA,AA,AA,UH,Dt AA,VQ,AA⟩,trivial⟩,AA,AA,AA⟩
def XJ (j:AQ):AB AQ:=(xE j.Kind j.Content).bind λq=>some ({ j with Content:=q })
def X3 :=Dk func114 rfl XJ DY DY λj r h=>AZ<|AO h λq u h=>AP 4<|.ca (aVZ u)<|aRo
def aDa (j:AU)(q:AU)(k3:(Int->AB AX)):Int->AB AX:=λv2=>(bif v2<(j.length:Int) then(Aq j v2).bind λu=>(Aq q v2).bind λz=>(bif (u != z)then some false else k3 (Aw (v2+1)))else some true)
def aPB (j:AU)(q:AU):Int->AB AX:=bC (aDa j q) Ar
def rJ (j:AU)(q:AU):AB AX:=(bif ((j.length:Int) != (q.length:Int))then some false else aPB j q 0)
def ahB :=DZ func43 rfl rJ Bg Bg Af λj q r h=>AZ<|Aa<|AP 1<|.p (BK Ac j)<|.a 1<|.Z (BK Ac q)<|BJ h CJ λh=>Aa<|AZ<|Am<|Du (λu=>⟨BA 26 [(0,Bg j),(1,Bg q),(5,AY u)],[],0⟩) _ _ _ (Ae []) h<|λu z I J h=>Aa<|AP 2<|.Z (BK Ac j)<|Bo h (λh=>Aa<|Am<|Bv h λu z J L h=>F9 AA AA AA (.a 2<|.p (BH Ac z)<|.a 3<|.p (BH Ac L)<|.a 2<|.nil _)<|BJ h CJ λh=>Sz) λh=>Eo
abbrev Gi:=A8 BO
def a0Z (j:Gi)(q:Gi)(k3:(Int->AB AX)):Int->AB AX:=λv2=>(bif v2<(j.length:Int) then(Aq j v2).bind λu=>(Aq q v2).bind λz=>(bif (!(u.toList==z.toList))then some false else k3 (Aw (v2+1)))else some true)
def aIu (j:Gi)(q:Gi):Int->AB AX:=bC (a0Z j q) Ar
def XW (j:Gi)(q:Gi):AB AX:=(bif ((j.length:Int) != (q.length:Int))then some false else aIu j q 0)
def aYi :=DZ func181 rfl XW Ie Ie Af λj q r h=>AZ<|Aa<|AP 1<|.p (BK DX j)<|.a 1<|.Z (BK DX q)<|BJ h CJ λh=>Aa<|AZ<|Am<|Du (λu=>⟨BA 26 [(0,Ie j),(1,Ie q),(5,AY u)],[],0⟩) _ _ _ (Ae []) h<|λu z I J h=>Aa<|AP 2<|.Z (BK DX j)<|Bo h (λh=>Aa<|Am<|Bv h λu z J L h=>F9 AA AA AA (.a 2<|.p (BH DX z)<|.a 3<|.p (BH DX L)<|.a 2<|.nil _)<|BJ h CJ λh=>Sz) λh=>Eo
def a2d (j:(Int->AB AX))(q:Int)(u:AX):AB AX:=(bif u then some false else j (Aw (q+1)))
def a1g (j:(Int->AB AX))(q:Int)(u:AX):AB AX:=(bif u then some false else j (Aw (q+1)))
def a8c (j:Cx)(q:Cx)(z:(Int->AB AX)):Int->AB AX:=λu=>(bif u<(j.Kinds.length:Int) then(Aq j.Kinds u).bind λI=>(Aq q.Kinds u).bind λJ=>(bif (I.Kind != J.Kind)then a1g z u true else(Aq j.Kinds u).bind λL=>(Aq q.Kinds u).bind λM=>a1g z u (L.N != M.N))else(bif (j.User==q.User)then some (j.Message==q.Message)else some false).bind λO=>(bif O then some (j.State==q.State)else some false).bind λU=>(bif U then some (j.gW==q.gW)else some false).bind λY=>(bif Y then some (j.kS==q.kS)else some false).bind λZ=>(bif Z then some (j.oN==q.oN)else some false).bind λx34=>(bif x34 then some (j.iq==q.iq)else some false).bind λx36=>some x36)
def qE (j:Cx)(q:Cx):Int->AB AX:=bC (a8c j q) Ar
def a6W (j:Cx)(q:Cx)(M:(Int->AB AX)):Int->AB AX:=λu=>(bif u<(j.Users.length:Int) then(Aq j.Users u).bind λz=>(Aq q.Users u).bind λI=>(bif (!(z.User.toList==I.User.toList))then a2d M u true else(Aq j.Users u).bind λJ=>(Aq q.Users u).bind λL=>a2d M u (J.N != L.N))else qE j q 0)
def aAU (j:Cx)(q:Cx):Int->AB AX:=bC (a6W j q) Ar
def dD (j:Cx)(q:Cx):AB AX:=(bif ((j.Users.length:Int) != (q.Users.length:Int))then some true else some ((j.Kinds.length:Int) != (q.Kinds.length:Int))).bind λu=>(bif u then some false else aAU j q 0)
def aNj :=DZ func182 rfl dD Iy Iy Af λq z r h=>AZ<|Aa<|AP 2<|.p (BK FB q.Users)<|.a 2<|.p (BK FB z.Users)<|.a 1<|AO h λu j h=>.mg 14 8 (Af u) (.bi j (k2:=λh=>.a 2<|.p (BK FD q.Kinds)<|.a 2<|.Z (BK FD z.Kinds)<|D9))<|.aY<|BJ h CJ λh=>Aa<|AZ<|Am<|Du (λu=>⟨BA 140 [(2,.ptr 0 0),(3,.ptr 1 0),(5,AY u)],[.box (BD (FN q)),.box (BD (FN z))],0⟩) _ _ _ (Ae [AV 0,AV 1]) h<|λu j J I h=>Aa<|AP 3<|.Z (BK FB q.Users)<|Bo h (λh=>Aa<|Am<|DC (λs=>∃(O:AX),CP s ⟨BA 140 [(2,.ptr 0 0),(3,.ptr 1 0),(5,AY I),(57,Af O)],[.box (BD (FN q)),.box (BD (FN z))],0⟩/\a2d j I O=some r) (by rintro s ⟨O,hs,h⟩;exact DK hs<|aWs)<|λu=>Bv h λj J I M h=>EU h (λj h=>DV AA AA AA (.a 3<|.p (BH FB J)<|.a 5<|.p (BH FB M)<|.a 3<|.c (BG some j)<|.a 14<|.nil _)<|u _ ⟨true,Ae [AV 0,AV 1],h⟩) λj h=>Bv h λI U Y Z h=>DV AA AA AA (.a 3<|.p (BH FB J)<|.a 5<|.p (BH FB M)<|.a 3<|.c (BG some j)<|.a 3<|.p (BH FB U)<|.a 5<|.p (BH FB Z)<|.a 4<|.nil _)<|u _ ⟨(I.N != Y.N),Ae [AV 0,AV 1],h⟩) λh=>Cj<|Aa<|AZ<|Am<|Du (λu=>⟨BA 140 [(2,.ptr 0 0),(3,.ptr 1 0),(6,AY u)],[.box (BD (FN q)),.box (BD (FN z))],0⟩) _ _ _ (Ae [AV 0,AV 1]) h<|λu j J I h=>Aa<|AP 3<|.Z (BK FD q.Kinds)<|Bo h (λh=>Aa<|Am<|DC (λs=>∃(L:AX),CP s ⟨BA 140 [(2,.ptr 0 0),(3,.ptr 1 0),(6,AY I),(92,Af L)],[.box (BD (FN q)),.box (BD (FN z))],0⟩/\a1g j I L=some r) (by rintro s ⟨L,hs,h⟩;exact DK hs<|aWs)<|λu=>Bv h λj J I M h=>EU h (λj h=>DV AA AA AA (.a 3<|.p (BH FD J)<|.a 5<|.p (BH FD M)<|.a 3<|.c (BG some j)<|.a 14<|.nil _)<|u _ ⟨true,Ae [AV 0,AV 1],h⟩) λj h=>Bv h λI U Y Z h=>DV AA AA AA (.a 3<|.p (BH FD J)<|.a 5<|.p (BH FD M)<|.a 3<|.c (BG some j)<|.a 3<|.p (BH FD U)<|.a 5<|.p (BH FD Z)<|.a 4<|.nil _)<|u _ ⟨(I.N != Y.N),Ae [AV 0,AV 1],h⟩) λh=>Cj<|AP 5<|AO h λu j h=>.mg 98 6 (Af u) (.bi j)<|.a 1<|AO h λu j h=>.mg 106 5 (Af u) (DU j)<|.a 1<|AO h λu j h=>.mg 113 5 (Af u) (DU j)<|.a 1<|AO h λu j h=>.mg 120 5 (Af u) (DU j)<|.a 1<|AO h λu j h=>.mg 127 5 (Af u) (DU j)<|.a 1<|AO h λu j h=>.mg 134 5 (Af u) (DU j)<|.aW<|Ch
def XO (j:D8)(q:D8):AB AX:=(bif (j.Text.toList==q.Text.toList)then some (j.N==q.N)else some false).bind λM=>(bif M then some (j.Target==q.Target)else some false).bind λO=>(bif O then some (j.Thread==q.Thread)else some false).bind λU=>(bif U then some (j.Via.toList==q.Via.toList)else some false).bind λY=>(bif Y then(XW j.Allow q.Allow).bind λu=>some u else some false).bind λZ=>(bif Z then(XW j.iK q.iK).bind λz=>some z else some false).bind λI=>(bif I then(dD j.Levels q.Levels).bind λJ=>some J else some false).bind λL=>some L
def aHS :=DZ func106 rfl XO Ia Ia Af λu z r h=>AZ<|AP 5<|AO h λq j h=>.mg 10 6 (Af q) (.bi j)<|.a 1<|AO h λq j h=>.mg 18 5 (Af q) (DU j)<|.a 1<|AO h λq j h=>.mg 25 5 (Af q) (DU j)<|.a 1<|AO h λq j h=>.mg 32 5 (Af q) (DU j)<|.a 1<|AO h λq j h=>.mg 39 5 (Af q) (DU j (λe i=>aPp))<|.a 1<|AO h λq j h=>.mg 46 5 (Af q) (DU j (λe i=>aPp))<|.a 1<|AO h λq j h=>.mg 53 5 (Af q) (DU j (λe i=>by subst e;have h:=i;exact AO h λq j h=>.a 4<|.X (aNj j)<|D9))<|.aW<|Ch
def fP (j:AQ)(q:AQ):AB AX:=(bif (j.Id==q.Id)then some (j.Room.toList==q.Room.toList)else some false).bind λx1=>(bif x1 then some (j.bQ.toList==q.bQ.toList)else some false).bind λx3=>(bif x3 then some (j.Kind==q.Kind)else some false).bind λx5=>(bif x5 then some (j.State==q.State)else some false).bind λx7=>(bif x7 then some (j.Key.toList==q.Key.toList)else some false).bind λx9=>(bif x9 then some (j.Time==q.Time)else some false).bind λu=>(bif u then some (j.Depth==q.Depth)else some false).bind λz=>(bif z then(rJ j.bH q.bH).bind λI=>some I else some false).bind λJ=>(bif J then(rJ j.bJ q.bJ).bind λL=>some L else some false).bind λM=>(bif M then(XO j.Content q.Content).bind λO=>some O else some false).bind λU=>(bif U then some (j.Hash==q.Hash)else some false).bind λY=>(bif Y then some (j.rV.Server.toList==q.rV.Server.toList)else some false).bind λZ=>(bif Z then some (j.rV.Sum==q.rV.Sum)else some false).bind λx28=>some x28
def a0x :=DZ func36 rfl fP DY DY Af λu z r h=>AZ<|AP 5<|AO h λq j h=>.mg 10 6 (Af q) (.bi j)<|.a 1<|AO h λq j h=>.mg 18 5 (Af q) (DU j)<|.a 1<|AO h λq j h=>.mg 25 5 (Af q) (DU j)<|.a 1<|AO h λq j h=>.mg 32 5 (Af q) (DU j)<|.a 1<|AO h λq j h=>.mg 39 5 (Af q) (DU j)<|.a 1<|AO h λq j h=>.mg 46 5 (Af q) (DU j)<|.a 1<|AO h λq j h=>.mg 53 5 (Af q) (DU j)<|.a 1<|AO h λq j h=>.mg 60 5 (Af q) (DU j (λe i=>aOv))<|.a 1<|AO h λq j h=>.mg 67 5 (Af q) (DU j (λe i=>aOv))<|.a 1<|AO h λq j h=>.mg 74 5 (Af q) (DU j (λe i=>by subst e;have h:=i;exact AO h λq j h=>.a 4<|.X (aHS j)<|D9))<|.a 1<|AO h λq j h=>.mg 81 5 (Af q) (DU j)<|.a 1<|AO h λq j h=>.mg 88 7 (Af q) (DU j)<|.a 1<|AO h λq j h=>.mg 97 7 (Af q) (DU j)<|.aW<|Ch
def Xy (z:(Int->AU->AB AU)):Int->AU->AB AU:=λj u=>(bif j>=128 then(X4 j 128).bind λI=>(DL 1 u [IntKind.u8.wrap (IntKind.u64.wrap (I+128))]).bind λJ=>(xO .u64 j 128).bind λL=>z L J else(DL 1 u [IntKind.u8.wrap j]).bind λq=>some q)
def aTo  :Int->AU->AB AU:=aQ (Xy) Ar
def a6L (v2:Int):AB AU:=aTo v2 []
def vW (j:Int):AB AU:=(QO .shl .u64 (IntKind.u64.wrap j) 1).bind λq=>(bif j<0 then a6L (gU .u64 q)else a6L q)
def aRP :=L8 func194 rfl vW AY Iw λz r h=>BP<|.f (Cc 5 1)<|.aY<|AO h λq j h=>AP 2<|.Z (a3Q (k:=.u64) (k':=.u64) j)<|DC (λs=>∃(v2:Int),CP s ⟨BA 28 [(3,.d ((pG .u64) v2))],[],0⟩/\a6L v2=some r) (by rintro s ⟨v2,hs,h⟩;exact DK hs<|BP<|.f (Cc 5 1)<|.aY<|Aa<|Am<|DW (λq j=>⟨BA 28 [(3,.d ((pG .u64) q)),(4,.aS 0)],[(Iw j)],0⟩) _ _ _ _ (Ae [AV 0]) h<|λq j L I J h=>Aa<|AZ<|Bo h (λh=>Am<|Bv h λq j I J h=>AP 2<|.p (aCd (k:=.u64) j)<|.a 2<|.p (EI Jv SP [Dn (IntKind.u8.wrap (IntKind.u64.wrap (q+128)))])<|.Y (Dv (k:=0) Dn J Jv AA (λ_=>rfl) Bj)<|AO h λq j h=>CZ<|.a 1<|.p (ae3 (k:=.u64) j)<|.aN<|L _ _ _ (Ae [AV 1]) h) λh=>Cj<|AO h λq j h=>AP 3<|.p (EI Jv SP [Dn (IntKind.u8.wrap I)])<|.Y (Dv (k:=0) Dn j Jv AA (λ_=>rfl) Bj)<|KA)<|λj=>AZ<|BJ h (λh=>CZ<|.a 1<|.p (aR2 (k:=.u64) (u:=q))<|.aN<|j _ ⟨(gU .u64 q),Ae [],h⟩) λh=>j _ ⟨q,Ae [],h⟩
def MQ (j:AU)(q:Int):AB AU:=(DL 1 [] j).bind λu=>(vW q).bind λz=>(DL 1 u z).bind λI=>some I
def Oc :=GZ func117 rfl MQ Ii AY Iw λj q r h=>BP<|.f (Cc 5 1)<|.aY<|Hz h λJ u L z M I h=>BP<|.f (Hy Jv SP [])<|.a 1<|.f (Dv (k:=1) Dn u Jv AA (λ_=>rfl) Bj)<|.a 1<|.ca (aRP z).view<|.Y (Dv (k:=2) Dn I Jv AA (λ_=>rfl) Bj)<|oP
def Rz (q:AU)(j:BO):AB AU:=(MQ q (j.size:Int)).bind λu=>(DL 1 u (DR j)).bind λz=>some z
def YG :=GZ func116 rfl Rz Ii D7 Iw λq j r h=>BP<|.f (Cc 5 1)<|.aY<|Bv h λI u J z h=>AP 3<|.f (x:=.aS 1) (Jo [Ii q,AY (j.size:Int)] (Oc u))<|.a 1<|.p (amR (s:=j) IB aAq a2i)<|.Y (Dv (k:=1) Dn z Jv AA (λ_=>rfl) Bj)<|LX
def mQ (q:AU)(j:AX):AB AU:=(DL 1 [] q).bind λu=>(bif j then(DL 1 u [1]).bind λz=>some z else(DL 1 u [0]).bind λI=>some I)
def aQu :=GZ func328 rfl mQ Ii Af Iw λu q r h=>BP<|.f (Cc 5 1)<|.aY<|AO h λz j h=>BP<|.f (Hy Jv SP [])<|.a 1<|.Y (Dv (k:=1) Dn j Jv AA (λ_=>rfl) Bj)<|Aa<|AZ<|BJ h (λh=>AO h λz j h=>AP 1<|.p (EI Jv SP [Dn 1])<|.Y (Dv (k:=2) Dn j Jv AA (λ_=>rfl) Bj)<|oP) λh=>AO h λz j h=>AP 1<|.p (EI Jv SP [Dn 0])<|.Y (Dv (k:=2) Dn j Jv AA (λ_=>rfl) Bj)<|oP
def a3z (j:Gi)(u:(AU->Int->AB AU)):AU->Int->AB AU:=λv2 q=>(bif q<(j.length:Int) then(Aq j q).bind λz=>(Rz v2 z).bind λI=>u I (Aw (q+1))else some v2)
def aOm (j:Gi):AU->Int->AB AU:=aQ (a3z j) Ar
def wu (q:AU)(j:Gi):AB AU:=(MQ q (j.length:Int)).bind λu=>aOm j u 0
def aOa :=GZ func329 rfl wu Ii Ie Iw λz j r h=>BP<|.f (Cc 5 1)<|.aY<|AO h λq u h=>AP 2<|.p (BK DX j)<|.Y (x:=.aS 1) (Jo [Ii z,AY (j.length:Int)] (Oc u))<|Aa<|AZ<|Am<|DW (λq u=>⟨BA 24 [(1,Ie j),(5,.aS 0),(6,AY u)],[(Iw q)],0⟩) _ _ _ _ (Ae [AV 1]) h<|λq u J I L h=>Aa<|AP 2<|.Z (BK DX j)<|Bo h (λh=>Aa<|Am<|Bv h λq u L M h=>CZ<|.a 3<|.p (BH DX u)<|.a 1<|.f (Je (eH:=[.aS 0,D7 q]) (fB:=[.d (.sl (List.map Dn I)),D7 q]) (YG M) (λx q=>O7) aEB ⟨⟨5,1,List.map Dn I,AA,rfl⟩,rfl,trivial⟩ rfl)<|aGY) λh=>JE
def aI0 (j:Cx):AB AU:=some [j.User,j.Message,j.State,j.gW,j.kS,j.oN,j.iq]
def aXh :=L8 func330 rfl aI0 Iy Ci λj r h=>AP 1<|.f (Cc 3 1)<|.aY<|AP 14<|.Y (Hy Dx zero3 [Ac j.User,Ac j.Message,Ac j.State,Ac j.gW,Ac j.kS,Ac j.oN,Ac j.iq])<|LX
def a6f (q:AU)(z:(AU->Int->AB AU)):AU->Int->AB AU:=λu j=>(bif j<(q.length:Int) then(Aq q j).bind λI=>(MQ u I).bind λJ=>z J (Aw (j+1))else some u)
def aFp (j:AU):AU->Int->AB AU:=aQ (a6f j) Ar
def aAS (j:D8)(z:(AU->Int->AB AU)):AU->Int->AB AU:=λu q=>(bif q<(j.Levels.Kinds.length:Int) then(Aq j.Levels.Kinds q).bind λI=>(MQ u I.Kind).bind λJ=>(Aq j.Levels.Kinds q).bind λL=>(MQ J L.N).bind λM=>z M (Aw (q+1))else(aI0 j.Levels).bind λO=>aFp O u 0)
def aKM (j:D8):AU->Int->AB AU:=aQ (aAS j) Ar
def aBM (j:D8)(u:(AU->Int->AB AU)):AU->Int->AB AU:=λO q=>(bif q<(j.Levels.Users.length:Int) then(Aq j.Levels.Users q).bind λz=>(Rz O z.User).bind λI=>(Aq j.Levels.Users q).bind λJ=>(MQ I J.N).bind λL=>u L (Aw (q+1))else(MQ O (j.Levels.Kinds.length:Int)).bind λM=>aKM j M 0)
def aWr (j:D8):AU->Int->AB AU:=aQ (aBM j) Ar
def lU (j:D8):AB AU:=(Rz [] j.Text).bind λq=>(MQ q j.N).bind λu=>(MQ u j.Target).bind λz=>(mQ z j.Thread).bind λI=>(Rz I j.Via).bind λJ=>(wu J j.Allow).bind λL=>(wu L j.iK).bind λM=>(MQ M (j.Levels.Users.length:Int)).bind λO=>aWr j O 0
def aUB :=L8 func265 rfl lU Ia Iw λj r h=>AP 1<|.f (Cc 5 1)<|.aY<|AO h λq u h=>AP 2<|.Y (x:=.aS 2) (Jo [.d (.lit (.slice none 0 0)),D7 j.Text] (YG u))<|AO h λu z h=>AP 3<|.Y (Je (eH:=[.aS 2,AY j.N]) (fB:=[.d (.sl (List.map Dn q)),AY j.N]) (Oc z) (λx q=>O7) Zl ⟨⟨5,1,List.map Dn q,AA,rfl⟩,rfl,trivial⟩ rfl)<|AO h λq z h=>AP 3<|.Y (Je (eH:=[.aS 3,AY j.Target]) (fB:=[.d (.sl (List.map Dn u)),AY j.Target]) (Oc z) (λx q=>O7) Zl ⟨⟨5,1,List.map Dn u,AA,rfl⟩,rfl,trivial⟩ rfl)<|AO h λu z h=>AP 3<|.Y (Je (eH:=[.aS 4,Af j.Thread]) (fB:=[.d (.sl (List.map Dn q)),Af j.Thread]) (aQu z) (λx q=>O7) aYA ⟨⟨5,1,List.map Dn q,AA,rfl⟩,rfl,trivial⟩ rfl)<|AO h λq z h=>AP 3<|.Y (Je (eH:=[.aS 5,D7 j.Via]) (fB:=[.d (.sl (List.map Dn u)),D7 j.Via]) (YG z) (λx q=>O7) aEB ⟨⟨5,1,List.map Dn u,AA,rfl⟩,rfl,trivial⟩ rfl)<|AO h λu z h=>AP 3<|.Y (Je (eH:=[.aS 6,Ie j.Allow]) (fB:=[.d (.sl (List.map Dn q)),Ie j.Allow]) (aOa z) (λx q=>O7) aP4 ⟨⟨5,1,List.map Dn q,AA,rfl⟩,rfl,trivial⟩ rfl)<|AO h λq z h=>AP 3<|.Y (Je (eH:=[.aS 7,Ie j.iK]) (fB:=[.d (.sl (List.map Dn u)),Ie j.iK]) (aOa z) (λx q=>O7) aP4 ⟨⟨5,1,List.map Dn u,AA,rfl⟩,rfl,trivial⟩ rfl)<|AZ<|AO h λu z h=>AP 3<|.p (BK FB j.Levels.Users)<|.Y (Je (eH:=[.aS 8,AY (j.Levels.Users.length:Int)]) (fB:=[.d (.sl (List.map Dn q)),AY (j.Levels.Users.length:Int)]) (Oc z) (λx q=>O7) Zl ⟨⟨5,1,List.map Dn q,AA,rfl⟩,rfl,trivial⟩ rfl)<|Aa<|AZ<|Am<|DW (λq u=>⟨BA 109 [(3,.aS 0),(4,.ptr 1 0),(5,AY u)],[(Iw q),.box (BD (FN j.Levels))],0⟩) _ _ _ _ (Ae [AV 10,AV 9]) h<|λq u z I J h=>Aa<|AP 3<|.Z (BK FB j.Levels.Users)<|Bo h (λh=>Aa<|Am<|Bv h λq u J L h=>AP 4<|.p (BH FB u)<|.a 2<|.Y (Je (eH:=[.aS 0,D7 q.User]) (fB:=[.d (.sl (List.map Dn I)),D7 q.User]) (YG L) (λx q=>O7) aEB ⟨⟨5,1,List.map Dn I,AA,rfl⟩,rfl,trivial⟩ rfl)<|Bv h λq u I L h=>CZ<|.a 4<|.p (BH FB u)<|.a 2<|.f (Je (eH:=[.aS 2,AY q.N]) (fB:=[.d (.sl (List.map Dn J)),AY q.N]) (Oc L) (λx q=>O7) Zl ⟨⟨5,1,List.map Dn J,AA,rfl⟩,rfl,trivial⟩ rfl)<|.aN<|DJ<|z _ _ _ (Ae [AV 3,AV 1]) h) λh=>Cj<|AO h λq u h=>AP 3<|.p (BK FD j.Levels.Kinds)<|.Y (Je (eH:=[.aS 0,AY (j.Levels.Kinds.length:Int)]) (fB:=[.d (.sl (List.map Dn I)),AY (j.Levels.Kinds.length:Int)]) (Oc u) (λx q=>O7) Zl ⟨⟨5,1,List.map Dn I,AA,rfl⟩,rfl,trivial⟩ rfl)<|Aa<|AZ<|Am<|DW (λq u=>⟨BA 109 [(3,.aS 0),(4,.ptr 1 0),(6,AY u)],[(Iw q),.box (BD (FN j.Levels))],0⟩) _ _ _ _ (Ae [AV 2,AV 1]) h<|λq u z I J h=>Aa<|AP 3<|.Z (BK FD j.Levels.Kinds)<|Bo h (λh=>Aa<|Am<|Bv h λq u J L h=>AP 4<|.p (BH FD u)<|.a 2<|.Y (Je (eH:=[.aS 0,AY q.Kind]) (fB:=[.d (.sl (List.map Dn I)),AY q.Kind]) (Oc L) (λx q=>O7) Zl ⟨⟨5,1,List.map Dn I,AA,rfl⟩,rfl,trivial⟩ rfl)<|Bv h λq u I L h=>CZ<|.a 4<|.p (BH FD u)<|.a 2<|.f (Je (eH:=[.aS 2,AY q.N]) (fB:=[.d (.sl (List.map Dn J)),AY q.N]) (Oc L) (λx q=>O7) Zl ⟨⟨5,1,List.map Dn J,AA,rfl⟩,rfl,trivial⟩ rfl)<|.aN<|DJ<|z _ _ _ (Ae [AV 3,AV 1]) h) λh=>Cj<|AO h λq u h=>AP 1<|.X (aXh u).view<|Aa<|AZ<|Am<|DW (λu z=>⟨BA 109 [(3,.aS 0),(7,Bg q),(8,AY z)],[(Iw u)],0⟩) _ _ _ _ (Ae [AV 0]) h<|λu z I J L h=>Aa<|AP 2<|.Z (BK Ac q)<|Bo h (λh=>Aa<|Am<|Bv h λq u z L h=>CZ<|.a 3<|.p (BH Ac u)<|.a 1<|.f (Je (eH:=[.aS 0,AY q]) (fB:=[.d (.sl (List.map Dn J)),AY q]) (Oc L) (λx q=>O7) Zl ⟨⟨5,1,List.map Dn J,AA,rfl⟩,rfl,trivial⟩ rfl)<|aKE) λh=>JE
def aBy  :AB Int:=some 860922984064492325
def afP (r:Int)(h:aBy=some r):E9 196 [] [] (AY r) []:=Ec func196 rfl<|Zy
def aE4 (j:AU)(u:(Int->Int->AB Int)):Int->Int->AB Int:=λv2 q=>(bif q<(j.length:Int) then(Aq j q).bind λz=>(X4 (IntKind.u64.wrap ((F8 .xor .u64 v2 (IntKind.u64.wrap z))*1099511628211)) 4611686018427387904).bind λI=>u I (Aw (q+1))else some (Aw v2))
def aM4 (j:AU):Int->Int->AB Int:=aQ (aE4 j) Ar
def aGg (j:Int)(q:AU):AB Int:=(X4 (IntKind.u64.wrap j) 4611686018427387904).bind λu=>aM4 q u 0
def aYe :=DZ func195 rfl aGg AY Ii AY λI j r h=>AZ<|AO h λz q h=>AP 2<|.Z (aCd (k:=.u64) q)<|Aa<|AZ<|Am<|DW (λz q=>⟨BA 27 [(1,Ii j),(5,.d ((pG .u64) z)),(6,AY q)],[],0⟩) _ _ _ _ (Ae []) h<|λz q J L M h=>Aa<|AP 2<|.Z (BK Dn j)<|Bo h (λh=>Aa<|Am<|Bv h λz q M O h=>CZ<|.a 3<|.p (BH Dn q)<|.a 2<|.p (aNP (k:=.u64) (u:=L) (v:=(IntKind.u64.wrap z)))<|.a 1<|.p (aCd (k:=.u64) O)<|.aN<|DJ<|J _ _ _ (Ae []) h) λh=>Eo
def wW (j:AU):AB Int:=(aBy).bind λq=>(aGg q j).bind λu=>some u
def aPU :=Dk func119 rfl wW Ii AY λj r h=>AZ<|Bv h λq u I z h=>BP<|.ca (afP  q u)<|.a 1<|.X (aYe z)<|Ch
def a2W (j:AQ):AB Int:=(lU j.Content).bind λq=>(wW q).bind λu=>some u
def ag9 :=Dk func193 rfl a2W DY AY λj r h=>AZ<|Bv h λz q I u h=>AP 2<|.ca (aUB q).view<|.X (aPU u)<|Ch
def UW (j:AQ):AB AX:=(a2W j).bind λq=>some (q==j.Hash)
def iL :=Dk func115 rfl UW DY Af λj r h=>AZ<|AO h λu q h=>F9 AA AA AA (.a 1<|.ca (ag9 q)<|.a 4<|.nil _)<|Ch
def zS (j:AX):AB AX:=some j
def aAN (j:AQ)(q:AQ):AB AX:=(XJ j).bind λz=>(XJ q).bind λI=>(fP z I).bind λJ=>(bif (!J)then zS true else(UW j).bind λL=>(bif L then(UW q).bind λM=>(bif M then(fP j q).bind λu=>zS (!u)else zS false)else zS false))
def aef :=DZ func42 rfl aAN DY DY Af λY Z r h=>AZ<|DC (λs=>∃(M:AX),CP s ⟨BA 25 [(4,Af M)],[],0⟩/\zS M=some r) (by rintro s ⟨M,hs,h⟩;exact DK hs<|Ch)<|λz=>Hz h λx2 I x4 J x6 L h=>EU h (λj h=>DV AA AA AA (.a 1<|.ca (X3 I)<|.a 1<|.ca (X3 J)<|.ca (a0x L)<|.a 1<|.c (BG some j)<|.a 14<|.nil _)<|z _ ⟨true,Ae [],h⟩) λj h=>AO h λx7 q h=>by cases x7 with |true=>exact(have h:=S9 rfl h;AO h λx9 u h=>by cases x9 with |true=>exact(have h:=S9 rfl h;AO h λO U h=>DV AA AA AA (.a 1<|.ca (X3 I)<|.a 1<|.ca (X3 J)<|.ca (a0x L)<|.a 1<|.c (BG some j)<|.a 1<|.ca (iL q)<|.a 2<|.ca (iL u)<|.a 4<|.ca (a0x U)<|.a 4<|.nil _)<|z _ ⟨(!O),Ae [],h⟩)|false=>exact(have h:=Sr rfl h;DV AA AA AA (.a 1<|.ca (X3 I)<|.a 1<|.ca (X3 J)<|.ca (a0x L)<|.a 1<|.c (BG some j)<|.a 1<|.ca (iL q)<|.a 2<|.ca (iL u)<|.a 9<|.nil _)<|z _ ⟨false,Ae [],h⟩))|false=>exact(have h:=Sr rfl h;DV AA AA AA (.a 1<|.ca (X3 I)<|.a 1<|.ca (X3 J)<|.ca (a0x L)<|.a 1<|.c (BG some j)<|.a 1<|.ca (iL q)<|.a 12<|.nil _)<|z _ ⟨false,Ae [],h⟩)
def a0s (j:AU):AB AU:=(DL 8 [] j).bind λq=>some q
def aMf {ng r}(h:a0s ng=some r):E9 183 [Bg ng] [] (.aS 0) [(Ci r)]:=by
 refine Ec func183 rfl ?_;unfold a0s at h;refine BP<|.f (Cc 3 1)<|.aY<|Aa<|qM (x:=.tmp 3) (t':=27) (d:=4) (es:=List.map Ac ng) 1 rfl (.a 1<|.nil _) AA AA AA JW AA ?_;intro b j;cases b
 ·clear j;refine Nq AA<|Ew ?_;obtain⟨u,q,h⟩:=Dl h;refine BP<|.f (Hy Dx zero3 [])<|.a 1<|.f (Dv (k:=1) Ac q Dx AA (λ_=>rfl) Bj)<|.aM 1 ?_;rw[←CQ h];exact .ret (Et [AV 2])
 replace j:=kF j;replace h:some []=some r:=oL
 refine OJ AA<|BP<|.f (Cc 3 1)<|.aY ?_;rw[←CQ h];exact .ret (Et [AV 1])
def UZ (j:AU):AB AU:=(a0s j).bind λq=>(PV q).bind λu=>(YA u).bind λz=>some z
def aZ :=L8 func125 rfl UZ Bg Ci λj r h=>BP<|.f (Cc 3 1)<|.aY<|AO h λu q h=>AP 1<|.Y (x:=.aS 1) (Jo [Bg j] (aMf q))<|AO h λq z h=>AP 1<|.f (x:=.eX []) (EL [.ent 1] [.aS 1] (a0W u q z))<|.aY<|AO h λu z h=>AP 1<|.Y (x:=.aS 2) (EL [.ent 1] [.aS 1] (aH3 q u z))<|LX
def cmp_isNaN_int (j:Int):AB AX:=some (j != j)
def aUu :=Dk func268 rfl cmp_isNaN_int AY Af λj r h=>Zy
def cmp_Less_int (j:Int)(q:Int):AB AX:=(cmp_isNaN_int j).bind λu=>(bif u then(cmp_isNaN_int q).bind λz=>some (!z)else some false).bind λI=>(bif I then some true else some (decide (j<q))).bind λJ=>some J
def alJ :=DZ func199 rfl cmp_Less_int AY AY Af λu z r h=>AZ<|AO h λq j h=>AP 1<|.ca (aUu j)<|.a 1<|AO h λq j h=>.mg 8 3 (Af q) (DU j (λe i=>by subst e;have h:=i;exact AO h λq j h=>.a 1<|.X (aUu j)<|D9))<|.a 1<|AO h λq j h=>.mg 13 3 (Af q) (DU j)<|.aW<|Ch
def aAs (j:Int):AB AX:=some (j != j)
def aNF :=Dk func200 rfl aAs AY Af λj r h=>Zy
def aSY (q:AU)(j:Int)(k3:(Int->Int->AB (Int×AX))):Int->Int->AB (Int×AX):=λu v2=>(bif u<v2 then(QO .shr .u64 (IntKind.u64.wrap (Aw (u+v2))) 1).bind λz=>(Aq q (Aw z)).bind λY=>(cmp_Less_int Y j).bind λZ=>(bif Z then k3 (Aw ((Aw z)+1)) v2 else k3 u (Aw z))else(bif u<(q.length:Int) then(Aq q u).bind λI=>(bif (I==j)then some true else(Aq q u).bind λJ=>(aAs J).bind λL=>(bif L then(aAs j).bind λM=>some M else some false).bind λO=>some O).bind λU=>some U else some false).bind λx9=>some (u,x9))
def aQj (q:AU)(j:Int):Int->Int->AB (Int×AX):=aQ (aSY q j) Ar
def a3E (q:AU)(j:Int):AB (Int×AX):=aQj q j 0 (q.length:Int)
def an1 :=DZ func126 rfl a3E Bg AY (λr=>.eX [AY r.1,Af r.2]) λz q r h=>AZ<|AP 1<|.Z (BK Ac z)<|AZ<|Aa<|Am<|DW (λu j=>⟨BA 54 [(0,Bg z),(1,AY q),(6,AY (z.length:Int)),(7,AY u),(8,AY j)],[],0⟩) _ _ _ _ (Ae []) h<|λu j I J L h=>Aa<|AZ<|Bo h (λh=>Am<|AO h λu j h=>AP 4<|.Z (aOF (k:=.u64) (k':=.u64) j)<|Bv h λu j J L h=>AP 2<|.p (BH Ac j)<|.a 2<|.ca (alJ L)<|.aY<|Dc h (λh=>wM) λh=>wM) λh=>Cj<|AP 4<|AO h λu j h=>.mg 35 18 (Af u) (.bi j (λh=>AO h λu j h=>.a 2<|.p (BH Ac j)<|.a 3<|AO h λu j h=>.mg 42 10 (Af u) (.bi j (k2:=λh=>Bv h λu j I J h=>.a 2<|.p (BH Ac j)<|.a 1<|.ca (aNF J)<|.a 1<|AO h λu j h=>.mg 49 2 (Af u) (DU j (λe i=>by subst e;have h:=i;exact AO h λu j h=>.a 1<|.X (aNF j)<|D9))<|.aW<|D9))<|.aW<|D9))<|.aW<|Ch
def aBY (j:(AU->Int->AB AU))(q:Int)(u:AU):AB AU:=j u (Aw (q+1))
def aFq (I:AU)(M:AU)(J:(AU->Int->AB AU)):AU->Int->AB AU:=λq j=>(bif j<(I.length:Int) then(Aq I j).bind λL=>(a3E M L).bind λu=>(bif (!u.2)then(DL 8 q [L]).bind λz=>aBY J j z else aBY J j q)else some q)
def aSO (j:AU)(q:AU):AU->Int->AB AU:=aQ (aFq j q) Ar
def a1N (j:AU)(q:AU):AB AU:=(UZ q).bind λu=>(UZ j).bind λz=>aSO z u [] 0
def al3 :=GZ func51 rfl a1N Bg Bg Ci λL M r h=>BP<|.f (Cc 3 1)<|.aY<|AO h λz j h=>AP 1<|.X (aZ j).view<|BP<|.f (Cc 3 1)<|.aY<|Aa<|AO h λj u h=>AP 1<|.ca (aZ u).view<|.Z (BK Ac j)<|Am<|DW (λu q=>⟨BA 34 [(5,Bg z),(6,.aS 0),(14,Bg j),(15,AY (j.length:Int)),(16,AY q)],[(Ci u)],0⟩) _ _ _ _ (Ae [AV 1]) h<|λu q I U O h=>AZ<|Aa<|Bo h (λh=>DC (λs=>∃(J:(A8 Int)),CP s ⟨BA 34 [(5,Bg z),(6,.aS 0),(14,Bg j),(15,AY (j.length:Int)),(16,AY O)],[(Ci J)],0⟩/\aBY q O J=some r) (by rintro s ⟨J,hs,h⟩;exact DK hs<|UF)<|λj=>Am<|AO h λu q h=>BP<|.Z (BH Ac q)<|AO h λq I h=>AP 2<|.X (an1 I)<|AZ<|BJ h (λh=>AO h λz q h=>CZ<|.a 2<|.p (EI Dx zero3 [Ac u])<|.f (Dv (k:=0) Ac q Dx AA (λ_=>rfl) Bj)<|.aN<|j _ ⟨z,Ae [AV 1],h⟩) λh=>j _ ⟨U,Ae [AV 0],h⟩) λh=>JE
def aVX (j:AU)(q:AU):AB AU:=(a0s j).bind λu=>(DL 8 u q).bind λz=>(UZ z).bind λI=>some I
def aek :=GZ func107 rfl aVX Bg Bg Ci λj q r h=>BP<|.f (Cc 3 1)<|.aY<|Hz h λL z u I M J h=>AP 1<|.f (x:=.aS 1) (Jo [Bg j] (aMf z))<|.a 1<|.f (Dv (k:=1) Ac I Dx AA (λ_=>rfl) Bj)<|.conv _ (Jq (e:=3) (s:=1) 2 (xs:=List.map Ac u) AA)<|.Y (x:=.aS 3) (Jo [Bg u] (aZ J))<|oP
def Zt (j:AU)(q:Int):AB AU:=(Jj 1 0 (j.length:Int) (Aw ((j.length:Int)+q))).bind λu=>some (gCopy u j)
def yU :=GZ func121 rfl Zt Ii AY Iw λj q r h=>BP<|.f (Cc 5 1)<|.aY<|AO h λu z h=>AP 1<|.p (BK Dn j)<|.a 1<|.p (BK Dn j)<|.a 2<|.Y (Zc Dn 0 z Jv SP AA AA AA Bj)<|AP 2<|.f (adL (k:=1) Dn u j Jv AA (λ_=>rfl))<|.aY<|AZ<|KA
def Y7 (u:(AU->Int->AB AU)):AU->Int->AB AU:=λq j=>(bif j>=128 then(DL 1 q [F8 .or .u8 (IntKind.u8.wrap j) 128]).bind λz=>(QO .shr .u64 j 7).bind λI=>u z I else(DL 1 q [IntKind.u8.wrap j]).bind λJ=>some J)
def aWF  :AU->Int->AB AU:=aQ (Y7) Ar
def a4J (j:AU)(v2:Int):AB AU:=aWF j v2
def Zv (j:AU)(q:Int):AB AU:=(QO .shl .u64 (IntKind.u64.wrap q) 1).bind λu=>(bif q<0 then a4J j (gU .u64 u)else a4J j u)
def ru {VA Fa r}(h:Zv VA Fa=some r):E9 122 [.aS 0,AY Fa] [(Iw VA)] (.aS 1) [.dead,(Iw r)]:=Ec func122 rfl<|BP<|.f (Cc 5 1)<|.aY<|AO h λq j h=>AP 2<|.Z (a3Q (k:=.u64) (k':=.u64) j)<|DC (λs=>∃(v2:Int),CP s ⟨BA 28 [(0,.aS 1),(5,.d ((pG .u64) v2))],[.dead,(Iw VA)],1⟩/\a4J VA v2=some r) (by rintro s ⟨v2,hs,h⟩;exact DK hs<|Aa<|Am<|DW (λq j=>⟨BA 28 [(0,.aS 1),(5,.d ((pG .u64) j))],[.dead,(Iw q)],1⟩) _ _ _ _ (Ae [(0,false),AV 1]) h<|λq j I J z h=>Aa<|AZ<|Bo h (λh=>Am<|AO h λq j h=>AP 3<|.p (Y1 (k:=.u8) (u:=(IntKind.u8.wrap z)) (v:=128))<|.p (EI Jv SP [Dn (F8 .or .u8 (IntKind.u8.wrap z) 128)])<|.Y (Dv (k:=1) Dn j Jv AA (λ_=>rfl) Bj)<|AO h λq j h=>CZ<|.a 1<|.p (aOF (k:=.u64) (k':=.u64) j)<|.aN<|I _ _ _ (Ae [(0,false),AV 2]) h) λh=>Cj<|AO h λq j h=>AP 3<|.p (EI Jv SP [Dn (IntKind.u8.wrap z)])<|.Y (Dv (k:=1) Dn j Jv AA (λ_=>rfl) Bj)<|by cases h;exact .ret (Et [(0,false),AV 2]))<|λj=>AZ<|BJ h (λh=>CZ<|.a 1<|.p (aR2 (k:=.u64) (u:=q))<|.aN<|j _ ⟨(gU .u64 q),Ae [(0,false),AV 0],h⟩) λh=>j _ ⟨q,Ae [(0,false),AV 0],h⟩
def a0L (q:AU)(j:BO):AB AU:=(Zv q (j.size:Int)).bind λu=>(DL 1 u (DR j)).bind λz=>some z
def aVM {VA rY r}(h:a0L VA rY=some r):E9 120 [.aS 0,D7 rY] [(Iw VA)] (.aS 1) [.dead,(Iw r)]:=Ec func120 rfl<|BP<|.f (Cc 5 1)<|.aY<|Bv h λu j z q h=>AP 3<|.f (x:=.aS 2) (EL [.ent 0] [.aS 0,AY (rY.size:Int)] (ru j))<|.a 1<|.Y (aeJ (k:=2) q Jv SP IB AA)<|by cases h;exact .ret (Et [(0,false),AV 3])
def Tv (q:AU)(j:BO):AB AU:=(Zt q (Aw ((j.size:Int)+10))).bind λu=>(a0L u j).bind λz=>some z
def a8b :=GZ func47 rfl Tv Ii D7 Iw λq j r h=>BP<|.f (Cc 5 1)<|.aY<|Bv h λI u J z h=>AP 4<|.f (x:=.aS 1) (Jo [Ii q,AY (Aw ((j.size:Int)+10))] (yU u))<|.a 1<|.Y (x:=.aS 2) (EL [.ent 1] [.aS 1,D7 j] (aVM z))<|LX
def Ou (j:AU)(q:Int):AB AU:=(Zt j 10).bind λu=>(Zv u q).bind λz=>some z
def Xw :=GZ func48 rfl Ou Ii AY Iw λj q r h=>BP<|.f (Cc 5 1)<|.aY<|Bv h λI u J z h=>AP 1<|.f (x:=.aS 1) (Jo [Ii j,AY 10] (yU u))<|.a 1<|.Y (x:=.aS 2) (EL [.ent 1] [.aS 1,AY q] (ru z))<|LX
def Uy (j:C9)(q:Int)(k3:(Int->FZ->AB (FZ×AX))):Int->FZ->AB (FZ×AX):=λu v2=>(bif u<(j.Rows.length:Int) then(Aq j.Rows u).bind λz=>(bif (z.Id==q)then some (z,true)else k3 (Aw (u+1)) v2)else some (KW,false))
def aWC (q:C9)(j:Int):Int->FZ->AB (FZ×AX):=aQ (Uy q j) Ar
def Zu (q:C9)(j:Int):AB (FZ×AX):=aWC q j 0 KW
def aKr :=DZ func32 rfl Zu IV AY (λr=>.eX [dK r.1,Af r.2]) λj q r h=>AZ<|Aa<|AP 2<|.Z (BK Em j.Rows)<|Am<|DW (λu z=>⟨BA 22 [(1,AY q),(4,.ptr 0 0),(9,kC j.Rows),(10,AY (j.Rows.length:Int)),(11,AY u)],[.box (BD (Em z))],0⟩) _ _ _ _ (Ae [AV 1]) h<|λu z J L M h=>AZ<|Aa<|Bo h (λh=>Aa<|Am<|AO h λu z h=>BP<|.Z (BH Em z)<|AZ<|BJ h (λh=>AZ<|F5<|by rw[←CQ h];exact⟨[dK u,Af true],[],⟨⟨0,BD (Em u),true,4,AA,AA,AA,vT,Dt AA,NJ,AA⟩,Gq AA,trivial⟩,AA,AA,AA⟩) λh=>mV) λh=>Cj<|AZ<|F5<|by rw[←CQ h];exact⟨[dK KW,Af false],[],⟨⟨0,BD (Em KW),true,4,AA,AA,AA,vT,Dt AA,NJ,AA⟩,Gq AA,trivial⟩,AA,AA,AA⟩
def aJV  :AB Int:=some 860922984064492325
def aaw (r:Int)(h:aJV=some r):E9 124 [] [] (AY r) []:=Ec func124 rfl<|Zy
def aHa (j:AU)(k3:(Int->Int->AB Int)):Int->Int->AB Int:=λq v2=>(bif v2<(j.length:Int) then(Aq j v2).bind λu=>k3 (F8 .and .u64 (IntKind.u64.wrap ((F8 .xor .u64 q (IntKind.u64.wrap u))*1099511628211)) 4611686018427387903) (Aw (v2+1))else some (Aw q))
def aPY (j:AU):Int->Int->AB Int:=aQ (aHa j) Ar
def aIc (j:Int)(q:AU):AB Int:=aPY q (F8 .and .u64 (IntKind.u64.wrap j) 4611686018427387903) 0
def akC :=DZ func123 rfl aIc AY Ii AY λq j r h=>AZ<|AP 2<|.Z (Rk (k:=.u64) (u:=(IntKind.u64.wrap q)) (v:=4611686018427387903))<|Aa<|AP 1<|.Z (BK Dn j)<|Am<|DW (λz I=>⟨BA 26 [(5,.d ((pG .u64) z)),(11,Ii j),(12,AY (j.length:Int)),(13,AY I)],[],0⟩) _ _ _ _ (Ae []) h<|λz I L J M h=>AZ<|Aa<|Bo h (λh=>Aa<|Am<|AO h λz I h=>BP<|.Z (BH Dn I)<|CZ<|.a 3<|.p (aNP (k:=.u64) (u:=J) (v:=(IntKind.u64.wrap z)))<|.a 1<|.p (Rk (k:=.u64) (u:=(IntKind.u64.wrap ((F8 .xor .u64 J (IntKind.u64.wrap z))*1099511628211))) (v:=4611686018427387903))<|.aN<|DJ<|L _ _ _ (Ae []) h) λh=>Eo
def a05 (j:AU):AB Int:=(aJV).bind λq=>(aIc q j).bind λu=>some u
def aLk :=Dk func50 rfl a05 Ii AY λj r h=>AZ<|Bv h λq u I z h=>BP<|.ca (aaw  q u)<|.a 1<|.X (akC z)<|Ch
def Uu (j:C9)(q:Int)(k3:(Int->FZ->AB (FZ×AX))):Int->FZ->AB (FZ×AX):=λu v2=>(bif u<(j.Rows.length:Int) then(Aq j.Rows u).bind λz=>(bif (z.Id==q)then(Aq j.Rows u).bind λI=>some (I,true)else k3 (Aw (u+1)) v2)else some (KW,false))
def aNB (q:C9)(j:Int):Int->FZ->AB (FZ×AX):=aQ (Uu q j) Ar
def rZ (q:C9)(j:Int):AB (FZ×AX):=aNB q j 0 KW
def aMV :=DZ func33 rfl rZ IV AY (λr=>.eX [dK r.1,Af r.2]) λj q r h=>AZ<|Aa<|AZ<|Am<|DW (λu z=>⟨BA 28 [(1,AY q),(2,.ptr 0 0),(4,.ptr 1 0),(6,AY u)],[.box (BD (Cb j)),.box (BD (Em z))],0⟩) _ _ _ _ (Ae [AV 0,AV 1]) h<|λu z J L M h=>Aa<|AP 3<|.Z (BK Em j.Rows)<|Bo h (λh=>Aa<|Am<|AO h λu z h=>AP 3<|.Z (BH Em z)<|BJ h (λh=>AO h λu z h=>AP 3<|.Z (BH Em z)<|F5<|by rw[←CQ h];exact⟨[dK u,Af true],[],⟨⟨1,BD (Em u),true,4,AA,AA,AA,vT,Dt AA,NJ,AA⟩,Gq AA,trivial⟩,AA,AA,AA⟩) λh=>uo) λh=>Cj<|AZ<|F5<|by rw[←CQ h];exact⟨[dK KW,Af false],[],⟨⟨1,BD (Em KW),true,4,AA,AA,AA,vT,Dt AA,NJ,AA⟩,Gq AA,trivial⟩,AA,AA,AA⟩
def aDG (j:BO)(q:BO):AB (BO×BO×AX):=(a6g j q).bind λu=>(bif u>=0 then(OV j 0 u).bind λz=>(OV j (Aw (u+(q.size:Int))) ((j).size)).bind λI=>some (z,I,true)else some (j,Ce,false))
def afi :=DZ func274 rfl aDG D7 D7 (λr=>.eX [D7 r.1,D7 r.2.1,Af r.2.2]) λq j r h=>AZ<|Aa<|AO h λJ u h=>AP 2<|.X (aku q j J u)<|AZ<|BJ h (λh=>Bv h λJ u L z h=>F9 AA AA AA (.a 2<|.p (kG u (λ_=>rfl) NJ IB rfl)<|.a 5<|.p (kG z NJ (λ_=>rfl) IB rfl)<|.a 3<|.nil _)<|Ch) λh=>AZ<|Ch
def strings_Cut (q:BO)(j:BO):AB (BO×BO×AX):=(aDG q j).bind λu=>some (u.1,u.2.1,u.2.2)
def aY5 :=DZ func204 rfl strings_Cut D7 D7 (λr=>.eX [D7 r.1,D7 r.2.1,Af r.2.2]) λq j r h=>AZ<|AO h λz u h=>AP 2<|.X (afi u)<|Ch
def a0A (j:Int):AB AX:=(bif (j==95)then some true else some (j==46)).bind λq=>(bif q then some true else some (j==45)).bind λu=>(bif u then some true else some (j==61)).bind λz=>some z
def ak8 :=Dk func272 rfl a0A (λj=>.d (Dn j)) Af λj r h=>AZ<|AP 2<|AO h λq u h=>.mg 5 3 (Af q) (.bi u)<|.a 1<|AO h λq u h=>.mg 10 2 (Af q) (DU u)<|.a 1<|AO h λq u h=>.mg 14 2 (Af q) (DU u)<|.aW<|Ch
def mD (j:Int):AB AX:=(bif j>=97 then some (decide (j<=122))else some false).bind λq=>(bif q then some true else(bif j>=48 then some (decide (j<=57))else some false).bind λu=>some u).bind λz=>some z
def aD0 :=Dk func271 rfl mD (λj=>.d (Dn j)) Af λj r h=>AZ<|AP 2<|AO h λq u h=>.mg 5 3 (Af q) (.bi u)<|.a 1<|AO h λq u h=>.mg 10 6 (Af q) (DU u (k2:=λe i=>aML))<|.aW<|Ch
def aCy (q:BO)(j:(Int->AB AX))(J:(Int->AB AX)):Int->AB AX:=λu=>(bif u<(q.size:Int) then(Il q u).bind λL=>(mD L).bind λM=>(bif (!M)then(Il q u).bind λz=>(j z).bind λI=>some (!I)else some false).bind λO=>(bif O then some false else J (Aw (u+1)))else some true)
def aEm (q:BO)(j:(Int->AB AX)):Int->AB AX:=bC (aCy q j) Ar
def iO (q:BO)(j:(Int->AB AX)):AB AX:=(bif (q.size:Int)<1 then some true else some (decide ((q.size:Int)>32))).bind λu=>(bif u then some false else aEm q j 0)
def aW8 (z:BO)(q:(Int->AB AX))(j:D)(u:TP Au Dn EC j q)(r:AX)(h:iO z q=some r):E9 269 [D7 z,.d j] [] (Af r) []:=Ec func269 rfl<|AZ<|Aa<|AP 3<|AO h λI J h=>.mg 9 4 (Af I) (.bi J)<|.aY<|BJ h CJ λh=>Aa<|AZ<|Am<|Du (λI=>⟨BA 33 [(0,D7 z),(1,.d j),(15,AY (z.size:Int)),(16,AY I)],[],0⟩) _ _ _ (Ae []) h<|λI J M L h=>AZ<|Aa<|Bo h (λh=>Aa<|Am<|AZ<|Bv h λI J L O h=>AP 2<|.p (LZ (k:=.i64) J IB)<|.ca (aD0 O)<|.a 1<|AO h λI J h=>.mg 24 7 (Af I) (.bi J (λh=>Bv h λI J M L h=>.a 3<|.p (LZ (k:=.i64) J IB)<|.Z (xP (d:=j) (u:TP Au Dn EC j q) L)<|D9))<|.aY<|BJ h CJ λh=>DJ<|M _ _ (Ae []) h) λh=>Eo
def a5l (j:BO):AB AX:=(iO j (λa0=>a0A a0)).bind λq=>some q
def ag4 :=Dk func202 rfl a5l D7 Af λj r h=>AZ<|AO h λq u h=>AP 1<|.X (aW8 j (λq=>a0A q) (.fn (.func 272) [] []) ⟨272,[],rfl,ac9,λq u z=>ak8 z⟩ q u)<|Ch
def zZ (j:Int):AB AX:=(bif (j==46)then some true else some (j==45)).bind λq=>some q
def aeM :=Dk func270 rfl zZ (λj=>.d (Dn j)) Af λj r h=>AZ<|AP 2<|AO h λq u h=>.mg 5 3 (Af q) (.bi u)<|.aW<|Ch
def a4N (j:BO):AB AX:=(iO j (λa0=>zZ a0)).bind λq=>(bif q then(Il j 0).bind λu=>(mD u).bind λz=>some z else some false).bind λI=>(bif I then(Il j (Aw ((j.size:Int)-1))).bind λJ=>(mD J).bind λL=>some L else some false).bind λM=>some M
def aXl :=Dk func201 rfl a4N D7 Af λu r h=>AZ<|AO h λj q h=>AP 1<|.ca (aW8 u (λj=>zZ j) (.fn (.func 270) [] []) ⟨270,[],rfl,an4,λj q z=>aeM z⟩ j q)<|.a 1<|AO h λj q h=>.mg 6 3 (Af j) (DU q (λe i=>by subst e;have h:=i;exact Bv h λj q z I h=>.a 1<|.p (LZ (k:=.i64) q IB)<|.X (aD0 I)<|D9))<|.a 1<|AO h λj q h=>.mg 11 6 (Af j) (DU q (λe i=>by subst e;have h:=i;exact Bv h λj q z I h=>.a 4<|.p (LZ (k:=.i64) q IB)<|.X (aD0 I)<|D9))<|.aW<|Ch
def nG (j:BO)(q:BO):AB (BO×BO×AX):=(bif (j.toList==Ce.toList)then some true else(Il j 0).bind λL=>(strings_IndexByte q L).bind λM=>some (decide (M<0))).bind λO=>(bif O then some (Ce,Ce,false)else(OV j 1 ((j).size)).bind λU=>(strings_Cut U uQ).bind λu=>(bif (!u.2.2)then some true else(a5l u.1).bind λz=>some (!z)).bind λY=>(bif Y then some true else(a4N u.2.1).bind λI=>some (!I)).bind λJ=>(bif J then some (Ce,Ce,false)else some (u.1,u.2.1,true)))
def aO3 :=DZ func130 rfl nG D7 D7 (λr=>.eX [D7 r.1,D7 r.2.1,Af r.2.2]) λz j r h=>AZ<|Aa<|AP 2<|AO h λu q h=>.mg 12 6 (Af u) (.bi q (k2:=λh=>Bv h λu q J I h=>.a 2<|.p (LZ (k:=.i64) q IB)<|.X (afE j u J I)<|D9))<|.aY<|BJ h CJ λh=>Bv h λu q J I h=>AP 1<|.p (kG q aLR (λ_=>rfl) IB rfl)<|.X (aY5 I)<|Aa<|AP 2<|AO h λu q h=>.mg 28 4 (Af u) (.bi q (k2:=λh=>AO h λu q h=>.a 1<|.X (ag4 q)<|D9))<|.a 1<|AO h λu q h=>.mg 34 3 (Af u) (DU q (k2:=λe i=>by subst e;have h:=i;exact AO h λu q h=>.a 1<|.X (aXl q)<|D9))<|.aY<|JO
def yA (q:BO)(j:BO):AB Int:=(nG q j).bind λu=>(bif (!u.2.2)then some 3 else some 0)
def aWL :=DZ func166 rfl yA D7 D7 AY λq j r h=>AZ<|Aa<|AO h λz u h=>AP 2<|.X (aO3 u)<|AZ<|JO
def eP (j:BO):AB Int:=(yA j a5q).bind λq=>some q
def a2E :=Dk func89 rfl eP D7 AY λj r h=>AZ<|AO h λu q h=>AP 1<|.X (aWL q)<|Ch
def aVS (j:BO):AB (C9×Int):=(eP j).bind λq=>(bif (q != 0)then some (O1,3)else some ({ O1 with Id:=j },0))
def abm :=Dk func30 rfl aVS D7 (λr=>.eX [IV r.1,AY r.2]) λj r h=>AZ<|Aa<|AO h λz u h=>AP 1<|.X (a2E u)<|BJ h (λh=>AZ<|F5<|by rw[←CQ h];exact⟨[IV O1,AY 3],[],⟨⟨0,BD (Cb O1),true,9,AA,AA,AA,PD,Dt AA,VQ,AA⟩,Gq AA,trivial⟩,AA,AA,AA⟩) λh=>AZ<|F5<|by rw[←CQ h];exact⟨[IV ({ O1 with Id:=j }),AY 0],[],⟨⟨0,BD (Cb ({ O1 with Id:=j })),true,9,AA,AA,AA,PD,Dt AA,VQ,AA⟩,Gq AA,trivial⟩,AA,AA,AA⟩
def Za (q:AU)(j:AX):AB AU:=(Zt q 1).bind λu=>(bif j then(DL 1 u [1]).bind λz=>some z else(DL 1 u [0]).bind λI=>some I)
def aRe :=GZ func214 rfl Za Ii Af Iw λj u r h=>BP<|.f (Cc 5 1)<|.aY<|AO h λz q h=>AP 1<|.Y (x:=.aS 1) (Jo [Ii j,AY 1] (yU q))<|Aa<|AZ<|BJ h (λh=>AO h λz q h=>AP 1<|.p (EI Jv SP [Dn 1])<|.Y (Dv (k:=1) Dn q Jv AA (λ_=>rfl) Bj)<|LX) λh=>AO h λz q h=>AP 1<|.p (EI Jv SP [Dn 0])<|.Y (Dv (k:=1) Dn q Jv AA (λ_=>rfl) Bj)<|LX
def aF7 (j:Gi)(u:(AU->Int->AB AU)):AU->Int->AB AU:=λv2 q=>(bif q<(j.length:Int) then(Aq j q).bind λz=>(a0L v2 z).bind λI=>u I (Aw (q+1))else some v2)
def aXH (j:Gi):AU->Int->AB AU:=aQ (aF7 j) Ar
def a1u (q:AU)(j:Gi):AB AU:=(Zv q (j.length:Int)).bind λu=>aXH j u 0
def aYo {VA iW r}(h:a1u VA iW=some r):E9 277 [.aS 0,Ie iW,.d (.fn (.func 120) [] [])] [(Iw VA)] (.aS 1) [.dead,(Iw r)]:=Ec func277 rfl<|BP<|.f (Cc 5 1)<|.aY<|AO h λq j h=>AP 2<|.p (BK DX iW)<|.Y (x:=.aS 2) (EL [.ent 0] [.aS 0,AY (iW.length:Int)] (ru j))<|Aa<|AP 1<|.Z (BK DX iW)<|Am<|DW (λq j=>⟨BA 25 [(0,.aS 1),(2,.d (.fn (.func 120) [] [])),(13,Ie iW),(14,AY (iW.length:Int)),(15,AY j)],[.dead,(Iw q)],1⟩) _ _ _ _ (Ae [(0,false),AV 2]) h<|λq j z I u h=>AZ<|Aa<|Bo h (λh=>Aa<|Am<|AO h λq j h=>BP<|.Z (BH DX j)<|AO h λj u h=>CZ<|.a 3<|.f (x:=.aS 2) (aPD [.ent 1] [] [] [.aS 1,D7 q] (aVM u))<|aKx) λh=>Cj<|AZ<|kE
def xC (q:AU)(j:Gi):AB AU:=(Zt q (Aw ((Aw (8*(j.length:Int)))+10))).bind λu=>(a1u u j).bind λz=>some z
def aVy :=GZ func215 rfl xC Ii Ie Iw λq j r h=>BP<|.f (Cc 5 1)<|.aY<|Bv h λI u J z h=>AP 2<|.p (BK DX j)<|.a 2<|.f (x:=.aS 1) (Jo [Ii q,AY (Aw ((Aw (8*(j.length:Int)))+10))] (yU u))<|.a 1<|.Y (x:=.aS 2) (EL [.ent 1] [.aS 1,Ie j,.d (.fn (.func 120) [] [])] (aYo z))<|LX
def aEl (j:D8)(z:(AU->Int->AB AU)):AU->Int->AB AU:=λu q=>(bif q<7 then(Aq ([j.Levels.User,j.Levels.Message,j.Levels.State,j.Levels.gW,j.Levels.kS,j.Levels.oN,j.Levels.iq]:AU) q).bind λI=>(Ou u I).bind λJ=>z J (Aw (q+1))else some u)
def aEy (j:D8):AU->Int->AB AU:=aQ (aEl j) Ar
def a8a (j:D8)(I:(AU->Int->AB AU)):AU->Int->AB AU:=λu q=>(bif q<(j.Levels.Kinds.length:Int) then(Aq j.Levels.Kinds q).bind λz=>(Ou u z.Kind).bind λJ=>(Ou J z.N).bind λL=>I L (Aw (q+1))else aEy j u 0)
def aEb (j:D8):AU->Int->AB AU:=aQ (a8a j) Ar
def a6R (j:D8)(z:(AU->Int->AB AU)):AU->Int->AB AU:=λM q=>(bif q<(j.Levels.Users.length:Int) then(Aq j.Levels.Users q).bind λu=>(Tv M u.User).bind λI=>(Ou I u.N).bind λJ=>z J (Aw (q+1))else(Ou M (j.Levels.Kinds.length:Int)).bind λL=>aEb j L 0)
def aO9 (j:D8):AU->Int->AB AU:=aQ (a6R j) Ar
def qc (j:D8):AB AU:=(Tv [] j.Text).bind λq=>(Ou q j.N).bind λu=>(Ou u j.Target).bind λz=>(Za z j.Thread).bind λI=>(Tv I j.Via).bind λJ=>(xC J j.Allow).bind λL=>(xC L j.iK).bind λM=>(Ou M (j.Levels.Users.length:Int)).bind λO=>aO9 j O 0
def aXC :=Dk func134 rfl qc Ia Ii λj r h=>AZ<|AO h λz q h=>AP 2<|.Z (x:=(Ii z)) (aRZ [.d (.lit (.slice none 0 0)),D7 j.Text] (a8b q).view)<|AO h λq u h=>AP 3<|.X (Xw u).view<|AO h λz u h=>AP 3<|.X (Xw u).view<|AO h λq u h=>AP 3<|.X (aRe u).view<|AO h λz u h=>AP 3<|.X (a8b u).view<|AO h λq u h=>AP 3<|.X (aVy u).view<|AO h λz u h=>AP 3<|.X (aVy u).view<|AZ<|AO h λq u h=>AP 3<|.p (BK FB j.Levels.Users)<|.X (Xw u).view<|Aa<|AP 2<|.Z (BK FB j.Levels.Users)<|Am<|DW (λz q=>⟨BA 103 [(3,Ii z),(4,.ptr 0 0),(46,Pj j.Levels.Users),(47,AY (j.Levels.Users.length:Int)),(48,AY q)],[.box (BD (FN j.Levels))],0⟩) _ _ _ _ (Ae [AV 1]) h<|λz q u L I h=>AZ<|Aa<|Bo h (λh=>Aa<|Am<|AO h λz q h=>BP<|.Z (BH FB q)<|Bv h λq I M J h=>DV AA AA AA (.a 3<|.ca (a8b I).view<|.a 2<|.ca (Xw J).view<|.a 1<|.nil _)<|yN) λh=>Cj<|AO h λz q h=>AP 3<|.p (BK FD j.Levels.Kinds)<|.X (Xw q).view<|Aa<|AP 2<|.Z (BK FD j.Levels.Kinds)<|Am<|DW (λz q=>⟨BA 103 [(3,Ii z),(4,.ptr 0 0),(66,P8 j.Levels.Kinds),(67,AY (j.Levels.Kinds.length:Int)),(68,AY q)],[.box (BD (FN j.Levels))],0⟩) _ _ _ _ (Ae [AV 0]) h<|λz q u L I h=>AZ<|Aa<|Bo h (λh=>Aa<|Am<|AO h λz q h=>BP<|.Z (BH FD q)<|Bv h λq I M J h=>DV AA AA AA (.a 3<|.ca (Xw I).view<|.a 2<|.ca (Xw J).view<|.a 1<|.nil _)<|yN) λh=>Cj<|Aa<|AZ<|Am<|DW (λz q=>⟨BA 103 [(3,Ii z),(94,.d ((OC Ac) ([j.Levels.User,j.Levels.Message,j.Levels.State,j.Levels.gW,j.Levels.kS,j.Levels.oN,j.Levels.iq]:(A8 Int)))),(95,AY q)],[],0⟩) _ _ _ _ (Ae []) h<|λz q u L I h=>AZ<|Aa<|Bo h (λh=>Aa<|Am<|AO h λz q h=>BP<|.Z (a5b (k:=.i64) Ac q a6T FT AA)<|AO h λq I h=>CZ<|.a 2<|.ca (Xw I).view<|.aN<|DJ<|u _ _ _ (Ae []) h) λh=>Eo
def xH (j:AQ):AB Int:=(qc j.Content).bind λq=>(a05 q).bind λu=>some u
def aMH :=Dk func60 rfl xH DY AY λj r h=>AZ<|Bv h λz q I u h=>AP 2<|.ca (aXC q)<|.X (aLk u)<|Ch
def TB (j:AQ):AB AX:=(xH j).bind λq=>some (q==j.Hash)
def Rch :=Dk func137 rfl TB DY Af λj r h=>AZ<|AO h λu q h=>F9 AA AA AA (.a 1<|.ca (aMH q)<|.a 4<|.nil _)<|Ch
def UC (j:Gi):AB Gi:=(DL 16 [] j).bind λq=>some q
def a5a :=L8 func238 rfl UC Ie VU λj r h=>BP<|.f (Cc 9 1)<|.aY<|AO h λu q h=>AP 1<|.Y (a2S 9 1 (Dv (k:=_) DX q OE AA (λ_=>rfl) Bj))<|LX
def jA (j:Cx):AB Cx:=(DL 24 [] j.Users).bind λq=>(DL 16 [] (({ j with Users:=q }).Kinds)).bind λu=>some ({ { j with Users:=q }with Kinds:=u })
def aX2 :=Dk func239 rfl jA Iy Iy λj r h=>AZ<|AO h λu q h=>AP 2<|.f (a2S 146 2 (Dv (k:=_) FB q yI AA (λ_=>rfl) Bj))<|.conv _ (Jq (e:=146) (s:=2) 3 (xs:=List.map FB u) AA)<|.aW<|AO h λq z h=>AP 2<|.f (a2S 221 2 (Dv (k:=_) FD z aD2 AA (λ_=>rfl) Bj))<|.conv _ (Jq (e:=221) (s:=2) 5 (xs:=List.map FD q) AA)<|.aW<|AZ<|F5<|by rw[←CQ h];exact⟨[Iy ({ { j with Users:=u }with Kinds:=q })],[],⟨⟨1,BD (FN ({ { j with Users:=u }with Kinds:=q })),true,9,AA,AA,AA,Zh,Dt AA,NJ,AA⟩,trivial⟩,AA,AA,AA⟩
def zQ (j:AX):AB Int:=(bif j then some 5 else some 0)
def yt (j:Int)(q:AX):AB Int:=(bif q then some 2 else(bif (j==6)then some 96 else(bif (j==7)then some 1 else(bif (j==9)then some 3 else(bif (j==11)then some 13 else(bif (j==12)then zQ (j==12)else(bif (j==13)then zQ (j==13)else zQ (j==14))))))))
def lJ (j:Int):AB Int:=(bif (j==2)then some 19 else(bif (j==3)then some 128 else(bif (j==4)then some 34 else(bif (j==5)then yt j (j==5)else(bif (j==8)then yt j (j==8)else yt j (j==10))))))
def aTD :=Dk func291 rfl lJ AY AY λj r h=>AZ<|Aa<|AZ<|Am<|AZ<|Dc h CJ λh=>AZ<|Dc h CJ λh=>AZ<|Dc h CJ λh=>DC (λs=>∃(z:AX),CP s ⟨BA 26 [(3,AY j),(10,Af z)],[],0⟩/\yt j z=some r) (by rintro s ⟨z,hs,h⟩;exact DK hs<|Dc h CJ λh=>AZ<|Dc h CJ λh=>AZ<|Dc h CJ λh=>AZ<|Dc h CJ λh=>AZ<|Dc h CJ λh=>DC (λs=>∃(q:AX),CP s ⟨BA 26 [(22,Af q)],[],0⟩/\zQ q=some r) (by rintro s ⟨q,hs,h⟩;exact DK hs<|JO)<|aSe)<|aUY
def l7 (j:Int)(v2:AX):AB Int:=(bif v2 then(lJ j).bind λq=>some q else(bif (j==14)then some 4 else some 0))
def oU (j:Int):AB Int:=(bif (j==2)then some 18 else(bif (j==3)then l7 j (j==3)else(bif (j==4)then l7 j (j==4)else(bif (j==5)then l7 j (j==5)else l7 j (j==6)))))
def aTg :=Dk func240 rfl oU AY AY λj r h=>AZ<|Aa<|AZ<|Am<|AZ<|Dc h CJ λh=>DC (λs=>∃(v2:AX),CP s ⟨BA 15 [(0,AY j),(3,AY j),(6,Af v2)],[],0⟩/\l7 j v2=some r) (by rintro s ⟨v2,hs,h⟩;exact DK hs<|Dc h (λh=>AO h λq u h=>AP 1<|.X (aTD u)<|Ch) λh=>AZ<|JO)<|λq=>AZ<|Bo h (λh=>q _ ⟨(j==3),Ae [],h⟩) λh=>AZ<|Bo h (λh=>q _ ⟨(j==4),Ae [],h⟩) λh=>AZ<|Bo h (λh=>q _ ⟨(j==5),Ae [],h⟩) λh=>DJ<|q _ ⟨(j==6),Ae [],h⟩
def aF5 (j:D8):AB D8:=some j
def aEv (z:Int)(j:D8)(q:D8):AB D8:=(bif ((F8 .and .i64 z 128) != 0)then(jA j.Levels).bind λu=>aF5 ({ q with Levels:=u })else aF5 q)
def aIT (q:Int)(j:D8)(z:D8):AB D8:=(bif ((F8 .and .i64 q 64) != 0)then(UC j.iK).bind λu=>aEv q j ({ z with iK:=u })else aEv q j z)
def aG7 (q:Int)(j:D8)(z:D8):AB D8:=(bif ((F8 .and .i64 q 32) != 0)then(UC j.Allow).bind λu=>aIT q j ({ z with Allow:=u })else aIT q j z)
def aFD (q:Int)(j:D8)(u:D8):AB D8:=(bif ((F8 .and .i64 q 16) != 0)then aG7 q j ({ u with Via:=j.Via })else aG7 q j u)
def aC9 (q:Int)(j:D8)(u:D8):AB D8:=(bif ((F8 .and .i64 q 4) != 0)then aFD q j ({ u with Target:=j.Target })else aFD q j u)
def nN (q:Int)(j:D8):AB D8:=(bif (q==1)then(UC j.Allow).bind λz=>(UC j.iK).bind λI=>(jA j.Levels).bind λJ=>some ({ { { j with Allow:=z }with iK:=I }with Levels:=J })else(oU q).bind λu=>(bif ((F8 .and .i64 u 2) != 0)then aC9 u j ({ Eu with N:=j.N })else aC9 u j Eu))
def aUc :=DZ func149 rfl nN AY Ia Ia λaFU j r h=>AZ<|Aa<|AZ<|BJ h (λh=>Hz h λq z L x4 x5 x6 h=>F9 AA AA AA (.a 2<|.ca (a5a z).view<|.a 2<|.ca (a5a x4).view<|.a 2<|.ca (aX2 x6)<|.a 6<|.nil _)<|AZ<|F5<|by rw[←CQ h];exact⟨[Ia ({ { { j with Allow:=q }with iK:=L }with Levels:=x5 })],[],⟨⟨1,BD (GN ({ { { j with Allow:=q }with iK:=L }with Levels:=x5 })),true,16,AA,AA,AA,UH,Dt AA,Vx,AA⟩,trivial⟩,AA,AA,AA⟩) λh=>AZ<|AO h λq z h=>AP 1<|.X (aTg z)<|DC (λs=>∃(M:D8),CP s ⟨BA 64 [(3,.ptr 0 0),(4,.ptr 1 0),(5,.ptr 2 0),(6,AY q)],[.box (BD (GN j)),.box (BD (GN Eu)),.box (BD (GN M))],0⟩/\aC9 q j M=some r) (by rintro s ⟨M,hs,h⟩;exact DK hs<|DC (λs=>∃(O:D8),CP s ⟨BA 64 [(3,.ptr 0 0),(4,.ptr 1 0),(5,.ptr 2 0),(6,AY q)],[.box (BD (GN j)),.box (BD (GN Eu)),.box (BD (GN O))],0⟩/\aFD q j O=some r) (by rintro s ⟨O,hs,h⟩;exact DK hs<|DC (λs=>∃(U:D8),CP s ⟨BA 64 [(3,.ptr 0 0),(4,.ptr 1 0),(5,.ptr 2 0),(6,AY q)],[.box (BD (GN j)),.box (BD (GN Eu)),.box (BD (GN U))],0⟩/\aG7 q j U=some r) (by rintro s ⟨U,hs,h⟩;exact DK hs<|DC (λs=>∃(Y:D8),CP s ⟨BA 64 [(3,.ptr 0 0),(4,.ptr 1 0),(5,.ptr 2 0),(6,AY q)],[.box (BD (GN j)),.box (BD (GN Eu)),.box (BD (GN Y))],0⟩/\aIT q j Y=some r) (by rintro s ⟨Y,hs,h⟩;exact DK hs<|DC (λs=>∃(I:D8),CP s ⟨BA 64 [(3,.ptr 0 0),(4,.ptr 1 0),(5,.ptr 2 0),(6,AY q)],[.box (BD (GN j)),.box (BD (GN Eu)),.box (BD (GN I))],0⟩/\aEv q j I=some r) (by rintro s ⟨I,hs,h⟩;exact DK hs<|DC (λs=>∃(J:D8),CP s ⟨BA 64 [(4,.ptr 0 0),(5,.ptr 1 0)],[.box (BD (GN Eu)),.box (BD (GN J))],0⟩/\aF5 J=some r) (by rintro s ⟨J,hs,h⟩;exact DK hs<|AZ<|F5<|by rw[←CQ h];exact⟨[Ia J],[],⟨⟨0,BD (GN J),true,16,AA,AA,AA,UH,Dt AA,Vx,AA⟩,trivial⟩,AA,AA,AA⟩)<|λZ=>AP 1<|.Z (Rk (k:=.i64) (u:=q) (v:=128))<|BJ h (λh=>AO h λq z h=>CZ<|.a 2<|.ca (aX2 z)<|.aN<|Z _ ⟨({ I with Levels:=q }),Ae [AV 1,AV 2],h⟩) λh=>Z _ ⟨I,Ae [AV 1,AV 2],h⟩)<|λz=>AP 1<|.Z (Rk (k:=.i64) (u:=q) (v:=64))<|BJ h (λh=>AO h λq L h=>CZ<|.a 2<|.ca (a5a L).view<|.aN<|z _ ⟨({ Y with iK:=q }),Ae [AV 0,AV 1,AV 2],h⟩) λh=>z _ ⟨Y,Ae [AV 0,AV 1,AV 2],h⟩)<|λz=>AP 1<|.Z (Rk (k:=.i64) (u:=q) (v:=32))<|BJ h (λh=>AO h λq L h=>CZ<|.a 2<|.ca (a5a L).view<|.aN<|z _ ⟨({ U with Allow:=q }),Ae [AV 0,AV 1,AV 2],h⟩) λh=>z _ ⟨U,Ae [AV 0,AV 1,AV 2],h⟩)<|λz=>AP 1<|.Z (Rk (k:=.i64) (u:=q) (v:=16))<|BJ h (λh=>DJ<|z _ ⟨({ O with Via:=j.Via }),Ae [AV 0,AV 1,AV 2],h⟩) λh=>z _ ⟨O,Ae [AV 0,AV 1,AV 2],h⟩)<|λz=>AP 1<|.Z (Rk (k:=.i64) (u:=q) (v:=4))<|BJ h (λh=>DJ<|z _ ⟨({ M with Target:=j.Target }),Ae [AV 0,AV 1,AV 2],h⟩) λh=>z _ ⟨M,Ae [AV 0,AV 1,AV 2],h⟩)<|λz=>AP 1<|.Z (Rk (k:=.i64) (u:=q) (v:=2))<|BJ h (λh=>DJ<|z _ ⟨({ Eu with N:=j.N }),Ae [AV 0,AV 1,AV 2],h⟩) λh=>z _ ⟨Eu,Ae [AV 0,AV 1,AV 2],h⟩
def fM (j:AQ):AB AQ:=(nN j.Kind j.Content).bind λq=>some ({ j with Content:=q })
def aSs :=Dk func131 rfl fM DY DY λj r h=>AZ<|AO h λq u h=>AP 4<|.ca (aUc u)<|aRo
def dA (j:Int):AB AX:=(bif j>=1 then some (decide (j<=10))else some false).bind λq=>some q
def o7 :=Dk func231 rfl dA AY Af λj r h=>AZ<|AP 2<|AO h λq u h=>.mg 5 3 (Af q) (.bi u)<|.aW<|Ch
def iY (j:BO):AB Int:=(yA j a7P).bind λq=>some q
def a19 :=Dk func289 rfl iY D7 AY λj r h=>AZ<|AO h λu q h=>AP 1<|.X (aWL q)<|Ch
def aJ4 (j:BO)(k2:(Int->AB AX)):Int->AB AX:=λq=>(bif q<(j.size:Int) then(Il j q).bind λu=>(bif u<33 then some true else(Il j q).bind λz=>some (decide (z>126))).bind λI=>(bif I then some false else k2 (Aw (q+1)))else(bif (j.size:Int)>=1 then some (decide ((j.size:Int)<=32))else some false).bind λJ=>some J)
def aQJ (j:BO):Int->AB AX:=bC (aJ4 j) Ar
def a5F (j:BO):AB AX:=aQJ j 0
def aaX :=Dk func290 rfl a5F D7 Af λj r h=>AZ<|Aa<|AZ<|Am<|Du (λq=>⟨BA 28 [(0,D7 j),(5,AY (j.size:Int)),(6,AY q)],[],0⟩) _ _ _ (Ae []) h<|λq k2 u z h=>AZ<|Aa<|Bo h (λh=>Aa<|Am<|AZ<|AO h λq z h=>AP 2<|.p (LZ (k:=.i64) z IB)<|.a 1<|AO h λq z h=>.mg 13 5 (Af q) (.bi z (k2:=λh=>AO h λq u h=>.a 2<|.Z (LZ (k:=.i64) u IB)<|D9))<|.aY<|BJ h CJ λh=>DJ<|u _ _ (Ae []) h) λh=>Cj<|AP 3<|AO h λq u h=>.mg 23 4 (Af q) (.bi u)<|.aW<|Ch
def a2H (j:AQ):AB AX:=(eP j.Room).bind λq=>(bif (q != 0)then some true else(iY j.bQ).bind λu=>some (u != 0)).bind λz=>(bif z then some false else(bif (j.Kind==2)then(iY j.Key).bind λI=>some (I==0)else(bif (j.Kind==9)then(a5F j.Key).bind λJ=>some J else some true)))
def ad5 :=Dk func232 rfl a2H DY Af λu r h=>AZ<|Aa<|AO h λq j h=>AP 2<|.ca (a2E j)<|.a 1<|AO h λq j h=>.mg 7 5 (Af q) (.bi j (k2:=λh=>AO h λq j h=>.a 2<|.X (a19 j)<|D9))<|.aY<|BJ h CJ λh=>Aa<|AZ<|Am<|AZ<|Dc h (λh=>AO h λq j h=>AP 2<|.X (a19 j)<|Ch) λh=>AZ<|BJ h (λh=>AO h λq j h=>AP 2<|.X (aaX j)<|Ch) λh=>AZ<|Ch
def aCl (j:AU)(k2:(Int->AB AX)):Int->AB AX:=λq=>(bif q<(j.length:Int) then(Aq j q).bind λu=>(bif u<0 then some true else(bif q>0 then(Aq j (Aw (q-1))).bind λz=>some (decide (z>=u))else some false).bind λI=>some I).bind λJ=>(bif J then some false else k2 (Aw (q+1)))else some true)
def aVG (j:AU):Int->AB AX:=bC (aCl j) Ar
def tZ (j:AU):AB AX:=aVG j 0
def aTM :=Dk func233 rfl tZ Bg Af λj r h=>AZ<|Aa<|AP 1<|.Z (BK Ac j)<|Am<|Du (λq=>⟨BA 28 [(0,Bg j),(5,Bg j),(6,AY (j.length:Int)),(7,AY q)],[],0⟩) _ _ _ (Ae []) h<|λq k2 u z h=>AZ<|Aa<|Bo h (λh=>Aa<|Am<|AO h λq z h=>AP 1<|.Z (BH Ac z)<|AP 2<|AO h λq z h=>.mg 14 12 (Af q) (.bi z (k2:=λh=>.a 2<|AO h λq u h=>.mg 17 8 (Af q) (.bi u (λh=>AO h λq u h=>.a 3<|.Z (BH Ac u)<|D9))<|.aW<|D9))<|.aY<|BJ h CJ λh=>DJ<|u _ _ (Ae []) h) λh=>Eo
def xg (j:Int):AB AX:=(bif j>=1 then some (decide (j<=14))else some false).bind λq=>some q
def aUk :=Dk func292 rfl xg AY Af λj r h=>AZ<|AP 2<|AO h λq u h=>.mg 5 3 (Af q) (.bi u)<|.aW<|Ch
def a3A (j:Cx):AB AX:=(bif ((j.Users.length:Int)==0)then some ((j.Kinds.length:Int)==0)else some false).bind λI=>(bif I then some (j.User==0)else some false).bind λJ=>(bif J then some (j.Message==0)else some false).bind λL=>(bif L then some (j.State==0)else some false).bind λM=>(bif M then some (j.gW==0)else some false).bind λO=>(bif O then some (j.kS==0)else some false).bind λq=>(bif q then some (j.oN==0)else some false).bind λu=>(bif u then some (j.iq==0)else some false).bind λz=>some z
def afC :=Dk func354 rfl a3A Iy Af λu r h=>AZ<|AP 2<|.p (BK FB u.Users)<|.a 1<|AO h λj q h=>.mg 7 5 (Af j) (.bi q (λh=>.a 2<|.Z (BK FD u.Kinds)<|D9))<|.a 1<|AO h λj q h=>.mg 14 3 (Af j) (DU q)<|.a 1<|AO h λj q h=>.mg 19 3 (Af j) (DU q)<|.a 1<|AO h λj q h=>.mg 24 3 (Af j) (DU q)<|.a 1<|AO h λj q h=>.mg 29 3 (Af j) (DU q)<|.a 1<|AO h λj q h=>.mg 34 3 (Af j) (DU q)<|.a 1<|AO h λj q h=>.mg 39 3 (Af j) (DU q)<|.a 1<|AO h λj q h=>.mg 44 3 (Af j) (DU q)<|.aW<|Ch
def a5x (j:Int):AB Int:=some j
def a3F (j:D8)(u:Int):AB Int:=(a3A j.Levels).bind λq=>(bif (!q)then a5x (F8 .or .i64 u 128)else a5x u)
def a0z (j:D8)(q:Int):AB Int:=(bif (j.iK.length:Int)>0 then a3F j (F8 .or .i64 q 64)else a3F j q)
def a4H (j:D8)(q:Int):AB Int:=(bif (j.Allow.length:Int)>0 then a0z j (F8 .or .i64 q 32)else a0z j q)
def a7f (j:D8)(q:Int):AB Int:=(bif (!(j.Via.toList==Ce.toList))then a4H j (F8 .or .i64 q 16)else a4H j q)
def a3f (j:D8)(q:Int):AB Int:=(bif j.Thread then a7f j (F8 .or .i64 q 8)else a7f j q)
def a7K (j:D8)(v2:Int):AB Int:=(bif (j.Target != 0)then a3f j (F8 .or .i64 v2 4)else a3f j v2)
def a5z (j:D8)(q:Int):AB Int:=(bif (j.N != 0)then a7K j (F8 .or .i64 q 2)else a7K j q)
def zH (j:D8):AB Int:=(bif (!(j.Text.toList==Ce.toList))then a5z j (F8 .or .i64 0 1)else a5z j 0)
def aOB :=Dk func293 rfl zH Ia AY λj r h=>AZ<|AZ<|DC (λs=>∃(z:Int),CP s ⟨BA 47 [(1,.ptr 0 0),(3,AY z)],[.box (BD (GN j))],0⟩/\a5z j z=some r) (by rintro s ⟨z,hs,h⟩;exact DK hs<|DC (λs=>∃(v2:Int),CP s ⟨BA 47 [(1,.ptr 0 0),(3,AY v2)],[.box (BD (GN j))],0⟩/\a7K j v2=some r) (by rintro s ⟨v2,hs,h⟩;exact DK hs<|DC (λs=>∃(I:Int),CP s ⟨BA 47 [(1,.ptr 0 0),(3,AY I)],[.box (BD (GN j))],0⟩/\a3f j I=some r) (by rintro s ⟨I,hs,h⟩;exact DK hs<|DC (λs=>∃(J:Int),CP s ⟨BA 47 [(1,.ptr 0 0),(3,AY J)],[.box (BD (GN j))],0⟩/\a7f j J=some r) (by rintro s ⟨J,hs,h⟩;exact DK hs<|DC (λs=>∃(L:Int),CP s ⟨BA 47 [(1,.ptr 0 0),(3,AY L)],[.box (BD (GN j))],0⟩/\a4H j L=some r) (by rintro s ⟨L,hs,h⟩;exact DK hs<|DC (λs=>∃(M:Int),CP s ⟨BA 47 [(1,.ptr 0 0),(3,AY M)],[.box (BD (GN j))],0⟩/\a0z j M=some r) (by rintro s ⟨M,hs,h⟩;exact DK hs<|DC (λs=>∃(O:Int),CP s ⟨BA 47 [(1,.ptr 0 0),(3,AY O)],[.box (BD (GN j))],0⟩/\a3F j O=some r) (by rintro s ⟨O,hs,h⟩;exact DK hs<|DC (λs=>∃(U:Int),CP s ⟨BA 47 [(3,AY U)],[],0⟩/\a5x U=some r) (by rintro s ⟨U,hs,h⟩;exact DK hs<|AZ<|Ch)<|λq=>AO h λZ Y h=>AP 2<|.X (afC Y)<|BJ h (λh=>CZ<|.a 1<|.p (Y1 (k:=.i64) (u:=O) (v:=128))<|.aN<|q _ ⟨(F8 .or .i64 O 128),Ae [],h⟩) λh=>q _ ⟨O,Ae [],h⟩)<|λq=>AP 2<|.Z (BK DX j.iK)<|BJ h (λh=>CZ<|.a 1<|.p (Y1 (k:=.i64) (u:=M) (v:=64))<|.aN<|q _ ⟨(F8 .or .i64 M 64),Ae [AV 0],h⟩) λh=>q _ ⟨M,Ae [AV 0],h⟩)<|λq=>AP 2<|.Z (BK DX j.Allow)<|BJ h (λh=>CZ<|.a 1<|.p (Y1 (k:=.i64) (u:=L) (v:=32))<|.aN<|q _ ⟨(F8 .or .i64 L 32),Ae [AV 0],h⟩) λh=>q _ ⟨L,Ae [AV 0],h⟩)<|λq=>AZ<|BJ h (λh=>CZ<|.a 1<|.p (Y1 (k:=.i64) (u:=J) (v:=16))<|.aN<|q _ ⟨(F8 .or .i64 J 16),Ae [AV 0],h⟩) λh=>q _ ⟨J,Ae [AV 0],h⟩)<|λq=>AZ<|BJ h (λh=>CZ<|.a 1<|.p (Y1 (k:=.i64) (u:=I) (v:=8))<|.aN<|q _ ⟨(F8 .or .i64 I 8),Ae [AV 0],h⟩) λh=>q _ ⟨I,Ae [AV 0],h⟩)<|λq=>AZ<|BJ h (λh=>CZ<|.a 1<|.p (Y1 (k:=.i64) (u:=v2) (v:=4))<|.aN<|q _ ⟨(F8 .or .i64 v2 4),Ae [AV 0],h⟩) λh=>q _ ⟨v2,Ae [AV 0],h⟩)<|λq=>AZ<|BJ h (λh=>CZ<|.a 1<|.p (Y1 (k:=.i64) (u:=z) (v:=2))<|.aN<|q _ ⟨(F8 .or .i64 z 2),Ae [AV 0],h⟩) λh=>q _ ⟨z,Ae [AV 0],h⟩)<|λq=>AZ<|BJ h (λh=>CZ<|.a 1<|.p (Y1 (k:=.i64) (u:=0) (v:=1))<|.aN<|q _ ⟨(F8 .or .i64 0 1),Ae [AV 0],h⟩) λh=>q _ ⟨0,Ae [AV 0],h⟩
def aKw (j:BO)(u:(Int->AB Int)):Int->AB Int:=λq=>(bif q<(j.size:Int) then(Il j q).bind λz=>(bif z<33 then some true else(Il j q).bind λI=>some (decide (I>126))).bind λJ=>(bif J then some 3 else u (Aw (q+1)))else some 0)
def aED (j:BO):Int->AB Int:=bC (aKw j) Ar
def vS (j:BO):AB Int:=(bif (j.toList==Ce.toList)then some 9 else(bif (j.size:Int)>64 then some 7 else aED j 0))
def aNb :=Dk func355 rfl vS D7 AY λj r h=>AZ<|Aa<|Am<|AZ<|Dc h CJ λh=>AZ<|BJ h CJ λh=>Aa<|AZ<|Am<|Du (λq=>⟨BA 27 [(0,D7 j),(12,AY (j.size:Int)),(13,AY q)],[],0⟩) _ _ _ (Ae []) h<|λq u z I h=>AZ<|Aa<|Bo h (λh=>Aa<|Am<|AZ<|AO h λq u h=>AP 2<|.p (LZ (k:=.i64) u IB)<|.a 1<|AO h λq u h=>.mg 20 5 (Af q) (.bi u (k2:=λh=>AO h λq u h=>.a 2<|.Z (LZ (k:=.i64) u IB)<|D9))<|aCf) λh=>Eo
def aCb (j:Gi)(k3:(Int->AB Int)):Int->AB Int:=λv2=>(bif v2<(j.length:Int) then(Aq j v2).bind λu=>(vS u).bind λq=>(bif (q != 0)then some q else k3 (Aw (v2+1)))else some 0)
def aTT (j:Gi):Int->AB Int:=bC (aCb j) Ar
def XA (j:Gi):AB Int:=(bif (j.length:Int)>100 then some 7 else aTT j 0)
def aXP :=Dk func300 rfl XA Ie AY λj r h=>AZ<|Aa<|AP 1<|.Z (BK DX j)<|BJ h CJ λh=>Aa<|AP 1<|.Z (BK DX j)<|Am<|Du (λq=>⟨BA 21 [(9,Ie j),(10,AY (j.length:Int)),(11,AY q)],[],0⟩) _ _ _ (Ae []) h<|λq u I z h=>AZ<|Aa<|Bo h (λh=>Aa<|Am<|AO h λq u h=>BP<|.Z (BH DX u)<|AO h λu z h=>AP 1<|.X (aNb z)<|AZ<|BJ h CJ λh=>Sz) λh=>Eo
def oh (j:Int):AB AX:=(bif j<(-1000) then some true else some (decide (j>1000))).bind λq=>some q
def aVE :=Dk func358 rfl oh AY Af λj r h=>AZ<|AP 2<|AO h λq u h=>.mg 5 3 (Af q) (.bi u)<|.aW<|Ch
def aB2 (q:IQ)(k3:(Int->AB Int))(v2:Int)(u:AX):AB Int:=(bif u then some 8 else(oh q.N).bind λj=>(bif j then some 2 else k3 (Aw (v2+1))))
abbrev OI:=A8 IQ
def aGU (j:OI)(k3:(Int->AB Int)):Int->AB Int:=λv2=>(bif v2<(j.length:Int) then(Aq j v2).bind λq=>(iY q.User).bind λz=>(bif (z != 0)then some 3 else(bif v2>0 then(Aq j (Aw (v2-1))).bind λu=>aB2 q k3 v2 (Op.bytesLess (q.User.toList) (u.User.toList)||q.User.toList==u.User.toList)else aB2 q k3 v2 false))else some 0)
def aPv (j:OI):Int->AB Int:=bC (aGU j) Ar
def a6c (j:OI):AB Int:=(bif (j.length:Int)>100 then some 7 else aPv j 0)
def am8 :=Dk func356 rfl a6c Pj AY λj r h=>AZ<|Aa<|AP 1<|.Z (BK FB j)<|BJ h CJ λh=>Aa<|AP 1<|.Z (BK FB j)<|Am<|Du (λq=>⟨BA 39 [(0,Pj j),(8,Pj j),(9,AY (j.length:Int)),(10,AY q)],[],0⟩) _ _ _ (Ae []) h<|λq z J u h=>AZ<|Aa<|Bo h (λh=>Aa<|Am<|AO h λq I h=>AP 1<|.Z (BH FB I)<|Am<|AO h λI M h=>AP 2<|.X (a19 M)<|Dc h CJ λh=>DC (λs=>∃(L:AX),CP s ⟨BA 39 [(0,Pj j),(4,.ptr 0 0),(8,Pj j),(9,AY (j.length:Int)),(10,AY u),(20,Af L)],[.box (BD (FB q))],0⟩/\aB2 q z u L=some r) aWA<|λz=>EU h (λJ h=>AO h λu I h=>DV AA AA AA (.a 2<|.c (BG some J)<|.a 5<|.p (BH FB I)<|.a 5<|.nil _)<|z _ ⟨(Op.bytesLess (q.User.toList) (u.User.toList)||q.User.toList==u.User.toList),Ae [AV 0],h⟩) λq h=>DV AA AA AA (.a 2<|.c (BG some q)<|.a 11<|.nil _)<|z _ ⟨false,Ae [AV 0],h⟩) λh=>Eo
def a6O (q:Jr)(k3:(Int->AB Int))(v2:Int)(u:AX):AB Int:=(bif u then some 8 else(oh q.N).bind λj=>(bif j then some 2 else k3 (Aw (v2+1))))
abbrev O8:=A8 Jr
def aDO (j:O8)(k3:(Int->AB Int)):Int->AB Int:=λv2=>(bif v2<(j.length:Int) then(Aq j v2).bind λq=>(xg q.Kind).bind λz=>(bif (!z)then some 1 else(bif v2>0 then(Aq j (Aw (v2-1))).bind λu=>a6O q k3 v2 (decide (q.Kind<=u.Kind))else a6O q k3 v2 false))else some 0)
def aTG (j:O8):Int->AB Int:=bC (aDO j) Ar
def a4z (j:O8):AB Int:=(bif (j.length:Int)>100 then some 7 else aTG j 0)
def amV :=Dk func357 rfl a4z P8 AY λj r h=>AZ<|Aa<|AP 1<|.Z (BK FD j)<|BJ h CJ λh=>Aa<|AP 1<|.Z (BK FD j)<|Am<|Du (λq=>⟨BA 39 [(0,P8 j),(8,P8 j),(9,AY (j.length:Int)),(10,AY q)],[],0⟩) _ _ _ (Ae []) h<|λq z J u h=>AZ<|Aa<|Bo h (λh=>Aa<|Am<|AO h λq I h=>AP 1<|.Z (BH FD I)<|Am<|AO h λI M h=>AP 2<|.X (aUk M)<|Dc h CJ λh=>DC (λs=>∃(L:AX),CP s ⟨BA 39 [(0,P8 j),(4,.ptr 0 0),(8,P8 j),(9,AY (j.length:Int)),(10,AY u),(20,Af L)],[.box (BD (FD q))],0⟩/\a6O q z u L=some r) aWA<|λz=>EU h (λJ h=>AO h λu I h=>DV AA AA AA (.a 2<|.c (BG some J)<|.a 5<|.p (BH FD I)<|.a 5<|.nil _)<|z _ ⟨(decide (q.Kind<=u.Kind)),Ae [AV 0],h⟩) λq h=>DV AA AA AA (.a 2<|.c (BG some q)<|.a 11<|.nil _)<|z _ ⟨false,Ae [AV 0],h⟩) λh=>Eo
def aS6 (j:Cx)(u:(Int->AB Int)):Int->AB Int:=λq=>(bif q<7 then(Aq ([j.User,j.Message,j.State,j.gW,j.kS,j.oN,j.iq]:AU) q).bind λz=>(oh z).bind λI=>(bif I then some 2 else u (Aw (q+1)))else some 0)
def aKC (j:Cx):Int->AB Int:=bC (aS6 j) Ar
def jM (j:Cx):AB Int:=(a6c j.Users).bind λq=>(bif (q != 0)then some q else(a4z j.Kinds).bind λu=>(bif (u != 0)then some u else aKC j 0))
def ag2 :=Dk func301 rfl jM Iy AY λj r h=>AZ<|Aa<|AO h λu q h=>AP 2<|.X (am8 q)<|AZ<|BJ h CJ λh=>Aa<|AO h λu q h=>AP 2<|.X (amV q)<|AZ<|BJ h CJ λh=>Aa<|AZ<|Am<|Du (λu=>⟨BA 40 [(33,.d ((OC Ac) ([j.User,j.Message,j.State,j.gW,j.kS,j.oN,j.iq]:(A8 Int)))),(34,AY u)],[],0⟩) _ _ _ (Ae []) h<|λu q I z h=>AZ<|Aa<|Bo h (λh=>Aa<|Am<|AO h λu q h=>BP<|.Z (a5b (k:=.i64) Ac q a6T FT AA)<|AO h λq z h=>AP 1<|.ca (aVE z)<|a5h) λh=>Eo
def a4E (j:AX):AB Int:=(bif j then some 7 else some 0)
def Ry (q:Int)(j:D8):AB Int:=(bif (q==9)then some (!(j.Text.toList==Ce.toList))else some false).bind λz=>(bif z then(vS j.Text).bind λI=>some I else(bif (q==12)then some (j.Text.toList==Ce.toList)else some false).bind λJ=>(bif J then some 9 else(bif (q==12)then some (decide ((j.Text.size:Int)>32))else some false).bind λu=>(bif u then a4E u else a4E (decide ((j.Text.size:Int)>400)))))
def abM :=DZ func294 rfl Ry AY Ia AY λI u r h=>AZ<|Aa<|Am<|AP 2<|AO h λq j h=>.mg 8 4 (Af q) (.bi j)<|.aW<|Dc h (λh=>AO h λq j h=>AP 2<|.X (aNb j)<|Ch) λh=>AP 2<|AO h λq j h=>.mg 19 4 (Af q) (.bi j)<|.aW<|Dc h CJ λh=>DC (λs=>∃(z:AX),CP s ⟨BA 37 [(24,Af z)],[],0⟩/\a4E z=some r) aN8<|λq=>AP 2<|AO h λj J h=>.mg 27 5 (Af j) (.bi J)<|.aW<|Bo h (λh=>q _ ⟨j,Ae [],h⟩) λh=>DJ<|q _ ⟨(decide ((u.Text.size:Int)>400)),Ae [],h⟩
def wO (j:D8)(q:Int)(v2:Int):AB Int:=(bif j.N<q then some true else some (decide (j.N>v2))).bind λu=>(bif u then some 2 else some 0)
def PZ (q:Int)(j:D8):AB Int:=(bif (q==2)then wO j 0 4 else(bif (q==8)then wO j 0 1000000000 else(bif (q==10)then wO j 1 10000 else(bif (q==9)then(bif (j.N==1)then some true else some (j.N==2)).bind λu=>(bif u then some true else some (j.N==6)).bind λz=>(bif z then some 0 else some 2)else wO j 0 3))))
def agJ :=DZ func295 rfl PZ AY Ia AY λI q r h=>AZ<|AZ<|DC (λs=>∃(z:Int) (v2:Int),CP s ⟨BA 39 [(3,.ptr 0 0),(5,AY z),(6,AY v2)],[.box (BD (GN q))],0⟩/\wO q z v2=some r) (by rintro s ⟨z,v2,hs,h⟩;exact DK hs<|Aa<|AP 4<|AO h λj u h=>.mg 33 5 (Af j) (.bi u)<|.aY<|JO)<|λj=>AZ<|Am<|AZ<|Dc h (λh=>DJ<|j _ ⟨0,4,Ae [AV 0],h⟩) λh=>AZ<|Dc h (λh=>DJ<|j _ ⟨0,1000000000,Ae [AV 0],h⟩) λh=>AZ<|Dc h (λh=>DJ<|j _ ⟨1,10000,Ae [AV 0],h⟩) λh=>AZ<|BJ h (λh=>Aa<|AZ<|AP 2<|AO h λj u h=>.mg 21 3 (Af j) (.bi u)<|.a 1<|AO h λj u h=>.mg 26 2 (Af j) (DU u)<|.aY<|JO) λh=>j _ ⟨0,3,Ae [AV 0],h⟩
def TJ (q:Int)(j:D8):AB Int:=(bif j.Target<0 then some true else(bif (j.Target==0)then some (q != 11)else some false).bind λu=>some u).bind λz=>(bif z then some 2 else some 0)
def aYj :=DZ func296 rfl TJ AY Ia AY λu z r h=>AZ<|Aa<|AP 3<|AO h λj q h=>.mg 8 8 (Af j) (.bi q (k2:=λh=>.a 3<|AO h λj q h=>.mg 12 3 (Af j) (.bi q)<|.aW<|D9))<|.aY<|JO
def jI (q:Int)(j:D8):AB Int:=(bif j.Thread then some (j.Target==0)else some false).bind λu=>(bif u then some 1 else some 0)
def ahb :=DZ func297 rfl jI AY Ia AY λj q r h=>AZ<|Aa<|AP 2<|AO h λu z h=>.mg 7 4 (Af u) (.bi z)<|.aY<|JO
def iE (q:Int)(j:D8):AB Int:=(bif (j.Via.toList==Ce.toList)then some 0 else(bif (j.N != 3)then some 1 else(iY j.Via).bind λu=>some u))
def ahE :=DZ func298 rfl iE AY Ia AY λj q r h=>AZ<|Aa<|Am<|AZ<|Dc h CJ λh=>AZ<|BJ h CJ λh=>AO h λz u h=>AP 2<|.X (a19 u)<|Ch
end
end Go.Proofs.YtfmoknlmaldmlaaGreat
