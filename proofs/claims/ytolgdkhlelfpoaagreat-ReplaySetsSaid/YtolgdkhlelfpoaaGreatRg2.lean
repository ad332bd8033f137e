/- Part 2 of what the laws' proofs lean on: states of the walk, typed functions of the program and their laws (short forms written by wip/shrink.py; no condition). -/
import Derived.Test.YtolgdkhlelfpoaaGreatRg1
set_option linter.defProp false
set_option linter.unnecessarySimpa false
set_option linter.unusedVariables false
set_option linter.unusedSimpArgs false
section
namespace Go.Proofs.YtolgdkhlelfpoaaGreat
open Go.RowKit
section
variable {P : Program} {o : Oper} {es : List BQ}
def aCc {ns:List (Operand×Ag)} {v:Ag} {es':List BQ} (e:TypeId) (size:Nat) (h:Bq P o ((.const (.slice none 0 0),.aO es.length)::ns) (es++[.arr e size []]) v es'):Bq P o ns es v es':=by
 intro C ok H a w Q q s;obtain⟨u,z⟩:=aM6 q e size;refine Oper.wp_mono ?_ (h C ok _ a w Q u (fun n f=>?_))
 ·rintro a' w' ⟨v',ok',H',I,J,j,m,L⟩;exact⟨v',ok',H',I,J,(Names.push _ _).trans j,m,L⟩
 rcases F6.1 f with rfl|f
 ·exact z
 exact(s n f).mono (.refl _ _) (Names.push _ _)
def R.ahi {ok:Nat→Prop} {w:World} {H:List Bo} {us:List Value} {v:Value} (h:R ok w H (.d (.agg (us.map .lit))) v):v=.agg us.toArray:=by
 cases h with
 |d _ _ h=>
  cases h with
  |agg _ vs m _ h=>
   congr 1;apply ZV
   ·simpa using m
   intro i n z;have hi:i<(us.map D.lit).length:=AA
   have f:=h i hi;have j:i<us.length:=Fj
   have q:(us.map D.lit).getD i Dp=.lit (us[i]):=qC
   have s:vs.getD i undef=vs[i]:=by simp[Array.getD,n]
   rw[q,s]at f;generalize vs[i]=u at f;cases f;simp
structure dc (P:Program) (n:Nat) (t:TypeId) (us vs:List Value) (b:Bool):Prop where
 run:∀(d:Nat) (w:World),(Op.equalIn (d+n) t (.agg us.toArray) (.agg vs.toArray)).run P w=.ok b w
def Lr {t:TypeId} {cs:Array Value} {off:Nat} {v:Value} {size:Nat} (f:EC P t false size) (h:cs[off]? =some v) (w:World):(part t cs off).run P w=.ok v w:=by
 simp[part,f.agg,h]
def Ul (d:Nat) (xs ys:Array Value):List (TypeId×Nat)→Sem Bool
 | []=>pure true
 |f::h=>do
  let a ←part f.1 xs f.2
  let b ←part f.1 ys f.2
  let r ←Op.equalIn d f.1 a b
  if(!r)=true then pure false else Ul d xs ys h
def aPR (d:Nat) (xs ys:Array Value):∀(j:List Field),j.all (fun f=>f.name != "_")=true→Op.eqFields d xs ys j=Ul d xs ys (j.map fun f=>(f.type,f.offset))
 | [],_=>rfl
 |f::j,h=>by
  simp only[List.all_cons,DJ,bne_iff_ne,ne_eq]at h;simp only[Op.eqFields,Ko,Ul,ne_eq,h.1,not_false_eq_true,JQ,aPR d xs ys j h.2]
def aAm {d:Nat} {t:TypeId} {xs ys:Array Value} {l:List (TypeId×Nat)} {b:Bool} {w:World} (j:P.underlying t=some (.struct (P.fieldsOf t))) (m:P.stoodInHeld t=false) (n:(P.fieldsOf t).toList.all (fun f=>f.name != "_")=true)
 (q:(P.fieldsOf t).toList.map (fun f=>(f.type,f.offset))=l) (h:(Ul d xs ys l).run P w=.ok b w):(Op.equalIn (d+1) t (.agg xs) (.agg ys)).run P w=.ok b w:=by
 rw[run_equalIn_struct w d t xs ys j m,aPR _ _ _ _ n,q,h]
def aD9 (d:Nat) (xs ys:Array Value) (w:World):(Ul d xs ys []).run P w=.ok true w:=by simp[Ul]
def VW {d:Nat} {xs ys:Array Value} {t:TypeId} {off:Nat} {f:List (TypeId×Nat)} {a b:Value} {r rs:Bool} {w:World} (ha:(part t xs off).run P w=.ok a w) (h:(part t ys off).run P w=.ok b w)
 (j:(Op.equalIn d t a b).run P w=.ok r w) (m:(Ul d xs ys f).run P w=.ok rs w):(Ul d xs ys ((t,off)::f)).run P w=.ok (r&&rs) w:=by
 unfold Ul;simp only[F7,ha,h,j,FI];cases r<;>simp[m]
def aof {t t':TypeId} {x y:Operand} {n:Nat} (us vs:List Value) {b:Bool} (h:dc P n t us vs b) (hd:n≤10000) (s:P.eqGuardType P.depth t=false) (u:o.op=.binOp .eql t x y t'):
 Bq P o [(x,.d (.agg (us.map .lit))),(y,.d (.agg (vs.map .lit)))] es (.d (DT b)) es:=
 .pure fun _ _ a w _ _ j=>⟨.bool b,by
  have m:=(Ee j).1.ahi;have q:=(Ee j).2.ahi;simp only at m q;have f:(eqGuard .eql t x y (.agg us.toArray) (.agg vs.toArray)).run P w=.ok () w:=by simp[eqGuard,s]
  simp only[execOp,u,m,q,F7,f,FI,Fr,run_eql_struct,(by have :=h.run (10000-n) w;rwa [Nat.sub_add_cancel hd]at this:(Op.equalIn 10000 t (.agg us.toArray) (.agg vs.toArray)).run P w=.ok b w)],.d _ _ (.lit _)⟩
def aML {t t':TypeId} {x y:Operand} {n:Nat} (us vs:List Value) {b:Bool} (h:dc P n t us vs b) (hd:n≤10000) (s:P.eqGuardType P.depth t=false) (u:o.op=.binOp .neq t x y t'):
 Bq P o [(x,.d (.agg (us.map .lit))),(y,.d (.agg (vs.map .lit)))] es (.d (DT (!b))) es:=
 .pure fun _ _ a w _ _ j=>⟨.bool (!b),by
  have m:=(Ee j).1.ahi;have q:=(Ee j).2.ahi;simp only at m q;have f:(eqGuard .neq t x y (.agg us.toArray) (.agg vs.toArray)).run P w=.ok () w:=by simp[eqGuard,s]
  simp only[execOp,u,m,q,F7,f,FI,Fr,run_neq_struct,(by have :=h.run (10000-n) w;rwa [Nat.sub_add_cancel hd]at this:(Op.equalIn 10000 t (.agg us.toArray) (.agg vs.toArray)).run P w=.ok b w)],.d _ _ (.lit _)⟩
def PO (l:List Int):ByteArray:=l.foldl (fun r n=>r.push (UInt8.ofNat n.toNat)) ByteArray.empty
def ajM {ok:Nat→Prop} {w:World} {H:List Bo} {l:List Int} {f:List Value} (h:FZ ok w H (flat (l.map D8)) f):f=l.map (.int .u8):=by
 rw[aG8]at h;apply ng
 ·simpa using h.1
 intro i q s;have hi:i<(l.map fun n=>Ag.d (D8 n)).length:=P6
 have m:=(h.2 i hi).2;have j:i<l.length:=Fj
 have u:(l.map fun n=>Ag.d (D8 n)).getD i .junk=.d (D8 l[i]):=qC
 have z:f.getD i undef=f[i]:=aD1
 rw[u,z]at m;have :=m.lit;simpa using this
def ajQ {w:World} {v:Value} {m:Nat} {l:List Int} (h:VK w v m 1 (l.map (.int .u8))):(Conv.bytesToString v).run P w=.ok (.string (PO l)) w:=by
 rcases h.at_ with⟨ad,c,rfl,j⟩|⟨c,rfl,n⟩
 ·refine run_bytesToString w ad m c l ?_;have f:=h.len;have :=aJP (P:=P) w ad (l.map (Value.int .u8)) j;rw[D6,Yd]at f;rw[D6,f]at this;exact this
 have f:=h.len;rw[n,Nat.zero_mul,D6]at f;rw[Gt f];simp[Conv.bytesToString,PO]
def Value.isSlice:Value→Bool
 | .slice _ _ _=>true
 |_=>false
def asA {w:World} {v:Value} {m size:Nat} {f:List Value} (h:VK w v m size f):Value.isSlice v=true:=by
 rcases h.at_ with⟨_,_,rfl,_⟩|⟨_,rfl,_⟩<;>rfl
def asl {s t e:TypeId} {v:Value} {w:World} {r:ByteArray} (f:P.underlying s=some (.slice e)) (j:P.underlying e=some (.int .u8)) (m:P.underlying t=some .string) (n:Value.isSlice v=true)
 (h:(Conv.bytesToString v).run P w=.ok (.string r) w):(convert s t v).run P w=.ok (.string r) w:=by
 cases v<;>simp[Value.isSlice]at n
 simp[convert,underlying,f,j,m,h]
def aQM {s t e:TypeId} {x:Operand} {l:List Int} (z:P.underlying s=some (.slice e)) (I:P.underlying e=some (.int .u8)) (J:P.underlying t=some .string) (L:o.op=.convert s t x):
 Bq P o [(x,.d (Au D8 l))] es (.d (Ci (PO l))) es:=
 .pure fun ok H a w _ _ M=>by
  have j:=Ju M;simp only at j;generalize O:a.eval x=v at j;refine⟨.string (PO l),?_,.d _ _ (.lit _)⟩;cases j with
  |d _ _ h=>
   obtain⟨u,f,m⟩:=YU H h (size:=1) (fun y S=>by obtain⟨n,_,rfl⟩:=Fh.1 S;rfl);obtain rfl:=ajM m;have q:=asA f;simp[execOp,L,O,asl z I J q (ajQ f)]
def Oj {fn:Fn} {firsts f:Array Operand} {fi ca:List Ag} (j:firsts.toList.length=fi.length) (s:f.toList.length=ca.length) (z:o.op=.makeFunc fn firsts f):
 Bq P o (F5 firsts.toList fi++F5 f.toList ca) es (.fn fn fi ca) es:=
 .pure fun ok H a w _ _ m=>by
  have key:∀(xs:Array Operand) (vs:List Ag),xs.toList.length=vs.length→(∀n∈F5 xs.toList vs,R ok w H n.2 (a.eval n.1))→∀i,i<vs.length→R ok w H (vs.getD i .junk) ((xs.map a.eval).getD i undef):=by
   intro xs vs j m i hi;have u:=vW j m i hi
   have q:i<xs.size:=by have :xs.size=vs.length:=Ny
                        omega
   have I:(xs.toList.map a.eval).getD i undef=(xs.map a.eval).getD i undef:=by simp[List.getD,Array.getD,q]
   rw[I]at u;exact u
  refine⟨.func fn (firsts.map a.eval) (f.map a.eval),by simp[execOp,z,Instr.makeFunc],.fn fn fi ca _ _ Ny P6 (key _ _ j fun n h=>m n jL) (key _ _ s fun n h=>m n jL)⟩
def aM5 :∀{xs:List Operand} {vs:List Ag} {ys:List Operand} {us:List Ag},xs.length=vs.length→F5 (xs++ys) (vs++us)=F5 xs vs++F5 ys us
 | [],[],_,_,_=>rfl
 | [],_::_,_,_,h=>Hl
 |_::_,[],_,_,h=>Hl
 |x::xs,v::vs,ys,us,h=>by simp[F5,aM5 (xs:=xs) (vs:=vs) JB]
def aJA {ok:Nat→Prop} {w:World} {H:List Bo} {a:Act}:∀{us:List Value} {vs:List Ag},us.length=vs.length→(∀i,i<vs.length→R ok w H (vs.getD i .junk) (us.getD i undef))→∀n∈F5 (us.map Operand.const) vs,R ok w H n.2 (a.eval n.1)
 | [],[],_,_,n,f=>by simp[F5]at f
 | [],_::_,h,_,_,_=>Hl
 |_::_,[],h,_,_,_=>Hl
 |u::us,v::vs,j,h,n,f=>by
  simp only[Ko,F5,F6]at f;rcases f with rfl|f
  ·have :=h 0 BU;simp at this;exact this
  exact aJA (us:=us) (vs:=vs) Ny (fun i hi=>by simpa using h (i+1) Fj) n f
def aao {f:FuncId} {x:Operand} {ops:Array Operand} {ats:Array TypeId} (srcs:List Dv) {fi ca eH fU:List Ag} {E E':List BQ} {m:Ag} (I:Ap P f fU E m E') (J:Dt P f=true) (L:Qo srcs es E E'=true) (hE:pJ srcs es E)
 (ha:Lh srcs (fi++eH++ca) fU) (s:ops.toList.length=eH.length) (M:o.op=.call { callee:=.value x,args:=ops,argTypes:=ats }):
 Bq P o ((x,.fn (.func f) fi ca)::F5 ops.toList eH) es (m.up srcs es.length) (LW srcs es E'):=by
 intro C ok H a w Q O z;have u:=z (x,.fn (.func f) fi ca) BU;simp only at u;generalize S:a.eval x=v at u;cases u with
 |fn _ _ _ vs us j q U Y=>
  unfold Oper.wp
  have Z:(execOp a.eval o).run P w=.ok (.enter f ((vs++ops.map a.eval)++us)) w:=by
   have :=TP J (vs++ops.map a.eval++us) w;rw[Array.append_assoc]at this;simp[execOp,M,resolve,S,Deferred.ofValue,invoke,this]
  rw[Z,Zm]
  have e:vs++ops.map a.eval++us=((vs.toList.map Operand.const++ops.toList++us.toList.map Operand.const).map a.eval).toArray:=by
   apply aJp;simp[wG,Act.eval]
  rw[e];have l1:(vs.toList.map Operand.const).length=fi.length:=Ny
  refine(aOu O srcs I L hE ha (by simp at s;simp[j,q,s]) (a:=a) ?_).mono ?_
  ·rw[aM5 (by simp at s;simp[j,s]),aM5 l1];intro n h;simp only[I8]at h;rcases h with(h|h)|h
   ·exact aJA Ny (fun i hi=>by have :=U i hi;simpa[List.getD,Gu]using this) n h
   ·exact z n (Hr _ h)
   exact aJA TY (fun i hi=>by have :=Y i hi;simpa[List.getD,Gu]using this) n h
  rintro e w' ⟨v,ok',H',rfl,h3,h4,h5,h6⟩;exact⟨v,ok',H',rfl,h3,h4,h5,h6⟩
def R.dfn {ok:Nat→Prop} {w:World} {H:List Bo} {f:Fn} {fi ca:List D} {v:Value} (h:R ok w H (.d (.fn f fi ca)) v):R ok w H (.fn f (fi.map .d) (ca.map .d)) v:=by
 cases h with
 |d _ _ h=>
  cases h with
  |fn _ _ _ vs us n q s u=>
   refine .fn f _ _ vs us Nj TY (fun i hi=>?_) (fun i hi=>?_)
   ·have j:i<fi.length:=Fj
    have m:(fi.map Ag.d).getD i .junk=.d (fi.getD i Dp):=qC
    rw[m];exact .d _ _ (s i j)
   have j:i<ca.length:=Fj
   have m:(ca.map Ag.d).getD i .junk=.d (ca.getD i Dp):=qC
   rw[m];exact .d _ _ (u i j)
def aoF {f:FuncId} {x:Operand} {ops:Array Operand} {ats:Array TypeId} (srcs:List Dv) {fi ca:List D} {eH fU:List Ag} {E E':List BQ} {j:Ag} (q:Ap P f fU E j E') (s:Dt P f=true) (u:Qo srcs es E E'=true) (hE:pJ srcs es E)
 (ha:Lh srcs (fi.map .d++eH++ca.map .d) fU) (z:ops.toList.length=eH.length) (I:o.op=.call { callee:=.value x,args:=ops,argTypes:=ats }):
 Bq P o ((x,.d (.fn (.func f) fi ca))::F5 ops.toList eH) es (j.up srcs es.length) (LW srcs es E'):=by
 intro C ok H a w Q J m;refine aao (fi:=fi.map .d) (ca:=ca.map .d) srcs q s u hE ha z I C ok H a w Q J (fun n h=>?_);rcases F6.1 h with rfl|h
 ·exact R.dfn (m (x,.d (.fn (.func f) fi ca)) BU)
 exact m n (Hr _ h)
def Pv (S:List Dv) (es:List BQ):List Dv→List BQ→Prop
 |s::srcs,e::E=>(match s with | .ent k=>es[k]? =some (e.up S es.length)| .nil sz=>∃t,e=.arr t sz [])∧Pv S es srcs E
 | [],_=>True
 |_::_,[]=>False
def LH {S:List Dv} {es:List BQ} {k:Nat} {e:BQ} {srcs:List Dv} {E:List BQ} (h:es[k]? =some (e.up S es.length)) (f:Pv S es srcs E):Pv S es (.ent k::srcs) (e::E):=⟨h,f⟩
def afz {S:List Dv} {es:List BQ} {sz t:Nat} {srcs:List Dv} {E:List BQ} (f:Pv S es srcs E):Pv S es (.nil sz::srcs) (.arr t sz []::E):=⟨⟨t,rfl⟩,f⟩
def aRf {S:List Dv} {es:List BQ}:∀{srcs:List Dv} {E:List BQ},Pv S es srcs E→∀(i:Nat) (s:Dv),srcs[i]? =some s→match s with | .ent k=>(E[i]?).map (BQ.up S es.length)=es[k]? | .nil sz=>∃e,E[i]? =some (.arr e sz [])
 | [],_,_,i,s,f=>UF
 |_::_,[],h,_,_,_=>h.elim
 |s::srcs,e::E,h,0,j,f=>by
  simp at f;subst f;have m:=h.1;cases s with
  |ent k=>simp only at m;simp[m]
  |nil sz=>obtain⟨t,rfl⟩:=m;exact⟨t,rfl⟩
 |s::srcs,e::E,h,i+1,j,f=>by
  have :=aRf h.2 i j KZ;cases j with
  |ent k=>simpa using this
  |nil sz=>simpa using this
def aHD {es:List BQ} {srcs:List Dv} {E:List BQ} (h:Pv srcs es srcs E):pJ srcs es E:=aRf h
def aeD {f:FuncId} {ops:Array Operand} {ats:Array TypeId} (srcs:List Dv) {eH fU:List Ag} {E E':List BQ} {h res':Ag} (j:Ap P f fU E h E') (m:Dt P f=true) (n:Qo srcs es E E'=true) (hE:Pv srcs es srcs E) (ha:Lh srcs eH fU) (q:ops.toList.length=eH.length)
 (s:res'=h.up srcs es.length) (u:o.op=.call { callee:=.value (.func f),args:=ops,argTypes:=ats }):Bq P o (F5 ops.toList eH) es res' (LW srcs es E'):=s▸aRx srcs j m n (aHD hE) ha q u
def af8 {f:FuncId} {x:Operand} {ops:Array Operand} {ats:Array TypeId} (srcs:List Dv) (fi ca:List Ag) {eH fU:List Ag} {E E':List BQ} {h res':Ag} (j:Ap P f fU E h E') (m:Dt P f=true) (n:Qo srcs es E E'=true) (hE:Pv srcs es srcs E)
 (ha:Lh srcs (fi++eH++ca) fU) (q:ops.toList.length=eH.length) (s:res'=h.up srcs es.length) (u:o.op=.call { callee:=.value x,args:=ops,argTypes:=ats }):
 Bq P o ((x,.fn (.func f) fi ca)::F5 ops.toList eH) es res' (LW srcs es E'):=s▸aao srcs j m n (aHD hE) ha q u
def alg {f:FuncId} {x:Operand} {ops:Array Operand} {ats:Array TypeId} (srcs:List Dv) (fi ca:List D) {eH fU:List Ag} {E E':List BQ} {h res':Ag} (j:Ap P f fU E h E') (m:Dt P f=true) (n:Qo srcs es E E'=true) (hE:Pv srcs es srcs E)
 (ha:Lh srcs (fi.map .d++eH++ca.map .d) fU) (q:ops.toList.length=eH.length) (s:res'=h.up srcs es.length) (u:o.op=.call { callee:=.value x,args:=ops,argTypes:=ats }):
 Bq P o ((x,.d (.fn (.func f) fi ca))::F5 ops.toList eH) es res' (LW srcs es E'):=s▸aoF srcs j m n (aHD hE) ha q u
end
structure Turns (v:Value) (w w':World):Prop where
 os:w'.os=w.os
 tape:w'.tape=w.tape
 output:w'.output=w.output
 size:w.heap.size≤w'.heap.size
 block:∀c,c<w.heap.size→DX v≠some c→w'.heap[c]? =w.heap[c]?
def Turns.refl (v:Value) (w:World):Turns v w w:=⟨rfl,rfl,rfl,E9 _,fun _ _ _=>rfl⟩
def Turns.azl {g o n c:Nat} {s:Option Nat} {w w':World} (h:w.grownBy w' (some g)):Turns (.slice (some ⟨g,o,s⟩) n c) w w':=
 ⟨h.os,h.tape,h.output,h.size,fun k j f=>h.block k j (fun e=>f (by cases e;rfl))⟩
def Du.ahj {ok:Nat→Prop} {w:World} {u v:Value} (h:Du ok w (.lit u) v):v=u:=by cases h;rfl
def aJs :∀(l:List Int),flat (l.map AZ)=l.map fun n=>.d (AZ n)
 | []=>rfl
 |n::l=>by rw[Ko,V4,aJs l];rfl
def aEV {ok:Nat→Prop} {w:World} {H:List Bo} {h:Bo} {e:TypeId} {l:List Int}:Em ok w H h (.arr e 1 (List.map AZ l))↔h.size=1∧nD w e 1 h.v l.length (l.map (.int .i64)):=by
 constructor
 ·rintro⟨m,_,xs,j,q,s⟩;refine⟨m,?_⟩;rw[D6]at j
  have :xs=l.map (.int .i64):=by
   rw[aJs]at q s;rw[D6]at q;refine ng (by simp[q]) fun i hi I=>?_;have f:i<l.length:=AA
   have u:=(s i KZ).2;simp only[List.getD,J9,Dn f,IB,MC,Dn hi]at u;cases u with |d _ _ h=>rw[Du.ahj h];simp
  rw[←this];exact j
 rintro⟨m,j⟩;refine⟨m,fun x z=>?_,l.map (.int .i64),by rw[D6];exact j,?_⟩
 ·obtain⟨n,_,rfl⟩:=Fh.1 z;rfl
 rw[aJs];refine⟨BU,fun i hi=>?_⟩;have f:i<l.length:=Fj
 simp only[List.getD,J9,Dn f,IB,MC];exact⟨rfl,.d _ _ (.lit _)⟩
def aaW {f:Array Value} (h:f.size=1):f= #[f.getD 0 undef]:=by
 refine ZV jL fun i m j=>?_;simp at j;subst j;simp[Array.getD,h]
def Ap.aBj {P:Program} {f:FuncId} {e:TypeId} {l r:List Int}
 (h:∀(v:Value) (w:World),nD w e 1 v l.length (l.map (.int .i64))→Calls P f #[v] w fun x w'=>x=.returned (.tuple #[])∧nD w' e 1 v r.length (r.map (.int .i64))∧Turns v w w'):
 Ap P f [.aO 0] [.arr e 1 (List.map AZ l)] (.fP []) [.arr e 1 (List.map AZ r)]:=by
 intro ok X H w S s Y ha;have Z:=ha 0 Bd;rw[aaW Y];obtain⟨hd,J,L⟩:=G7 s.ent s.hlen (k:=0) rfl;obtain hv:=P9 Z J;rw[hv];obtain⟨hz,M⟩:=aEV.1 L;refine(h hd.v w M).mono ?_;rintro x w' ⟨rfl,u,q⟩;have m:=fun b z=>s.blk 0 _ hd b rfl rfl J z
 have hg:=s.change (ok':=ok) (H':=H) (w':=w') (es':=[.arr e 1 (List.map AZ r)]) (fun c=>DX hd.v=some c) q.os q.tape q.output q.size q.block (fun c U _=>⟨(m c U).1,(m c U).2.2⟩) (fun _ h=>h) (fun _ h=>.inl h) (.refl _) s.hlen (by
  intro k e' h' j I
  match k,j with
  |0,j=>
   simp at j;subst j;rw[J]at I;obtain rfl:=Cm I;refine .inr ⟨aEV.2 ⟨hz,u⟩,fun _ b z=>⟨(m b z).1,Uz (m b z).2.1 q.size,(m b z).2.2,fun k' e'' h'' O n=>?_⟩⟩
   match k',n with
   |0,_=>exact absurd rfl O
   |k'+1,n=>simp at n
  |k+1,j=>simp at j)
 exact⟨_,ok,H,rfl,hg.1,.fP [] #[] rfl (fun i hi=>Ns)⟩
def Ap.turned {P:Program} {f:FuncId} {e:TypeId} {l r:List Int}
 (h:∀(v:Value) (w:World),nD w e 1 v l.length (l.map (.int .i64))→Calls P f #[v] w fun x w'=>∃v',x=.returned v'∧nD w' e 1 v' r.length (r.map (.int .i64))∧Turns v w w'∧∀g,DX v'=some g→DX v=some g∨w.heap.size≤g):
 Ap P f [.aO 0] [.arr e 1 (List.map AZ l)] (.aO 1) [.dead,.arr e 1 (List.map AZ r)]:=by
 intro ok X H w I q M ha;have O:=ha 0 Bd;rw[aaW M];obtain⟨hd,J,u⟩:=G7 q.ent q.hlen (k:=0) rfl;obtain S:=P9 O J;rw[S];obtain⟨Z,z⟩:=aEV.1 u;refine(h hd.v w z).mono ?_;rintro x w' ⟨v',rfl,j,m,n⟩;have s:=q.turn (e:=.arr e 1 (List.map AZ r)) (h':=⟨v',1⟩) (w':=w') (k:=0) rfl rfl J m.os m.tape m.output m.size m.block (fun g s=>⟨rP j s,n g s⟩) (fun _=>aEV.2 ⟨rfl,j⟩);refine⟨v',ok,H++[⟨v',1⟩],rfl,s.1,?_⟩;have U:H.length=1:=q.hlen;have L:(H++[(⟨v',1⟩:Bo)])[1]? =some ⟨v',1⟩:=by rw[←U];simp
 rcases j.2 with⟨rfl,_⟩|⟨g,cap,Y,rfl,_⟩
 ·exact .aO 1 _ _ _ 1 L
 exact .aO 1 _ _ _ 1 L
def Ap.plain {P:Program} {f:FuncId} {vs:List Value} {j:Ag} {v:Value} (J:∀ok w H,R ok w H j v)
 (h:∀w,Calls P f vs.toArray w fun x w'=>x=.returned v∧Below w.heap.size w w'):Ap P f (vs.map fun u=>.d (.lit u)) [] j []:=by
 intro ok X H w m z L ha
 have e:m=vs.toArray:=by
  refine ZV aGb fun i M O=>?_;have n:i<vs.length:=aBO
  have I:=ha i Nj;simp only[List.getD,J9,Dn n,IB,MC]at I;cases I with |d _ _ h=>have :=Du.ahj h;simpa[Array.getD,M]using this
 rw[e];refine(h w).mono ?_;rintro x w' ⟨rfl,q⟩
 have S:=z.change (ok':=ok) (H':=H) (w':=w') (es':=[]) (fun _=>False) q.os q.tape q.output q.size (fun c U _=>q.block c U) (fun _ h=>h.elim) (fun _ h=>h) (fun _ h=>.inl h) (.refl _) z.hlen (by
  intro k e' h' s Y
  simp at s)
 exact⟨v,ok,H,rfl,S.1,J _ _ _⟩
def Chain.axW {P:Program} {ops:Array Oper} {l J:List Oper} {σ σ':BL} (h:Chain P ops l σ σ') {ro:Option Nat} {C:EI} {H0:List Bo} {Q:Exit→Act→World→Prop}:
 ∀{ok:Nat→Prop} {H:List Bo} {a:Act} {w:World},Holds C ok H σ a w→Names H0 H→(∀ok' H' a' w',Holds C ok' H' σ' a' w'→Names H0 H'→wpListIn (Io ro) 0 P ops Q J a' w')→wpListIn (Io ro) 0 P ops Q (l++J) a w:=by
 induction h with
 |nil σ=>intro ok H a w f L q;exact q ok H a w f L
 | @op o rest σ σ' ns x d M L z hd k I=>
   intro ok H a w f j q;subst hd;rw[WT];unfold wpListIn;rw[D7 (Ox f z)];refine QD ?_ (M.inR ro C ok H a w Q f.mem (fun n s=>Oa L n s▸f.get n.1));rintro a' w' ⟨v,ok',H',rfl,u,m,O,S⟩;exact I (f.put o.dst u m O S) (j.trans m) q
 | @oe o rest σ σ' ns x es' d E M Z L z hd k I=>
   intro ok H a w f j q;subst hd;subst Z;rw[WT];unfold wpListIn;rw[D7 (Ox f z)];refine QD ?_ (M.inR ro C ok H a w Q f.mem (fun n s=>Oa L n s▸f.get n.1));rintro a' w' ⟨v,ok',H',rfl,u,m,O,S⟩;exact I (f.put o.dst u m O S) (j.trans m) q
 | @skip o rest σ σ' d z hd k I=>
   intro ok H a w f j q;subst hd;rw[WT];unfold wpListIn;rw[DF eu];exact⟨fun _ _=>trivial,I (f.put o.dst (.refl _ _) (.refl _) f.mem (.d _ _ (.lit _))) j q⟩
 | @any o rest σ σ' x d U hd k I=>
   intro ok H a w f j q;subst hd;rw[WT];unfold wpListIn;rcases U.1 with⟨ns,M,L,_,z⟩|⟨rfl,_,z⟩
   ·rw[D7 (Ox f z)];refine QD ?_ (M.inR ro C ok H a w Q f.mem (fun n s=>Oa L n s▸f.get n.1));rintro a' w' ⟨v,ok',H',rfl,u,m,O,S⟩;exact I (f.put o.dst u m O S) (j.trans m) q
   rw[DF eu];exact⟨fun _ _=>trivial,I (f.put o.dst (.refl _ _) (.refl _) f.mem (.d _ _ (.lit _))) j q⟩
 | @aeX o rest σ σ' x E bar d U hd k I=>
   intro ok H a w f j q;subst hd;rw[WT];unfold wpListIn;rcases U.1 with⟨ns,M,L,_,z⟩|⟨rfl,rfl,z⟩
   ·rw[D7 (Ox f z)];refine QD ?_ (M.inR ro C ok H a w Q f.mem (fun n s=>Oa L n s▸f.get n.1));rintro a' w' ⟨v,ok',H',rfl,u,m,O,S⟩;exact I (f.put o.dst u m O S) (j.trans m) q
   rw[DF eu];exact⟨fun _ _=>trivial,I (f.put o.dst (.refl _ _) (.refl _) f.mem (.d _ _ (.lit _))) j q⟩
 |conv σ2 hc k I=>
  intro ok H a w f j q;obtain⟨ok',Y⟩:=hc C ok H a w f;exact I Y j q
def AB.awe {P:Program} {σ s:BL} {Q:Exit→BL→Prop} {id:Nat} {ops:Array Oper} {q:Oper} {x:Operand} {t t' e d:Nat} {es:List D} (k:Nat) (f:ops.toList.drop k=[q]) (h:Chain P ops (ops.toList.take k) σ s)
 (J:q.op=.binOp .eql t x (.const (.slice none 0 0)) t') (hd:q.dst=some d) (L:q.guard=none) (M:P.underlying t=some (.slice e)) (O:s.get x=.d (.sl es)) (S:∀b,(es≠[]→b=false)→Q .normal (s.rG (some d) (.d (.lit (.bool b))))):AB P (.region id ops false) σ Q:=by
 refine⟨fun ro _ C ok H a w U=>aJ8 ?_⟩;rw[←bF k ops.toList,f];refine h.axW U (.refl H) fun ok' H' a' w' u _=>?_;have m:=O▸u.get x
 obtain⟨b,Y,Z⟩:∃b,(es≠[]→b=false)∧(execOp a'.eval q).run P w'=.ok (.value (.bool b)) w':=by
  cases m with
  |d _ _ m=>
   generalize j:a'.eval x=v at m
   have key:∀(ad:Option Addr) (n c:Nat),v=.slice ad n c→(execOp a'.eval q).run P w'=.ok (.value (.bool ad.isNone)) w':=fun ad n c z=>by
    have I:(eqGuard .eql t x (.const (.slice none 0 0)) (.slice ad n c) (.slice none 0 0)).run P w'=.ok () w':=by simp[eqGuard]
    have e0:a'.eval (.const (.slice none 0 0))=.slice none 0 0:=rfl;rw[z]at j;simp only[execOp,J,j,e0,F7,I,FI,Lib.run_eql_slice_nil w' t e ad n c 0 0 M,Fr]
   cases m with
   |sl0 ad cap=>exact⟨ad.isNone,fun h=>absurd rfl h,key _ _ _ rfl⟩
   |sl es b off cap size=>exact⟨false,fun _=>rfl,key _ _ _ rfl⟩
 unfold wpListIn;rw[D7 (by unfold Region.wanted;rw[L])];unfold Oper.wpIn;rw[kE _ _ _ (by rw[J];intro c h;cases h),Z,Oper.uponIn_value];refine⟨fun _ _=>trivial,?_⟩;unfold wpListIn;exact⟨ok',H',_,by rw[hd];exact u.put (some d) (.refl _ _) (.refl _) u.mem (.d _ _ (.lit _)),S b Y⟩
def ou {P:Program} {σ j:BL} {Q:Exit→BL→Prop} {id:Nat} {ops:Array Oper} {y:Code} {q:Oper} {x:Operand} {t t' e d:Nat} {es:List D} (k:Nat) (f:ops.toList.drop k=[q]) (h:Chain P ops (ops.toList.take k) σ j)
 (n:q.op=.binOp .eql t x (.const (.slice none 0 0)) t') (hd:q.dst=some d) (u:q.guard=none) (z:P.underlying t=some (.slice e)) (I:j.get x=.d (.sl es)) (J:∀b,(es≠[]→b=false)→AB P y (j.rG (some d) (.d (.lit (.bool b)))) Q):AB P (.seq (.region id ops false) y) σ Q:=
 AB.seq (fun s=>∃b,(es≠[]→b=false)∧s=j.rG (some d) (.d (.lit (.bool b)))) (AB.awe k f h n hd u z I fun b m=>⟨b,m,rfl⟩) (by rintro _ ⟨b,m,rfl⟩;exact J b m)
def xA {α:Type} {l:List α} {e:α→D} (h:List.map e l≠[]→true=false):l=[]:=by
 cases l with
 |nil=>rfl
 |cons a l=>exact absurd (h BU) Bd
def aSB {α:Type} {p:Nat→α→Prop}:∀n,(∀i,i<n→∃x,p i x)→∃l:List α,l.length=n∧∀i (h:i<l.length),p i l[i]
 |0,_=>⟨[],rfl,fun i h=>Hl⟩
 |n+1,h=>by
  obtain⟨l,f,j⟩:=aSB n (fun i hi=>h i AA);obtain⟨x,m⟩:=h n AA;refine⟨l++[x],Vk,fun i hi=>?_⟩;simp at hi;by_cases e:i<l.length
  ·rw[aJk e];exact j i e
  have :i=n:=AA
  subst this;rw[adx AA];simpa[f]using m
def pieces :List Nat→Nat→List Value→List Value
 | [],_,_=>[]
 |n::r,o,cs=>(cs.drop o).take n++pieces r (o+n) cs
def pieces_eq :∀(ns:List Nat) (o:Nat) (cs:List Value),cs.length=o+ns.sum→pieces ns o cs=cs.drop o
 | [],o,cs,h=>by simp at h;simp[pieces,h]
 |n::r,o,cs,h=>by
  simp only[List.sum_cons]at h;unfold pieces;rw[pieces_eq r (o+n) cs AA,←aIz,bF]
def D9 (w:World) (f:List D) (cs:List Value):Prop:=cs.length=f.length∧∀j,j<f.length→(f.getD j Dp).leaf=true∧Du (fun b=>b<w.heap.size) w (f.getD j Dp) (cs.getD j undef)
def D9.nil (w:World):D9 w [] []:=⟨rfl,fun j h=>Hl⟩
def D9.append {w:World} {f es:List D} {cs us:List Value} (h:D9 w f cs) (k:D9 w es us):D9 w (f++es) (cs++us):=by
 refine⟨by simp[h.1,k.1],fun j s=>?_⟩;by_cases e:j<f.length
 ·have m:(f++es).getD j Dp=f.getD j Dp:=aIH
  have n:(cs++us).getD j undef=cs.getD j undef:=by simp[List.getD,GH (show j<cs.length by rw[h.1];exact e)]
  rw[m,n];exact h.2 j e
 have q:j-f.length<es.length:=Rx
 have m:(f++es).getD j Dp=es.getD (j-f.length) Dp:=by simp[List.getD,Jd (Tq e)]
 have n:(cs++us).getD j undef=us.getD (j-f.length) undef:=by
  have u:=h.1;simp only[List.getD,Jd (show cs.length≤j by omega),u]
 rw[m,n];exact k.2 _ q
section
variable {H : Type} {enc : TypeId × Value → H} {w : World} {base : Nat} {spare : Nat → Bool} {held : Bool} {P : Program} {t : TypeId}
def Ld {α:Type} (enc:TypeId×Value→H) (P:Program) (w:World) (base:Nat) (spare:Nat→Bool) (held:Bool) (t:TypeId) (e:α→D) (V:α→Prop):Prop:=
 ∀Az cs x,DataW.trod enc P w base spare held Az t cs=some x→∃a:α,V a∧D9 w (e a).cells cs
def D9.one {w:World} {x:D} {v:Value} (f:x.cells=[x]) (m:x.leaf=true) (h:Du (fun b=>b<w.heap.size) w x v):D9 w x.cells [v]:=by
 rw[f];refine⟨rfl,fun j n=>?_⟩
 match j,n with
 |0,_=>exact⟨m,h⟩
def PI {α:Type} {e:TypeId} {sz:Nat} {O:α→D} {V:α→Prop} (ht:P.underlying t=some (.slice e)) (hc:P.cellsOf e=sz) (U:0<sz) (hsz:∀a,(O a).cells.length=sz) (hR:Ld enc P w base spare held e O V):
 Ld enc P w base spare held t (Au O) (fun l=>l.length≤maxLen∧∀x∈l,V x):=by
 intro Az cs x h;rcases Go.Deep.open_slice ht h with⟨rfl, -⟩|⟨a,len,cap,m,n,D,Pl,rfl, -,hl,hm,hmm, -,hx⟩
 ·exact⟨[],⟨EY _,fun x h=>Hl⟩,.one rfl rfl (.sl0 none 0)⟩
 have hlm:len≤m:=by rw[hmm];split<;>omega
 rw[hc]at hx
 have hex:∀i,i<len→∃y:α,V y∧∃q:List Value,w.cells? base (a.add (i*sz)) sz=some q∧D9 w (O y).cells q:=by
  intro i hi;obtain⟨q,S,h2⟩:=hx i AA;obtain⟨y,h3,z⟩:=hR _ _ _ h2;exact⟨y,h3,q,S,z⟩
 obtain⟨l,hlen,Y⟩:=aSB len hex;subst hlen;refine⟨l,⟨AA,fun x hx=>?_⟩,?_⟩
 ·obtain⟨i,hi,rfl⟩:=Ii hx;exact(Y i hi).1
 rcases YD l.length with h0|hlp
 ·have :l=[]:=Gt h0;subst this;exact .one rfl rfl (.sl0 _ _)
 have f:∀i,(hi:i<l.length)→∀j,j<sz→∃u,w.cell? ((a.add (i*sz)).add j)=some u∧((O l[i]).cells.getD j Dp).leaf=true∧Du (fun b=>b<w.heap.size) w ((O l[i]).cells.getD j Dp) u:=by
  intro i hi j Z;obtain⟨-,q,S,h2⟩:=Y i hi;obtain⟨-,h6,h5⟩:=World.cells?_some S;have hcl:q.length=sz:=by rw[h2.1,hsz]
  have h7:=h5 j Z;rw[Dn AA]at h7;refine⟨_,h7,?_⟩;have h8:=h2.2 j (by rw[hsz];exact Z);simpa[List.getD,show j<q.length by omega]using h8
 have J:a.spot=none:=by
  obtain⟨u,z, -⟩:=f 0 hlp 0 U;have e0:(a.add (0*sz)).add 0=a:=by simp[Addr.add]
  rw[e0]at z;unfold World.cell? at z;cases hsp:a.spot with
  |none=>rfl
  |some s=>
   rw[hsp]at z;cases hh:w.heap[a.block]? with
   |none=>rw[hh]at z;simp at z
   |some o=>rw[hh]at z;cases o<;>simp at z
 have hblk:a.block<w.heap.size:=by
  obtain⟨u,z, -⟩:=f 0 hlp 0 U;have e0:(a.add (0*sz)).add 0=a:=by simp[Addr.add]
  rw[e0]at z;unfold World.cell? at z;apply Xu;intro hn;rw[Array.getElem?_eq_none (Tq hn)]at z;simp at z
 obtain⟨b,o,s⟩:=a;simp only at J hblk;subst J;have I:(List.map O l).length=l.length:=D6 _;have L:∀i,(hi:i<l.length)→(List.map O l).getD i Dp=O l[i]:=fun i hi=>Le
 have M:∀i j,((⟨b,o,none⟩:Addr).add (i*sz)).add j=⟨b,o+(i*sz+j),none⟩:=fun i j=>by simp only[Addr.add];split<;>split<;>simp_all<;>omega
 refine .one rfl rfl ?_
 have :=Du.sl (ok:=fun b=>b<w.heap.size) (w:=w) (List.map O l) b o cap sz (by rw[I];exact hl) (fun _ _=>hblk) (fun i hi=>by rw[I]at hi;rw[L i hi];exact hsz _)
  (fun i hi j Z=>by rw[I]at hi;obtain⟨u,_,h2,_⟩:=f i hi j Z;rw[L i hi];exact h2)
  (fun i hi j Z=>by rw[I]at hi;obtain⟨u,S,_,_⟩:=f i hi j Z;rw[M]at S;rw[S];rfl)
  (fun i hi j Z=>by rw[I]at hi;obtain⟨u,S,_,h3⟩:=f i hi j Z;rw[M]at S;rw[L i hi];unfold cellAt;rw[S];exact h3)
 rw[I]at this;exact this
def FX {k:IntKind} (f:P.underlying t=some (.int k)):Ld enc P w base spare held t (fun n=>D.lit (.int k n)) (fun n:Int=>k.min≤n∧n≤k.max):=by
 intro Az cs x h;obtain⟨n,rfl, -,j⟩:=DataW.trod_int f h;exact⟨n,by simpa[Lit.wf]using j,.one rfl rfl (.lit _)⟩
def Lc (f:P.underlying t=some .string):Ld enc P w base spare held t Ci (fun s=>s.size≤maxLen):=by
 intro Az cs x h;obtain⟨n,rfl, -,j⟩:=DataW.trod_string f h;exact⟨n,j,.one rfl rfl (.lit _)⟩
def aB7 (f:P.underlying t=some .bool):Ld enc P w base spare held t DT (fun _=>True):=by
 intro Az cs x h;obtain⟨n,rfl, -⟩:=DataW.trod_bool f h;exact⟨n,trivial,.one rfl rfl (.lit _)⟩
def E5 {α:Type} {s:Array Field} {Az:Nat} {cs:List Value} {x:DataW H×List MemPlace} (J:P.underlying t=some (.struct s)) (h:DataW.trod enc P w base spare held Az t cs=some x) (i:Nat) (u o n:Nat) (m:(s[i]?).map (fun f=>(f.type,f.offset,P.cellsOf f.type))=some (u,o,n))
 {z:α→D} {V:α→Prop} (L:Ld enc P w base spare held u z V):∃a:α,V a∧D9 w (z a).cells ((cs.drop o).take n):=by
 obtain⟨xs,k, -, -, -,hlen,q⟩:=DataW.trod_struct J h;cases j:s[i]? with
 |none=>rw[j]at m;simp at m
 |some f=>
  rw[j]at m;simp only[IB,LJ,Qc]at m;obtain⟨rfl,rfl,rfl⟩:=m;have I:=q i f j;have hi:i<s.size:=(Fq.1 j).1;rw[Dn AA]at I;exact L _ _ _ I
def Qd {f:Array Field} {Az:Nat} {cs:List Value} {x:DataW H×List MemPlace} (j:P.underlying t=some (.struct f)) (h:DataW.trod enc P w base spare held Az t cs=some x) (n:Nat) (m:P.cellsOf t=n):cs.length=n:=by
 obtain⟨xs,k, -, -,hlen, -⟩:=DataW.trod_struct j h;rw[hlen,m]
def Qh {cs:List Value} {f:List D} (ns:List Nat) (j:cs.length=ns.sum) (h:D9 w f (pieces ns 0 cs)):D9 w f cs:=by
 rw[pieces_eq ns 0 cs AA]at h;simpa using h
end
def aKC {w:World} {x:D} {v:Value} (f:x.cells=[x]) (j:v.cells= #[v]) (h:D9 w x.cells v.cells.toList):Du (fun b=>b<w.heap.size) w x v:=by
 rw[f,j]at h;exact(h.2 0 BU).2
def Ap.start {P:Program} {f:FuncId} {xs:List D} {j:Array Value} {W:World} {x:D} (h:Ap P f (xs.map .d) [] (.d x) []) (s:j.size=xs.length) (ha:∀i,i<xs.length→Du (fun b=>b<W.heap.size) W (xs.getD i Dp) (j.getD i undef)):
 Calls P f j W fun e W'=>∃v ok,e=.returned v∧Du ok W' x v∧Below W.heap.size W W':=by
 refine(h (fun b=>b<W.heap.size) [] [] W j ⟨.refl _ _,fun _ h=>h,fun _ h=>.inl h,fun _ h=>h,.refl _,rfl,fun k e h m=>by simp at m,fun k e h b m=>by simp at m,fun k k' e e' h h' b m=>by simp at m⟩ P6 (fun i hi=>?_)).mono ?_
 ·have n:i<xs.length:=Fj
  have :(xs.map Ag.d).getD i .junk=.d (xs.getD i Dp):=by simp[List.getD,n]
  rw[this];exact .d _ _ (ha i n)
 rintro e W' ⟨v,ok',H',rfl,u,q⟩;cases q with
 |d _ _ q=>exact⟨v,ok',rfl,q,u.fr.below⟩
def Ap.law {P:Program} {f:FuncId} {xs:List D} {j:Array Value} {W:World} (h:Ap P f (xs.map .d) [] (.d (DT true)) []) (m:j.size=xs.length) (ha:∀i,i<xs.length→Du (fun b=>b<W.heap.size) W (xs.getD i Dp) (j.getD i undef)):
 Calls P f j W fun e W'=>e=.returned (.bool true)∧Below W.heap.size W W':=by
 refine(h.start m ha).mono ?_;rintro e W' ⟨v,ok,rfl,n,q⟩;exact⟨by rw[Du.ahj n],q⟩
end Go.Proofs.YtolgdkhlelfpoaaGreat
end
section
namespace Go.Proofs.YtolgdkhlelfpoaaGreat
def Di (l:List Int) (x:Int):Bool:=l.contains x
def JW {l:List Int} {x:Int}:Di l x=true↔x∈l:=by unfold Di;simp
def O7 {l:List Int} {x:Int}:Di l x=false↔x∉l:=by unfold Di;simp
def put (l:List Int) (x:Int):List Int:=if Di l x then l else l.takeWhile (decide<| · <x)++x::l.dropWhile (decide<| · <x)
def EX (l:List Int):List Int:=l.foldl put []
def Hf (a b:List Int):List Int:=b.foldl put (EX a)
def OJ (a b:List Int):List Int:=(EX a).filter (fun x=> !Di b x)
abbrev Inc (l:List Int):Prop:=l.Pairwise (· < ·)
def agv {l:List Int} {x:Int}:∀y∈l.takeWhile (decide<| · <x),y<x:=by
 intro y f;have :=List.all_takeWhile (l:=l) (p:=(decide<| · <x));rw[ER]at this;simpa using this y f
def aTm :∀{l:List Int} {x:Int},Inc l→∀y∈l.dropWhile (decide<| · <x),x≤y
 | [],x,_,y,f=>UF
 |a::l,x,h,y,f=>by
  have h':=Ol.1 h;by_cases ha:a<x
  ·rw[aSt (by simpa using ha)]at f;exact aTm h'.2 y f
  rw[aaU (by simpa using ha)]at f;rcases F6.1 f with rfl|f
  ·omega
  have :=h'.1 y f;omega
def WO {l:List Int} {x y:Int}:y∈put l x↔y∈l∨y=x:=by
 unfold put;split
 ·rename_i h;have f:x∈l:=JW.1 h;constructor
  ·exact .inl
  rintro(h|rfl)
  ·exact h
  exact f
 have e:l.takeWhile (decide<| · <x)++l.dropWhile (decide<| · <x)=l:=uI
 have :y∈l↔y∈l.takeWhile (decide<| · <x)∨y∈l.dropWhile (decide<| · <x):=by
  conv=>lhs;rw[←e]
  exact I8
 rw[this,I8,F6];constructor
 ·rintro(h|h|h)
  ·exact .inl (.inl h)
  ·exact .inr h
  exact .inl (.inr h)
 rintro((h|h)|h)
 ·exact .inl h
 ·exact .inr (.inr h)
 exact .inr (.inl h)
def Rn {l:List Int} {x:Int} (h:Inc l):Inc (put l x):=by
 unfold put;split
 ·exact h
 rename_i q;have f:x∉l:=fun h=>q (JW.2 h)
 have hd:∀y∈l.dropWhile (decide<| · <x),x<y:=by
  intro y m;have n:=aTm h y m;have s:y∈l:=(aMV _).mem m;have :y≠x:=fun e=>f (e▸s);omega
 refine aFG.2 ⟨h.sublist (List.takeWhile_sublist _),Ol.2 ⟨hd,h.sublist (aMV _)⟩,?_⟩;intro a ha b j;have n:=agv a ha;rcases F6.1 j with rfl|j
 ·exact n
 have :=hd b j;omega
def aJK {l:List Int}:∀{f:List Int} {y:Int},y∈l.foldl put f↔y∈f∨y∈l:=by
 induction l with
 |nil=>intro f y;simp
 |cons a l h=>intro f y;rw[G6,h,WO,F6,or_assoc]
def aGh {l:List Int}:∀{f:List Int},Inc f→Inc (l.foldl put f):=by
 induction l with
 |nil=>intro f h;exact h
 |cons a l j=>intro f h;exact j (Rn h)
def LZ {l:List Int} {y:Int}:y∈EX l↔y∈l:=by unfold EX;rw[aJK];simp
def LY (l:List Int):Inc (EX l):=aGh List.Pairwise.nil
def GI :∀{a b:List Int},Inc a→Inc b→(∀x,x∈a↔x∈b)→a=b
 | [],[],_,_,_=>rfl
 | [],b::bs,_,_,h=>by have :=(h b).2 BU;simp at this
 |a::aFA,[],_,_,h=>by have :=(h a).1 BU;simp at this
 |a::aFA,b::bs,ha,s,h=>by
  have j:=Ol.1 ha;have m:=Ol.1 s
  have e:a=b:=by
   rcases F6.1 ((h a).1 BU)with f|f
   ·exact f
   rcases F6.1 ((h b).2 BU)with n|n
   ·exact n.symm
   have :=j.1 b n;have :=m.1 a f;omega
  subst e;congr 1;refine GI j.2 m.2 fun x=>?_;have q:=h x;rw[F6,F6]at q;constructor
  ·intro f;rcases q.1 (.inr f)with rfl|n
   ·exact absurd (j.1 x f) AA
   exact n
  intro f;rcases q.2 (.inr f)with rfl|n
  ·exact absurd (m.1 x f) AA
  exact n
def ald {l:List Int} (h:Inc l):EX l=l:=GI (LY l) h fun _=>LZ
def rU (a b:List Int):Hf a b=EX (a++b):=by unfold Hf EX;rw[Vy]
def VG {a b:List Int} {x:Int}:x∈Hf a b↔x∈a∨x∈b:=by rw[rU,LZ,I8]
def vZ (a b:List Int):Inc (Hf a b):=by rw[rU];exact LY _
def aPL {a b:List Int} {x:Int}:x∈OJ a b↔x∈a∧x∉b:=by unfold OJ;rw[Gn,LZ];simp[Di]
def aLS (a b:List Int):Inc (OJ a b):=(LY a).sublist TT
def ajk (f:List Int):∀m,m≤f.length→∀x,x∈Lib.compactUpTo f.toArray m↔x∈f.take m:=by
 intro m
 induction m with
 |zero=>intro _ x;simp[Lib.compactUpTo]
 |succ m q=>
  intro I x;rw[Lib.compactUpTo_succ,I8,q AA,Oe AA,I8];have s:f.toArray[m]! =f[m]' AA:=by simp[show m<f.length by omega]
  by_cases n:Lib.keeps f.toArray m=true
  ·rw[D7 n,s]
  rw[DF n];have j:Lib.keeps f.toArray m=false:=Nj
  have u:m≠0:=by intro e;subst e;simp[Lib.keeps]at j
  have z:f[m]' AA=f[m-1]' AA:=by
   simp[Lib.keeps,u]at j;simpa[show m<f.length by omega,show m-1<f.length by omega]using j
  constructor
  ·intro h;rcases h with h|h
   ·exact .inl h
   simp at h
  rintro(h|h)
  ·exact .inl h
  refine .inl ?_;simp at h;subst h;rw[z];rw[List.mem_take_iff_getElem];exact⟨m-1,AA,rfl⟩
def ajx (f:List Int) (z:f.Pairwise (· ≤ ·)):∀m,m≤f.length→Inc (Lib.compactUpTo f.toArray m)∧∀x∈Lib.compactUpTo f.toArray m,∃i,∃_:i<m,∃n:i<f.length,x=f[i]:=by
 intro m
 induction m with
 |zero=>intro _;refine⟨by simp[Lib.compactUpTo],fun x h=>by simp[Lib.compactUpTo]at h⟩
 |succ m L=>
  intro U;obtain⟨I,n⟩:=L AA;have M:f.toArray[m]! =f[m]' AA:=by simp[show m<f.length by omega]
  rw[Lib.compactUpTo_succ];by_cases q:Lib.keeps f.toArray m=true
  ·rw[D7 q,M];refine⟨aFG.2 ⟨I,BU,?_⟩,?_⟩
   ·intro a ha b J;simp at J;subst J;obtain⟨i,hi,O,rfl⟩:=n a ha
    have s:∀j,(S:j<m)→f[j]' AA≤f[m-1]' AA:=by
     intro j S;by_cases e:j=m-1
     ·subst e;omega
     exact KY.1 z j (m-1) AA AA AA
    have Y:=s i hi;have Z:=KY.1 z (m-1) m AA AA AA
    have h5:f[m]' AA≠f[m-1]' AA:=by
     have u:m≠0:=AA
     simp[Lib.keeps,u]at q;simpa[show m<f.length by omega,show m-1<f.length by omega]using q
    omega
   intro x h;rcases I8.1 h with h|h
   ·obtain⟨i,a,b,c⟩:=n x h;exact⟨i,AA,b,c⟩
   simp at h;exact⟨m,AA,AA,h⟩
  rw[DF q,Pm];refine⟨I,fun x h=>?_⟩;obtain⟨i,a,b,c⟩:=n x h;exact⟨i,AA,b,c⟩
def aIt (l:List Int):Lib.compact (l.mergeSort fun x y=>decide (x≤y))=EX l:=by
 have f:(l.mergeSort fun x y=>decide (x≤y)).Pairwise (· ≤ ·):=by
  have :=List.pairwise_mergeSort (le:=fun x y:Int=>decide (x≤y)) (by intro a b c;simp;omega) (by intro a b;simp;omega) l;exact this.imp (by intro a b h;simpa using h)
 refine GI (ajx _ f _ (E9 _)).1 (LY l) fun x=>?_;rw[LZ];unfold Lib.compact;rw[ajk _ _ (E9 _),GY];exact List.mem_mergeSort
def fK {R:Type} (o:Option R) (Q:R→Prop):Prop:=∃r,o=some r∧Q r
section
variable {R A B α : Type} {Q : R → Prop}
def fK.ret {r:R} (h:Q r):fK (some r) Q:=⟨r,rfl,h⟩
def fK.bind {o:Option A} {f:A→Option R} {P:A→Prop} (h:fK o P) (k:∀x,P x→fK (f x) Q):fK (o.bind f) Q:=by
 obtain⟨x,rfl,j⟩:=h;exact k x j
def fK.mono {o:Option R} {P:R→Prop} (h:fK o P) (k:∀r,P r→Q r):fK o Q:=by
 obtain⟨x,rfl,f⟩:=h;exact⟨x,rfl,k x f⟩
def fK.bif {b:Bool} {x y:Option R} (f:b=true→fK x Q) (h:b=false→fK y Q):fK (bif b then x else y) Q:=by
 cases b with
 |true=>exact f rfl
 |false=>exact h rfl
def fK.eq {o:Option R} {r:R} (h:fK o (· =r)):o=some r:=by obtain⟨x,rfl,rfl⟩:=h;rfl
def fK.of {o:Option R} {r:R} (h:o=some r):fK o (· =r):=⟨r,h,rfl⟩
def aAq (l:List α) (i:Nat):Aq l (i:Int)=l[i]? :=by unfold Aq;rw[D7 (aL4 i)];simp
def CQ {l:List α} {i:Nat} (h:i<l.length):Aq l (i:Int)=some l[i]:=by rw[aAq];simp[h]
def DZ {b:Nat} {l m:List α} (h:(l.length+m.length)*b≤140737488355328):CZ b l m=some (l++m):=by unfold CZ;rw[D7 h]
def jD {l:List α} {lo hi:Nat} (f:lo≤hi) (h:hi≤l.length):Gy l (lo:Int) (hi:Int)=some ((l.drop lo).take (hi-lo)):=by
 unfold Gy;rw[D7 ⟨AA,AA,AA⟩];simp
def wrap_succ (i:Nat) (h:i<9223372036854775807):BA ((i:Int)+1)=((i+1:Nat):Int):=by
 rw[bP];omega
def PN {x:Int} (f: -9223372036854775808≤x) (h:x≤9223372036854775807):BA x=x:=by
 rw[bP];omega
def aNI {body:(A→Option R)→A→Option R} (I:Nat→A→Prop) (q:∀m a k,I m a→(∀f a',f<m→I f a'→fK (k a') Q)→fK (body k a) Q):
 ∀n m a,m<n→I m a→fK (bD body n a) Q
 |0,m,a,h,_=>AA
 |n+1,m,a,h,hi=>q m a _ hi fun f a' h' j=>aNI I q n f a' AA j
def Xv {body:(A→B→Option R)→A→B→Option R} (I:Nat→A→B→Prop) (s:∀m a b k,I m a b→(∀f a' j,f<m→I f a' j→fK (k a' j) Q)→fK (body k a b) Q):
 ∀n m a b,m<n→I m a b→fK (aV body n a b) Q
 |0,m,a,b,h,_=>AA
 |n+1,m,a,b,h,hi=>s m a b _ hi fun f a' j h' q=>Xv I s n f a' j AA q
def Res {body:(Int→Option R)→Int→Option R} (N:Nat) (f:N<Az) (I:Nat→Prop) (j:I 0)
 (n:∀i k,i<N→I i→(I (i+1)→fK (k ((i+1:Nat):Int)) Q)→fK (body k (i:Int)) Q) (q:∀k,I N→fK (body k (N:Int)) Q):fK (bD body Az 0) Q:=by
 refine aNI (body:=body) (Q:=Q) (fun m a=>∃i:Nat,a=i∧i+m=N∧I i) ?_ Az N 0 f ⟨0,rfl,AA,j⟩;rintro m a k ⟨i,rfl,u,hi⟩ s;by_cases e:i<N
 ·exact n i k e hi fun h=>s (m-1) _ AA ⟨i+1,rfl,AA,h⟩
 have :i=N:=AA
 subst this;exact q k hi
def Jm {body:(A→Int→Option R)→A→Int→Option R} (N:Nat) (f:N<Az) (I:Nat→A→Prop) {a0:A} (j:I 0 a0)
 (n:∀i a k,i<N→I i a→(∀a',I (i+1) a'→fK (k a' ((i+1:Nat):Int)) Q)→fK (body k a (i:Int)) Q) (q:∀a k,I N a→fK (body k a (N:Int)) Q):fK (aV body Az a0 0) Q:=by
 refine Xv (body:=body) (Q:=Q) (fun m a b=>∃i:Nat,b=i∧i+m=N∧I i a) ?_ Az N a0 0 f ⟨0,rfl,AA,j⟩;rintro m a b k ⟨i,rfl,u,hi⟩ s;by_cases e:i<N
 ·exact n i a k e hi fun a' h=>s (m-1) _ _ AA ⟨i+1,rfl,AA,h⟩
 have :i=N:=AA
 subst this;exact q a k hi
end
end Go.Proofs.YtolgdkhlelfpoaaGreat
end
section
namespace Go.Proofs
open Go.Proofs.YtolgdkhlelfpoaaGreat
open Go.Shelf
def Tryz.atU:Go.Shelf.Ren:=⟨fun |137=>171|217=>234|266=>308|n=>n,fun |9=>9|5=>5|3=>3|n=>n,fun |n=>n⟩
def Tryz.lays137:Go.Proofs.Lays.n137 Tryz.prog Tryz.atU:={
 mixed:=A8
 f137:=Tryz.func171.trans (BX some A8)
 f217:=Tryz.func234.trans (BX some A8)
 f266:=Tryz.func308.trans (BX some A8)
 t3:=FB
 a3:=YP
 z3:=Yv
 v3:=Zy
 t5:=uy
 a5:=mM
 z5:=wO
 v5:=mD
 t9:=JV
 a9:=vM
 z9:=rF
 v9:=vV }
open Go.RowKit in
def Tryz.strings_IndexByte (s:ByteArray) (c:Int) (w:World):
 Calls Tryz.prog 171 #[.string s,.int .u8 c] w fun e w'=>e=.returned (.int .i64 (Lib.indexByte s.data.toList c.toNat.toUInt8))∧w'=w:=Any.strings_IndexByte Tryz.lays137 s c w
def Tryz.atV:Go.Shelf.Ren:=⟨fun |215=>261|n=>n,fun |3=>3|4=>4|n=>n,fun |n=>n⟩
def Tryz.lays215:Go.Proofs.Lays.n215 Tryz.prog Tryz.atV:={
 mixed:=A8
 f215:=Tryz.func261.trans (BX some A8)
 t3:=FB
 a3:=YP
 z3:=Yv
 v3:=Zy
 t4:=Qr
 a4:=iw
 z4:=fV
 v4:=dw }
open Go.RowKit in
def Tryz.cmp_isNaN_int (x:Int) (w:World):
 Calls Tryz.prog 261 #[.int .i64 x] w fun e w'=>e=.returned (.bool false)∧w'=w:=Any.cmp_isNaN_int Tryz.lays215 x w
def Tryz.atW:Go.Shelf.Ren:=⟨fun |219=>309|217=>234|225=>371|224=>372|267=>373|266=>308|314=>393|n=>n,fun |9=>9|3=>3|4=>4|5=>5|46=>89|146=>326|51=>226|n=>n,fun |1=>0|n=>n⟩
def Tryz.lays219:Go.Proofs.Lays.n219 Tryz.prog Tryz.atW:={
 mixed:=A8
 f217:=Tryz.func234.trans (BX some A8)
 f219:=Tryz.func309.trans (BX some A8)
 f224:=Tryz.func372.trans (BX some A8)
 f225:=Tryz.func371.trans (BX some A8)
 f266:=Tryz.func308.trans (BX some A8)
 f267:=Tryz.func373.trans (BX some A8)
 f314:=Tryz.func393.trans (BX some A8)
 t3:=FB
 a3:=YP
 z3:=Yv
 v3:=Zy
 t4:=Qr
 a4:=iw
 z4:=fV
 v4:=dw
 t5:=uy
 a5:=mM
 z5:=wO
 v5:=mD
 t9:=JV
 a9:=vM
 z9:=rF
 v9:=vV
 t46:=zU
 a46:=Tryz.isAgg89
 z46:=Tryz.sizeOf89
 v46:=yh
 t51:=aFV
 a51:=Tryz.isAgg226
 z51:=aBV
 v51:=aE5
 t146:=Tryz.underlying326
 a146:=Tryz.isAgg326
 z146:=Tryz.sizeOf326
 v146:=Tryz.zeroValue326
 g1:=by kernel_rfl }
open Go.RowKit Go.Lib in
def Tryz.stringslite_Index_one (s:ByteArray) (c:UInt8) (w:World):
 Calls Tryz.prog 309 #[.string s,.string ⟨#[c]⟩] w fun e w'=>e=.returned (.int .i64 (Lib.indexByte s.data.toList c))∧w'=w:=Any.stringslite_Index_one Tryz.lays219 s c w
def Tryz.atX:Go.Shelf.Ren:=⟨fun |145=>172|220=>235|219=>309|217=>234|225=>371|224=>372|267=>373|266=>308|314=>393|n=>n,fun |9=>9|4=>4|59=>152|3=>3|5=>5|46=>89|146=>326|51=>226|n=>n,fun |1=>0|n=>n⟩
def Tryz.lays145:Go.Proofs.Lays.n145 Tryz.prog Tryz.atX:={
 mixed:=A8
 f145:=Tryz.func172.trans (BX some A8)
 f217:=Tryz.func234.trans (BX some A8)
 f219:=Tryz.func309.trans (BX some A8)
 f220:=Tryz.func235.trans (BX some A8)
 f224:=Tryz.func372.trans (BX some A8)
 f225:=Tryz.func371.trans (BX some A8)
 f266:=Tryz.func308.trans (BX some A8)
 f267:=Tryz.func373.trans (BX some A8)
 f314:=Tryz.func393.trans (BX some A8)
 t3:=FB
 a3:=YP
 z3:=Yv
 v3:=Zy
 t4:=Qr
 a4:=iw
 z4:=fV
 v4:=dw
 t5:=uy
 a5:=mM
 z5:=wO
 v5:=mD
 t9:=JV
 a9:=vM
 z9:=rF
 v9:=vV
 t46:=zU
 a46:=Tryz.isAgg89
 z46:=Tryz.sizeOf89
 v46:=yh
 t51:=aFV
 a51:=Tryz.isAgg226
 z51:=aBV
 v51:=aE5
 t59:=Tryz.underlying152
 a59:=Tryz.isAgg152
 z59:=Tryz.sizeOf152
 v59:=Tryz.zeroValue152
 t146:=Tryz.underlying326
 a146:=Tryz.isAgg326
 z146:=Tryz.sizeOf326
 v146:=Tryz.zeroValue326
 g1:=by kernel_rfl }
open Go.RowKit Go.Lib in
def Tryz.strings_Cut (s sep:ByteArray) (m:Int) (w:World) (hs:s.size<4294967281) (hm:w.cell? ⟨0,0,none⟩=some (.int .i64 m)):
 Calls Tryz.prog 172 #[.string s,.string sep] w fun e w'=>e=.returned (.tuple #[.string ⟨(Lib.cut s.data.toList sep.data.toList).1.toArray⟩,.string ⟨(Lib.cut s.data.toList sep.data.toList).2.1.toArray⟩,.bool (Lib.cut s.data.toList sep.data.toList).2.2])∧∃n,w'=w.drewN n:=Any.strings_Cut Tryz.lays145 s sep m w hs hm
def Tryz.atY:Go.Shelf.Ren:=⟨fun |189=>103|125=>149|257=>148|128=>204|129=>205|294=>195|295=>196|296=>197|297=>198|298=>199|299=>200|216=>201|300=>202|301=>203|328=>256|329=>257|330=>258|331=>259|332=>260|215=>261|343=>337|n=>n,fun |28=>24|3=>3|46=>89|0=>0|51=>226|53=>228|4=>4|183=>220|182=>219|131=>97|5=>5|9=>9|218=>254|222=>258|228=>300|229=>301|n=>n,fun |n=>n⟩
def Tryz.lays189:Go.Proofs.Lays.n189 Tryz.prog Tryz.atY:={
 mixed:=A8
 f125:=Tryz.func149.trans (BX some A8)
 f128:=Tryz.func204.trans (BX some A8)
 f129:=Tryz.func205.trans (BX some A8)
 f189:=Tryz.func103.trans (BX some A8)
 f215:=Tryz.func261.trans (BX some A8)
 f216:=Tryz.func201.trans (BX some A8)
 f257:=Tryz.func148.trans (BX some A8)
 f294:=Tryz.func195.trans (BX some A8)
 f295:=Tryz.func196.trans (BX some A8)
 f296:=Tryz.func197.trans (BX some A8)
 f297:=Tryz.func198.trans (BX some A8)
 f298:=Tryz.func199.trans (BX some A8)
 f299:=Tryz.func200.trans (BX some A8)
 f300:=Tryz.func202.trans (BX some A8)
 f301:=Tryz.func203.trans (BX some A8)
 f328:=Tryz.func256.trans (BX some A8)
 f329:=Tryz.func257.trans (BX some A8)
 f330:=Tryz.func258.trans (BX some A8)
 f331:=Tryz.func259.trans (BX some A8)
 f332:=Tryz.func260.trans (BX some A8)
 f343:=Tryz.func337.trans (BX some A8)
 t0:=Tryz.underlying0
 a0:=Tryz.isAgg0
 z0:=Tryz.sizeOf0
 v0:=Tryz.zeroValue0
 t3:=FB
 a3:=YP
 z3:=Yv
 v3:=Zy
 t4:=Qr
 a4:=iw
 z4:=fV
 v4:=dw
 t5:=uy
 a5:=mM
 z5:=wO
 v5:=mD
 t9:=JV
 a9:=vM
 z9:=rF
 v9:=vV
 t28:=gV
 a28:=Tryz.isAgg24
 z28:=Tryz.sizeOf24
 v28:=Tryz.zeroValue24
 t46:=zU
 a46:=Tryz.isAgg89
 z46:=Tryz.sizeOf89
 v46:=yh
 t51:=aFV
 a51:=Tryz.isAgg226
 z51:=aBV
 v51:=aE5
 t53:=Tryz.underlying228
 a53:=Tryz.isAgg228
 z53:=Tryz.sizeOf228
 v53:=Tryz.zeroValue228
 t131:=Tryz.underlying97
 a131:=Tryz.isAgg97
 z131:=Tryz.sizeOf97
 v131:=Tryz.zeroValue97
 t182:=Tryz.underlying219
 a182:=Tryz.isAgg219
 z182:=Tryz.sizeOf219
 v182:=Tryz.zeroValue219
 t183:=Tryz.underlying220
 a183:=Tryz.isAgg220
 z183:=Tryz.sizeOf220
 v183:=Tryz.zeroValue220
 t218:=Tryz.underlying254
 a218:=Tryz.isAgg254
 z218:=Tryz.sizeOf254
 v218:=Tryz.zeroValue254
 t222:=Tryz.underlying258
 a222:=Tryz.isAgg258
 z222:=Tryz.sizeOf258
 v222:=Tryz.zeroValue258
 t228:=Tryz.underlying300
 a228:=Tryz.isAgg300
 z228:=Tryz.sizeOf300
 v228:=Tryz.zeroValue300
 t229:=Tryz.underlying301
 a229:=Tryz.isAgg301
 z229:=Tryz.sizeOf301
 v229:=Tryz.zeroValue301 }
open Go.Sort Go.RowKit in
def Tryz.slices_Sort_int (blk off cap:Nat) (zs:List Int) (w:World) (hH:Holds BM w blk off zs.toArray) (hblk:blk<w.heap.size) (hsz:zs.length<4611686018427387904):
 Calls Tryz.prog 103 #[.slice (some ⟨blk,off,none⟩) zs.length cap] w fun e w'=>
  e=.returned (.tuple #[])∧∃n os,w'=grow (putRow BM (Sort.ahead w n) blk off (zs.mergeSort fun x y=>decide (x≤y)).toArray) os:=Any.slices_Sort_int Tryz.lays189 blk off cap zs w hH hblk hsz
def Tryz.apY:Go.Shelf.Ren:=⟨fun |20=>104|n=>n,fun |22=>24|3=>3|4=>4|0=>0|n=>n,fun |n=>n⟩
def Tryz.apc:Go.Proofs.Lays2.n20 Tryz.prog Tryz.apY:={
 mixed:=A8
 f20:=Tryz.func104.trans (BX some A8)
 t0:=Tryz.underlying0
 a0:=Tryz.isAgg0
 z0:=Tryz.sizeOf0
 v0:=Tryz.zeroValue0
 t3:=FB
 a3:=YP
 z3:=Yv
 v3:=Zy
 t4:=Qr
 a4:=iw
 z4:=fV
 v4:=dw
 t22:=gV
 a22:=Tryz.isAgg24
 z22:=Tryz.sizeOf24
 v22:=Tryz.zeroValue24
 i3:=by kernel_rfl }
open Go.RowKit Go.Lib Go.Sort in
def Tryz.slices_Compact_int (blk off cap:Nat) (zs:List Int) (w:World) (hH:Holds BM w blk off zs.toArray) (hsz:zs.length≤9223372036854775807) (hcap:zs.length≤cap):
 Calls Tryz.prog 104 #[.slice (some ⟨blk,off,none⟩) zs.length cap] w fun e w'=>e=.returned (.slice (some ⟨blk,off,none⟩) (Lib.compact zs).length cap)∧∃q,w'=putRow BM (Sort.ahead w q) blk off (Lib.compact zs++List.replicate (zs.length-(Lib.compact zs).length) 0).toArray:=Any.slices_Compact_int Tryz.apc blk off cap zs w hH hsz hcap
open Go.RowKit Go.Lib Go.Sort in
def Tryz.slices_Compact_int_empty (a:Option Addr) (cap:Nat) (w:World):
 Calls Tryz.prog 104 #[.slice a 0 cap] w fun e w'=>e=.returned (.slice a 0 cap)∧w'=w:=Any.slices_Compact_int_empty Tryz.apc a cap w
open Go.RowKit Go.Sort in
def Tryz.slices_Sort_int_none (p:Option Addr) (cap:Nat) (w:World):
 Calls Tryz.prog 103 #[.slice p 0 cap] w fun e w'=>e=.returned (.tuple #[])∧w'=w:=Any.slices_Sort_int_none Tryz.lays189 p cap w
end Go.Proofs
end
section
namespace Go.Proofs.YtolgdkhlelfpoaaGreat
open Go.RowKit
def Ze (x:Int):List Int→List Int
 | []=>[x]
 |y::l=>bif decide (x≤y)then x::y::l else y::Ze x l
def Rk (l:List Int):List Int:=l.foldr Ze []
def aH0 (x:Int):∀l,(Ze x l).Perm (x::l)
 | []=>.refl _
 |y::l=>by
  unfold Ze;cases h:decide (x≤y)with
  |true=>exact .refl _
  |false=>exact((aH0 x l).cons y).trans (.swap x y l)
def WR :∀l,(Rk l).Perm l
 | []=>.refl _
 |x::l=>(aH0 x (Rk l)).trans ((WR l).cons x)
def acM (x:Int):∀l,l.Pairwise (· ≤ ·)→(Ze x l).Pairwise (· ≤ ·)
 | [],_=>by simp[Ze]
 |y::l,h=>by
  have h':=Ol.1 h;unfold Ze;cases m:decide (x≤y)with
  |true=>
   have j:x≤y:=VZ m;refine Ol.2 ⟨fun z f=>?_,h⟩;rcases F6.1 f with rfl|f
   ·exact j
   have :=h'.1 z f;omega
  |false=>
   have j:¬x≤y:=KG m;refine Ol.2 ⟨fun z f=>?_,acM x l h'.2⟩;rcases F6.1 ((aH0 x l).mem_iff.1 f)with rfl|f
   ·omega
   exact h'.1 z f
def aGG :∀l,(Rk l).Pairwise (· ≤ ·)
 | []=>.nil
 |x::l=>acM x _ (aGG l)
def aMg (l:List Int):Rk l=l.mergeSort fun x y=>decide (x≤y):=by
 have f:(l.mergeSort fun x y=>decide (x≤y)).Pairwise (· ≤ ·):=by
  have :=List.pairwise_mergeSort (le:=fun x y:Int=>decide (x≤y)) (by intro a b c;simp;omega) (by intro a b;simp;omega) l;exact this.imp (by intro a b h;simpa using h)
 exact((WR l).trans (List.mergeSort_perm l _).symm).eq_of_pairwise (fun a b _ _ h k=>AA) (aGG l) f
abbrev AO:=List Int
def Oc (l:List Int):Option AO:=if l.length≤1099511627776 then some (Rk l)else none
def VU (l:List Int):Option AO:=if l.length≤1099511627776 then some (Lib.compact l)else none
def nD.nil (w:World) (e size:Nat):nD w e size (.slice none 0 0) 0 []:=.of (aE2 w 0 e size)
def atl {w:World} {g cap n:Nat} {e:TypeId} {os:Array Obj} {f:Array Value} {h j:List Int} (m:j.length=h.length) (q:w.heap[g]? =some (.cells f e (0,0)))
 (s:h.length≤cap) (u:cap≤maxLen) (z:cap*1≤f.size):
 nD (Go.Sort.grow (Go.Sort.putRow BM (Go.Sort.ahead w n) g 0 j.toArray) os) e 1 (.slice (some ⟨g,0,none⟩) h.length cap) h.length (j.map BM):=
 ⟨by simp[m],.inr ⟨g,cap,_,rfl,EY _,heap_sortedI _ q,s,u,by simpa[Go.Sort.putCells]using z,by rw[Yd,←m];exact take_putCellsI f j AA⟩⟩
def ah9 {w:World} {e:TypeId} {g n cap q k:Nat} {s ys:List Int} (h:nD w e 1 (.slice (some ⟨g,0,none⟩) n cap) n (s.map BM)) (L:ys.length=n) (M:k≤n):
 nD (Go.Sort.putRow BM (Go.Sort.ahead w q) g 0 ys.toArray) e 1 (.slice (some ⟨g,0,none⟩) k cap) k ((ys.take k).map BM):=by
 rcases h.2 with⟨j,_⟩|⟨O,m,f,j,u,z,S,I,J,U⟩
 ·cases j
 injection j with e1 _ e3
 injection e1 with e1
 injection e1 with e1
 subst e1;subst e3;refine⟨Dy,.inr ⟨g,cap,Go.Sort.putCells BM 0 ys.toArray f,rfl,u,?_,AA,I,by simpa[Go.Sort.putCells]using J,?_⟩⟩
 ·simp[Go.Sort.putRow,Go.Sort.mapBlock,Go.Sort.ahead,OC,z,Go.Sort.onCells]
 have :=take_putCellsI f ys AA;rw[Yd,YI,←this,aHF,wL AA]
def ao5 {l m:List Int} (h:l.Perm m):Rk l=Rk m:=by
 have f:∀(l:List Int),(Rk l).Pairwise (· ≤ ·):=aGG;exact((WR l).trans (h.trans (WR m).symm)).eq_of_pairwise (fun a b _ _ j n=>AA) (f l) (f m)
def arT {l m:List Int} (h:l.Perm m):Oc l=Oc m:=by
 unfold Oc;rw[h.length_eq,ao5 h]
abbrev BD:=Ap Tryz.prog
def aFO (l r:List Int) (h:Oc l=some r):BD 103 [.aO 0] [.arr 3 1 (List.map AZ l)] (.fP []) [.arr 3 1 (List.map AZ r)]:=by
 unfold Oc at h;split at h
 ·rename_i O;obtain rfl:=Cm h;refine Ap.aBj fun v w j=>?_;rcases j.2 with⟨rfl,J⟩|⟨g,cap,L,rfl,m,q,s,u,z,f⟩
  ·have M:l=[]:=Gt J;subst M;refine(Tryz.slices_Sort_int_none _ _ _).mono ?_;rintro e w' ⟨rfl,h⟩;subst h;exact⟨rfl,nD.nil _ _ _,Turns.refl _ _⟩
  have I:(l.mergeSort fun x y=>decide (x≤y)).length=l.length:=List.length_mergeSort _;refine(Tryz.slices_Sort_int g 0 cap l w (holds_of_blockI q KZ) (Fq.1 q).1 AA).mono ?_;rintro e w' ⟨rfl,n,os,rfl⟩;rw[aMg];refine⟨rfl,?_,Turns.azl (grownBy_sortedI _)⟩;rw[I];exact atl (os:=os) (n:=n) I q s u z
 cases h
def aJU (l r:List Int) (h:VU l=some r):BD 104 [.aO 0] [.arr 3 1 (List.map AZ l)] (.aO 1) [.dead,.arr 3 1 (List.map AZ r)]:=by
 unfold VU at h;split at h
 ·rename_i U;obtain rfl:=Cm h;refine Ap.turned fun v w j=>?_;rcases j.2 with⟨rfl,I⟩|⟨g,cap,J,rfl,n,m,s,L,M,f⟩
  ·have O:l=[]:=Gt I;subst O;refine(Tryz.slices_Compact_int_empty _ _ _).mono ?_;rintro e w' ⟨rfl,h⟩;subst h;exact⟨_,rfl,nD.nil _ _ _,Turns.refl _ _,fun g m=>by simp[DX]at m⟩
  refine(Tryz.slices_Compact_int g 0 cap l w (holds_of_blockI m KZ) AA s).mono ?_;rintro e w' ⟨rfl,q,rfl⟩;have u:=Lib.compact_length_le l;have S:(Lib.compact l++List.replicate (l.length-(Lib.compact l).length) 0).length=l.length:=Dy
  refine⟨_,rfl,?_,?_,fun g m=>.inl m⟩
  ·have :=ah9 (q:=q) j S u;rw[xO rfl]at this;exact this
  exact⟨rfl,rfl,rfl,by simp[Sort.putRow,Sort.mapBlock,Sort.ahead],fun k Y z=>by
   have :g≠k:=fun e=>z mJ
   simp[Sort.putRow,Sort.mapBlock,Sort.ahead,OC,this]⟩
 cases h
def strings_IndexByte (s:ByteArray) (c:Int):Option Int:=some (Lib.indexByte s.data.toList c.toNat.toUInt8)
def aia (s:ByteArray) (c:Int) (r:Int) (h:strings_IndexByte s c=some r):BD 171 [.d (Ci s),.d (D8 c)] [] (.d (AZ r)) []:=by
 rw[←Cm h];exact Ap.plain (vs:=[.string s,.int .u8 c]) (v:=.int .i64 (Lib.indexByte s.data.toList c.toNat.toUInt8)) (fun _ _ _=>.d _ _ (.lit _)) fun w=>(Tryz.strings_IndexByte s c w).mono fun e w' ⟨f,j⟩=>⟨f,by rw[j];exact⟨rfl,rfl,rfl,E9 _,fun _ _=>rfl⟩⟩
def aGS (s t:ByteArray):Option Int:=match t.data.toList with
 | [c]=>some (Lib.indexByte s.data.toList c)
 |_=>none
def aeg (s t:ByteArray) (r:Int) (h:aGS s t=some r):BD 309 [.d (Ci s),.d (Ci t)] [] (.d (AZ r)) []:=by
 unfold aGS at h;split at h
 ·rename_i c f;rw[←Cm h];obtain⟨⟨l⟩⟩:=t;simp only at f;subst f;exact Ap.plain (vs:=[.string s,.string ⟨#[c]⟩]) (v:=.int .i64 (Lib.indexByte s.data.toList c)) (fun _ _ _=>.d _ _ (.lit _)) fun w=>(Tryz.stringslite_Index_one s c w).mono fun e w' ⟨j,m⟩=>⟨j,by rw[m];exact⟨rfl,rfl,rfl,E9 _,fun _ _=>rfl⟩⟩
 cases h
structure Zz (P:Program) (t:TypeId) (s:Nat) (z:Value):Prop where
 und:∃n e,P.underlying t=some (.array n e)∧∃i,P.info? e=some i∧i.size=s
 zero:(P.info? t).bind (·.zero)=some z
 one:z.cells.all (·.oneCell')=true
def acR (P:Program) (t:TypeId) (s:Nat):Bool:=
 match P.underlying t with
 |some (.array _ e)=>match P.info? e with
  |some i=>decide (i.size=s)
  |none=>false
 |_=>false
def aEf {P:Program} {t:TypeId} {s:Nat} {z:Value} (h:acR P t s=true) (f:(P.info? t).bind (·.zero)=some z) (j:z.cells.all (·.oneCell')=true):Zz P t s z:=by
 unfold acR at h;split at h
 ·rename_i n e m;split at h
  ·rename_i i hi;exact⟨⟨n,e,m,i,hi,VZ h⟩,f,j⟩
  cases h
 cases h
section
variable {P : Program} {o : Oper} {es : List BQ} {α : Type}
def alz {t:TypeId} {f:Array (Nat×Operand)} {s:Nat} {z:Value} (Y:Zz P t s z) (vs:List Ag) (Z:MQ (fun i=>some (i*s,s)) (FH z).length f.toList vs=true)
 (hd:(Jj (fun i=>some (i*s,s)) (FH z) f.toList vs).all Ag.Ah=true) (ho:o.op=.build t f):
 Bq P o (Mc f.toList vs) es (.d (.agg (Iq (Jj (fun i=>some (i*s,s)) (FH z) f.toList vs)))) es:=
 .pure fun ok H a w _ _ hn=>by
  obtain⟨⟨n,e,hu,i,hi,hs⟩,hz,h1⟩:=Y;have m:=aD2 (P:=P) hz w;have q:(underlying t).run P w=.ok (.array n e) w:=by simp[underlying,hu]
  have u:(sizeOf e).run P w=.ok s w:=aO9
  obtain⟨j,hc,I⟩:=oz (place:=fun i=>some (i*s,s)) f.toList vs (FH z) z.cells (aIo (ok:=ok) (w:=w) (H:=H) h1) Z hn;refine⟨.agg j,?_,.d _ _ ?_⟩
  ·have e:(f.map fun(i,x)=>(i,a.eval x)).toList=f.toList.map fun p=>(p.1,a.eval p.2):=BU
   simp only[execOp,ho,Instr.build,F7,m,q,u,FI];rw[e,hc];rfl
  rw[abt hd]at I;generalize Iq (Jj (fun i=>some (i*s,s)) (FH z) f.toList vs)=xs at I ⊢;obtain⟨S,J⟩:=I;simp only[D6]at S J
  have U:∀i,i<xs.length→(xs.map Ag.d).getD i .junk=.d (xs.getD i Dp):=by
   intro i hi;simp[List.getD,hi]
  have L:j.size=xs.length:=ZP
  refine .agg xs j L ?_ ?_<;>intro i hi
  ·have :=(J i hi).1;rw[U i hi]at this;exact this
  have M:=(J i hi).2;rw[U i hi]at M;have O:i<j.size:=AA
  have e:j.toList.getD i undef=j.getD i undef:=by simp[List.getD,Array.getD,O]
  rw[e]at M;cases M with |d _ _ h=>exact h
def MH (enc:α→D) (l:List α):D:=.agg (l.map enc)
def aCZ {x y:Operand} {t e:TypeId} {n:Nat} {k:IntKind} {i:Int} (enc:α→D) {l:List α} {a:α} (h:Aq l i=some a) (L:P.underlying t=some (.array n e)) (s:EC P e false 1) (hl:l.length=n) (M:o.op=.index t x y):
 Bq P o [(x,.d (MH enc l)),(y,.d (.lit (.int k i)))] es (.d (enc a)) es:=
 .pure fun ok H O w _ _ u=>by
  obtain⟨S,z⟩:=Fb h;have j:=(Ee u).1;have I:=(Ee u).2.lit;simp only at j I;have m:=(FV.1 z).1;have U:(underlying t).run P w=.ok (.array n e) w:=by simp[underlying,L]
  generalize Y:O.eval x=v at j;cases j with
  |d _ _ j=>
   cases j with
   |agg _ vs q Z J=>
    rw[D6]at q Z J;have f:i.toNat<vs.size:=AA
    refine⟨vs[i.toNat],?_,?_⟩
    ·have hb:0≤i∧i<n:=⟨S,AA⟩
     simp only[execOp,M,Y,I,Instr.index,asIntOf,F7,Fr,U,FI,hb,and_self,JQ,s.size w,part,s.agg w];simp[f]
    have :=J i.toNat m;simp only[Array.getD,f,dif_pos]at this;have e2:(l.map enc).getD i.toNat Dp=enc a:=by simp[List.getD,z]
    rw[e2]at this;exact .d _ _ this
def apu {x:Operand} {k off:Nat} (j:o.op=.nilCheck x):Bq P o [(x,.ptr k off)] es (.ptr k off) es:=
 .pure fun ok H a w _ _ m=>by
  have f:=Ju m;simp only at f;generalize n:a.eval x=u at f;cases f with
  |ptr _ _ b s h=>exact⟨_,by simp[execOp,j,n],.ptr _ _ b s h⟩
def aod {x:Operand} {k i off:Nat} (j:o.op=.nilCheck x):Bq P o [(x,.lK k i off)] es (.lK k i off) es:=
 .pure fun ok H a w _ _ m=>by
  have f:=Ju m;simp only at f;generalize q:a.eval x=u at f;cases f with
  |lK _ _ _ b n cap s h=>exact⟨_,by simp[execOp,j,q],.lK _ _ _ b n cap s h⟩
def aef {x:Operand} {cs:List D} {off:Nat} (m:o.op=.nilCheck x):Bq P o [(x,.d (.ref cs off))] es (.d (.ref cs off)) es:=
 .pure fun ok H a w _ _ n=>by
  have f:=Ju n;simp only at f;generalize q:a.eval x=u at f;cases f with
  |d _ _ h=>cases h with
   |ref _ _ b p j s z I=>exact⟨_,by simp[execOp,m,q],.d _ _ (.ref _ _ b p j s z I)⟩
def ade (n:Nat):D:=.fn (.func n) [] []
end
def QB {α:Type} (p:α→Prop):List α→Prop
 | []=>True
 |x::l=>p x∧QB p l
def QB.mem {α:Type} {p:α→Prop}:∀{l:List α},QB p l→∀x∈l,p x
 | [],_,x,h=>Hl
 |y::l,f,x,h=>by
  rcases F6.1 h with rfl|h
  ·exact f.1
  exact f.2.mem x h
class Kn (P:Program) where
 und:List (Nat×TypeDesc)
 ak6:QB (fun p:Nat×TypeDesc=>P.underlying p.1=some p.2) und
 ty:List (Nat×Bool×Nat)
 hty:QB (fun p:Nat×Bool×Nat=>EC P p.1 p.2.1 p.2.2) ty
 fld:List ((Nat×Nat)×Nat)
 hfld:QB (fun p:(Nat×Nat)×Nat=>DY P p.1.1 p.1.2 p.2) fld
 part:List ((Nat×Nat)×Nat×Bool×Nat)
 hpart:QB (fun p:(Nat×Nat)×Nat×Bool×Nat=>kn P p.1.1 p.1.2 p.2.1 p.2.2.1 p.2.2.2=true) part
 zero:List (Nat×Value)
 hzero:QB (fun p:Nat×Value=>(P.info? p.1).bind (·.zero)=some p.2∧p.2.cells.all (·.oneCell')=true) zero
 st:List (Nat×List (Nat×Nat)×Value)
 hst:QB (fun p:Nat×List (Nat×Nat)×Value=>Il P p.1 p.2.1 p.2.2) st
 arr:List (Nat×Nat×Value)
 harr:QB (fun p:Nat×Nat×Value=>Zz P p.1 p.2.1 p.2.2) arr
def Pg {β:Type} (t:Nat):List (Nat×β)→Option β
 | []=>none
 |(u,b)::l=>match Nat.beq t u with |true=>some b|false=>Pg t l
def Nc {β:Type} {t:Nat} {b:β}:∀{l:List (Nat×β)},Pg t l=some b→(t,b)∈l
 | [],h=>I4
 |(u,c)::l,h=>by
  unfold Pg at h;split at h
  ·rename_i e;cases h;rw[aIg e];exact GR
  exact Hr _ (Nc h)
def qX {β:Type} (t f:Nat):List ((Nat×Nat)×β)→Option β
 | []=>none
 |((u,g),b)::l=>match Nat.beq t u&&Nat.beq f g with |true=>some b|false=>qX t f l
def o7 {β:Type} {t f:Nat} {b:β}:∀{l:List ((Nat×Nat)×β)},qX t f l=some b→((t,f),b)∈l
 | [],h=>I4
 |((u,g),c)::l,h=>by
  unfold qX at h;split at h
  ·rename_i e;cases h;rw[DJ]at e;rw[aIg e.1,aIg e.2];exact GR
  exact Hr _ (o7 h)
structure P8 where
 ns:List (Operand×Ag)
 x:Ag
 E:List BQ
 bar:Bool
def aHm (op:BinOp) (k:IntKind) (a b:Int):Option Value:=
 match op with
 | .add=>some (.int k (k.wrap (a+b)))
 | .sub=>some (.int k (k.wrap (a-b)))
 | .mul=>some (.int k (k.wrap (a*b)))
 | .eql=>some (.bool (a==b))
 | .neq=>some (.bool (a != b))
 | .lss=>some (.bool (decide (a<b)))
 | .leq=>some (.bool (decide (a≤b)))
 | .gtr=>some (.bool (decide (a>b)))
 | .geq=>some (.bool (decide (a≥b)))
 |_=>none
def anD {op:BinOp} {k:IntKind} {a b:Int} {r:Value} {t:TypeId} {P:Program} (h:aHm op k a b=some r) (w:World):(binOp op t (.int k a) (.int k b)).run P w=.ok r w:=by
 unfold aHm at h;cases op<;>first|(cases h;done)|(cases h;simp[binOp,Op.intArith,Op.intCmp];done)|(cases h;cases k<;>rfl)
def aNr (op:BinOp) (a b:ByteArray):Option Value:=
 match op with
 | .eql=>some (.bool (a.toList==b.toList))
 | .neq=>some (.bool (!(a.toList==b.toList)))
 | .lss=>some (.bool (Op.bytesLess a.toList b.toList))
 | .leq=>some (.bool (Op.bytesLess a.toList b.toList||a.toList==b.toList))
 | .gtr=>some (.bool (!(Op.bytesLess a.toList b.toList||a.toList==b.toList)))
 | .geq=>some (.bool (!Op.bytesLess a.toList b.toList))
 |_=>none
def ar8 {op:BinOp} {a b:ByteArray} {r:Value} {t:TypeId} {P:Program} (h:aNr op a b=some r) (w:World):(binOp op t (.string a) (.string b)).run P w=.ok r w:=by
 unfold aNr at h;cases op<;>first|(cases h;done)|(cases h;rfl)
def Bq.aCL {P:Program} {o:Oper} {ns f:List (Operand×Ag)} {es es':List BQ} {x:Ag} (h:Bq P o ns es x es') (j:∀n∈ns,n∈f∨n=(.const (.slice none 0 0),.d (.sl []))):Bq P o f es x es':=by
 intro C ok H a w Q q s;refine h C ok H a w Q q (fun n m=>?_);rcases j n m with u|rfl
 ·exact s n u
 exact .d _ _ (.sl0 none 0)
def aNv {P:Program} (K:Kn P) (σ:BL) (o:Oper):Option P8:=
 match o.op with
 | .move x=>match x with
   | .const (.slice none 0 0)=>some ⟨[],.d (.sl []),σ.ents,false⟩
   |x=>some ⟨[(x,σ.get x)],σ.get x,σ.ents,false⟩
 | .assign x=>match x with
   | .const (.slice none 0 0)=>some ⟨[],.d (.sl []),σ.ents,false⟩
   |x=>some ⟨[(x,σ.get x)],σ.get x,σ.ents,false⟩
 | .pick c x y=>match σ.get c with
   | .d (.lit (.bool true))=>some ⟨[(c,.d (.lit (.bool true))),(x,σ.get x)],σ.get x,σ.ents,false⟩
   | .d (.lit (.bool false))=>some ⟨[(c,.d (.lit (.bool false))),(y,σ.get y)],σ.get y,σ.ents,false⟩
   |_=>none
 | .binOp op t x y _=>match σ.get x,σ.get y with
   | .d (.lit (.int k a)),.d (.lit (.int k' b))=>if k=k' then(aHm op k a b).map fun r=>⟨[(x,.d (.lit (.int k a))),(y,.d (.lit (.int k b)))],.d (.lit r),σ.ents,false⟩else none
   | .d (.lit (.string a)),.d (.lit (.string b))=>(aNr op a b).map fun r=>⟨[(x,.d (.lit (.string a))),(y,.d (.lit (.string b)))],.d (.lit r),σ.ents,false⟩
   | .d (.lit (.bool a)),.d (.lit (.bool b))=>match Pg t K.und with
     |some .bool=>match op with
      | .eql=>some ⟨[(x,.d (DT a)),(y,.d (DT b))],.d (DT (a==b)),σ.ents,false⟩
      | .neq=>some ⟨[(x,.d (DT a)),(y,.d (DT b))],.d (DT (!(a==b))),σ.ents,false⟩
      |_=>none
     |_=>none
   |_,_=>none
 | .unOp op _ x=>match σ.get x with
   | .d (.lit (.bool b))=>match op with
     | .not=>some ⟨[(x,.d (.lit (.bool b)))],.d (.lit (.bool !b)),σ.ents,false⟩
     |_=>none
   | .d (.lit (.int k n))=>match op with
     | .neg=>some ⟨[(x,.d (.lit (.int k n)))],.d (.lit (.int k (k.wrap (0-n)))),σ.ents,false⟩
     |_=>none
   |_=>none
 | .convert s t x=>match Pg s K.und,Pg t K.und,σ.get x with
   |some (.int q),some (.int k),.d (.lit (.int I n))=>if q=I then some ⟨[(x,.d (.lit (.int q n)))],.d (.lit (.int k (k.wrap n))),σ.ents,false⟩else none
   |some .string,some .string,.d (.lit (.string u))=>some ⟨[(x,.d (Ci u))],.d (Ci u),σ.ents,false⟩
   |_,_,_=>none
 | .extract x i=>match σ.get x with
   | .fP xs=>match xs[i]? with
     |some v=>some ⟨[(x,.fP xs)],v,σ.ents,false⟩
     |none=>none
   |_=>none
 | .fieldAddr t x f=>match qX t f K.fld,σ.get x with
   |some off,.ptr k m=>some ⟨[(x,.ptr k m)],.ptr k (m+off),σ.ents,false⟩
   |some off,.lK k i m=>some ⟨[(x,.lK k i m)],.lK k i (m+off),σ.ents,false⟩
   |some off,.d (.ref cs m)=>some ⟨[(x,.d (.ref cs m))],.d (.ref cs (m+off)),σ.ents,false⟩
   |_,_=>none
 | .nilCheck x=>match σ.get x with
   | .ptr k m=>some ⟨[(x,.ptr k m)],.ptr k m,σ.ents,false⟩
   | .lK k i m=>some ⟨[(x,.lK k i m)],.lK k i m,σ.ents,false⟩
   | .d (.ref cs m)=>some ⟨[(x,.d (.ref cs m))],.d (.ref cs m),σ.ents,false⟩
   |_=>none
 | .field t x f=>match qX t f K.part,σ.get x with
   |some (off,agg,n),.d (.agg cs)=>if off+n≤cs.length∧(agg=false→n=1)then some ⟨[(x,.d (.agg cs))],.d (Ot agg cs off n),σ.ents,false⟩else none
   |_,_=>none
 | .load t x=>match Pg t K.ty,σ.get x with
   |some (agg,n),.d (.ref cs off)=>if off+n≤cs.length∧(agg=false→n=1)then some ⟨[(x,.d (.ref cs off))],.d (Ot agg cs off n),σ.ents,false⟩else none
   |some (agg,n),.ptr k off=>match σ.ents[k]? with
    |some (.box cs)=>if(off+n≤cs.length∧(agg=false→n=1))∧cs.all Ag.Ah=true then some ⟨[(x,.ptr k off)],.d (Ot agg (Iq cs) off n),σ.ents,false⟩else match agg,n,cs[off]? with
     |false,1,some v=>some ⟨[(x,.ptr k off)],v,σ.ents,false⟩
     |_,_,_=>none
    |_=>none
   |_,_=>none
 | .box _ x=>if(σ.get x).cells.all Ag.leaf=true then some ⟨[(x,σ.get x)],.ptr σ.ents.length 0,σ.ents++[.box (σ.get x).cells],true⟩else none
 | .alloc t=>match Pg t K.zero with
   |some z=>some ⟨[],.ptr σ.ents.length 0,σ.ents++[.box (FH z)],true⟩
   |none=>none
 | .store t x y=>match Pg t K.ty,σ.get x with
   |some (_,n),.ptr k off=>match σ.ents[k]? with
    |some (.box cs)=>match y with
     | .const (.slice none 0 0)=>if n=1∧off+1≤cs.length then some ⟨[(x,.ptr k off)],.junk,σ.ents.set k (.box (setAt cs off [.d (.sl [])])),true⟩else none
     |y=>if((σ.get y).cells.all Ag.leaf=true∧(σ.get y).cells.length=n)∧off+n≤cs.length then some ⟨[(x,.ptr k off),(y,σ.get y)],.junk,σ.ents.set k (.box (setAt cs off (σ.get y).cells)),true⟩else none
    |_=>none
   |_,_=>none
 | .build t h=>match Pg t K.st with
   |some (j,z)=>
    if MQ (fun(i:Nat)=>j[i]?) (FH z).length h.toList (h.toList.map fun p=>σ.get p.2)=true∧(Jj (fun(i:Nat)=>j[i]?) (FH z) h.toList (h.toList.map fun p=>σ.get p.2)).all Ag.Ah=true
    then some ⟨Mc h.toList (h.toList.map fun p=>σ.get p.2),.d (.agg (Iq (Jj (fun(i:Nat)=>j[i]?) (FH z) h.toList (h.toList.map fun p=>σ.get p.2)))),σ.ents,false⟩
    else none
   |none=>match Pg t K.arr with
    |some (s,z)=>
     if MQ (fun i=>some (i*s,s)) (FH z).length h.toList (h.toList.map fun p=>σ.get p.2)=true∧(Jj (fun i=>some (i*s,s)) (FH z) h.toList (h.toList.map fun p=>σ.get p.2)).all Ag.Ah=true
     then some ⟨Mc h.toList (h.toList.map fun p=>σ.get p.2),.d (.agg (Iq (Jj (fun i=>some (i*s,s)) (FH z) h.toList (h.toList.map fun p=>σ.get p.2)))),σ.ents,false⟩
     else none
    |none=>none
 | .call c=>match c.callee,c.args.toList,c.argTypes.toList with
   | .builtin .len,[x],[t]=>match Pg t K.und,σ.get x with
     |some .string,.d (.lit (.string s))=>some ⟨[(x,.d (Ci s))],.d (AZ s.size),σ.ents,false⟩
     |_,_=>none
   |_,_,_=>none
 |_=>none
def aJc (σ:BL):∀(l:List (Nat×Operand)),needs σ (Mc l (l.map fun p=>σ.get p.2))
 | []=>trivial
 |(_,x)::l=>⟨rfl,aJc σ l⟩
def anJ {P:Program} (K:Kn P) {σ:BL} {o:Oper} {r:P8} (h:aNv K σ o=some r):Bq P o r.ns σ.ents r.x r.E∧needs σ r.ns∧(r.bar=false→r.E=σ.ents):=by
 unfold aNv at h;split at h
 ·rename_i x j;split at h
  ·cases h;exact⟨aoT j,trivial,fun _=>rfl⟩
  cases h;exact⟨atG j,⟨rfl,trivial⟩,fun _=>rfl⟩
 ·rename_i x j;split at h
  ·cases h;exact⟨ahv j,trivial,fun _=>rfl⟩
  cases h;exact⟨asr j,⟨rfl,trivial⟩,fun _=>rfl⟩
 ·rename_i c x y j;split at h
  ·rename_i e;cases h;exact⟨akF true rfl j,⟨e,rfl,trivial⟩,fun _=>rfl⟩
  ·rename_i e;cases h;exact⟨apK false rfl j,⟨e,rfl,trivial⟩,fun _=>rfl⟩
  cases h
 ·rename_i op t x y t' j;split at h
  ·rename_i k a k' b O S;split at h
   ·rename_i I;subst I;rw[Td]at h;obtain⟨v,L,rfl⟩:=h;exact⟨Gg j (anD L) ⟨rfl,rfl⟩,⟨O,S,trivial⟩,fun _=>rfl⟩
   cases h
  ·rename_i a b O S;rw[Td]at h;obtain⟨v,L,rfl⟩:=h;exact⟨Gg j (ar8 L) ⟨rfl,rfl⟩,⟨O,S,trivial⟩,fun _=>rfl⟩
  ·rename_i a b O S;split at h
   ·rename_i U;have U:=K.ak6.mem _ (Nc U);split at h
    ·cases h;exact⟨ahf U j,⟨O,S,trivial⟩,fun _=>rfl⟩
    ·cases h;exact⟨ahe U j,⟨O,S,trivial⟩,fun _=>rfl⟩
    cases h
   cases h
  cases h
 ·rename_i op t x j;split at h
  ·rename_i b e;split at h
   ·cases h;exact⟨aKE j (fun _=>rfl),⟨e,trivial⟩,fun _=>rfl⟩
   cases h
  ·rename_i k n e;split at h
   ·cases h;exact⟨aKE j (fun _=>rfl),⟨e,trivial⟩,fun _=>rfl⟩
   cases h
  cases h
 ·rename_i s t x j;split at h
  ·rename_i k0 k k1 n q Z e;split at h
   ·rename_i I;subst I;cases h;exact⟨atj (K.ak6.mem _ (Nc q)) (K.ak6.mem _ (Nc Z)) j,⟨e,trivial⟩,fun _=>rfl⟩
   cases h
  ·rename_i u q Z e;cases h;exact⟨aeb (K.ak6.mem _ (Nc q)) (K.ak6.mem _ (Nc Z)) j,⟨e,trivial⟩,fun _=>rfl⟩
  cases h
 ·rename_i x i j;split at h
  ·rename_i xs e;split at h
   ·rename_i v L;cases h;exact⟨aiE j L,⟨e,trivial⟩,fun _=>rfl⟩
   cases h
  cases h
 ·rename_i t x f j;split at h
  ·rename_i off k o' q e;cases h;exact⟨asi (K.hfld.mem _ (o7 q)) j,⟨e,trivial⟩,fun _=>rfl⟩
  ·rename_i off k i o' q e;cases h;exact⟨aku (K.hfld.mem _ (o7 q)) j,⟨e,trivial⟩,fun _=>rfl⟩
  ·rename_i off cs o' q e;cases h;exact⟨aiZ (K.hfld.mem _ (o7 q)) j,⟨e,trivial⟩,fun _=>rfl⟩
  cases h
 ·rename_i x j;split at h
  ·rename_i e;cases h;exact⟨apu j,⟨e,trivial⟩,fun _=>rfl⟩
  ·rename_i e;cases h;exact⟨aod j,⟨e,trivial⟩,fun _=>rfl⟩
  ·rename_i e;cases h;exact⟨aef j,⟨e,trivial⟩,fun _=>rfl⟩
  cases h
 ·rename_i t x f j;split at h
  ·rename_i off agg n cs q e;split at h
   ·rename_i m;cases h;exact⟨akl rfl (K.hpart.mem _ (o7 q)) m.1 m.2 j,⟨e,trivial⟩,fun _=>rfl⟩
   cases h
  cases h
 ·rename_i t x j;split at h
  ·rename_i agg n cs off q e;split at h
   ·rename_i m;cases h;exact⟨atN rfl (K.hty.mem _ (Nc q)) m.1 m.2 j,⟨e,trivial⟩,fun _=>rfl⟩
   cases h
  ·rename_i agg n k off q e;split at h
   ·rename_i cs I;split at h
    ·rename_i m;cases h;exact⟨ahy rfl I m.2 (K.hty.mem _ (Nc q)) m.1.1 m.1.2 j,⟨e,trivial⟩,fun _=>rfl⟩
    split at h
    ·rename_i v L _;cases h;exact⟨aSC I L (K.hty.mem _ (Nc q)) j,⟨e,trivial⟩,fun _=>rfl⟩
    cases h
   cases h
  cases h
 ·rename_i t x j;split at h
  ·rename_i m;cases h;exact⟨an4 m j,⟨rfl,trivial⟩,fun M=>by cases M⟩
  cases h
 ·rename_i t j;split at h
  ·rename_i z hz;cases h;exact⟨apN (K.hzero.mem _ (Nc hz)).1 (K.hzero.mem _ (Nc hz)).2 j,trivial,fun M=>by cases M⟩
  cases h
 ·rename_i t x y j;split at h
  ·rename_i agg n k off q e;split at h
   ·rename_i cs I;split at h
    ·split at h
     ·rename_i m;cases h;refine⟨Bq.aCL (ae9 (v:=.d (.sl [])) I rfl (by have h9:=(K.hty.mem _ (Nc q)).size;rw[m.1]at h9;exact h9) rfl m.2 j) (fun n hn=>?_),⟨e,trivial⟩,fun M=>by cases M⟩;simp only[F6,Fv,eF]at hn;rcases hn with rfl|rfl
      ·exact .inl BU
      exact .inr rfl
     cases h
    split at h
    ·rename_i m;cases h;exact⟨ae9 I m.1.1 (K.hty.mem _ (Nc q)).size m.1.2 m.2 j,⟨e,rfl,trivial⟩,fun M=>by cases M⟩
    cases h
   cases h
  cases h
 ·rename_i t parts j;split at h
  ·rename_i Y z hs;split at h
   ·rename_i m;cases h;exact⟨akw (K.hst.mem _ (Nc hs)) _ j rfl m.1 m.2,aJc σ _,fun _=>rfl⟩
   cases h
  split at h
  ·rename_i s z hs;split at h
   ·rename_i m;cases h;exact⟨alz (K.harr.mem _ (Nc hs)) _ m.1 m.2 j,aJc σ _,fun _=>rfl⟩
   cases h
  cases h
 ·rename_i c j;split at h
  ·rename_i x t J ha ht
   have j:o.op=.call { callee:=.builtin .len,args:= #[x],argTypes:= #[t] }:=by
    obtain⟨cal,aFA,ts⟩:=c;simp only at J ha ht;rw[j,J,show aFA= #[x]from by rw[←lD (xs:=aFA),ha],show ts= #[t]from by rw[←lD (xs:=ts),ht]]
   split at h
   ·rename_i s q e;cases h;exact⟨aqx s (K.ak6.mem _ (Nc q)) j,⟨e,trivial⟩,fun _=>rfl⟩
   cases h
  cases h
 cases h
def KJ (ops:Array Oper) (σ:BL):Option (Nat×Bool)→Option Bool
 |none=>some true
 |some (j,f)=>match(ops[j]?).bind (·.dst)with
  |some d=>match σ.slots.getD d .junk with
   | .d (.lit (.bool b))=>some (b==f)
   | .d (.lit (.tuple a))=>match a.toList with
     | []=>some false
     |_=>none
   |_=>none
  |none=>none
def Ln {ops:Array Oper} {σ:BL} {g:Option (Nat×Bool)} (h:KJ ops σ g=some true):Va ops σ g:=by
 unfold KJ at h;split at h
 ·exact .inl rfl
 rename_i j f;split at h
 ·rename_i d hd;split at h
  ·rename_i b m;refine .inr ⟨j,f,d,b,rfl,hd,m,?_⟩;simpa using h
  ·split at h<;>cases h
  cases h
 cases h
def aq8 {ops:Array Oper} {σ:BL} {g:Option (Nat×Bool)} (h:KJ ops σ g=some false):X6 ops σ g:=by
 unfold KJ at h;split at h
 ·cases h
 rename_i j f;split at h
 ·rename_i d hd;split at h
  ·rename_i b m;refine akb j f d b rfl hd m ?_;have :(b==f)=false:=Cm h;cases b<;>cases f<;>first|rfl|cases this
  ·rename_i a m;split at h
   ·rename_i ha;have ha:a= #[]:=by rw[←lD (xs:=a),ha]
    subst ha;exact aro j f d rfl hd m
   cases h
  cases h
 cases h
def Uu {P:Program} (K:Kn P) (ops:Array Oper) (σ:BL) (o:Oper):Option P8:=
 match KJ ops σ o.guard with
 |some true=>match aNv K σ o with
  |some r=>if(Me r.ns).all (tmpsOf o).contains=true then some r else none
  |none=>none
 |some false=>some ⟨[],.d (.lit undef),σ.ents,false⟩
 |none=>none
def YF {P:Program} (K:Kn P) {ops:Array Oper} {σ:BL} {o:Oper} {r:P8} (h:Uu K ops σ o=some r):Qv P ops σ r.x r.E r.bar o:=by
 unfold Uu at h;split at h
 ·rename_i f;split at h
  ·rename_i u j;split at h
   ·rename_i m;cases h;obtain⟨n,q,s⟩:=anJ K j;exact⟨.inl ⟨_,n,q,m,Ln f⟩,s⟩
   cases h
  cases h
 ·rename_i f;cases h;exact⟨.inr ⟨rfl,rfl,aq8 f⟩,fun _=>rfl⟩
 cases h
def H8 {P:Program} (K:Kn P) (ops:Array Oper):Nat→List Oper→BL→Option (BL×List P8)
 |0,_,σ=>some (σ,[])
 |n+1,l,σ=>match l with
  |o::l=>match Uu K ops σ o with
   |some r=>match H8 K ops n l (σ.put o.dst r.x r.E)with
    |some (σ',rs)=>some (σ',r::rs)
    |none=>none
   |none=>none
  | []=>none
def Qb :Option (BL×List P8)→BL
 |some (σ,_)=>σ
 |none=>⟨[],[],0⟩
def ZX :Option (BL×List P8)→List P8
 |some (_,rs)=>rs
 |none=>[]
def Chain.auto {P:Program} (K:Kn P) {ops:Array Oper}:∀(n:Nat) {l:List Oper} {σ σ':BL},(H8 K ops n l σ).isSome=true→Chain P ops (l.drop n) (Qb (H8 K ops n l σ)) σ'→Chain P ops l σ σ'
 |0,l,σ,σ',_,k=>by simpa[H8,Qb]using k
 |n+1,l,σ,σ',h,k=>by
  unfold H8 at h k;split at h
  ·rename_i o m;split at h
   ·rename_i r j;split at h
    ·rename_i q rs f;simp only[j,f]at k;refine .aeX o.dst (YF K j) rfl (Chain.auto K n O9 ?_);rw[f];exact k
    cases h
   cases h
  cases h
def FC.auto {P:Program} (K:Kn P) {ops:Array Oper}:∀(n:Nat) {l:List Oper} {σ σ':BL} {rs:List Ag} {ess:List (List BQ)} {bs:List Bool},(H8 K ops n l σ).isSome=true→FC P ops (l.drop n) (Qb (H8 K ops n l σ)) rs ess bs σ'→
 FC P ops l σ ((ZX (H8 K ops n l σ)).map P8.x++rs) ((ZX (H8 K ops n l σ)).map P8.E++ess) ((ZX (H8 K ops n l σ)).map P8.bar++bs) σ'
 |0,l,σ,σ',rs,ess,bs,_,k=>by simpa[H8,Qb,ZX]using k
 |n+1,l,σ,σ',rs,ess,bs,h,k=>by
  unfold H8 at h k ⊢;split at h
  ·rename_i o m;split at h
   ·rename_i r j;split at h
    ·rename_i s q f;simp only[j,f]at k ⊢;refine .aeX o.dst (YF K j) rfl ?_;have :=FC.auto K n (l:=m) (σ:=σ.put o.dst r.x r.E) (σ':=σ') (rs:=rs) (ess:=ess) (bs:=bs) O9 (by rw[f];exact k);rw[f]at this;exact this
    cases h
   cases h
  cases h
def Chain.a {P:Program} [T:Kn P] {ops:Array Oper} {l:List Oper} {σ σ':BL} (n:Nat) (k:Chain P ops (l.drop n) (Qb (H8 T ops n l σ)) σ') (h:(H8 T ops n l σ).isSome=true:=by kernel_rfl):Chain P ops l σ σ':=Chain.auto T n h k
def FC.a {P:Program} [T:Kn P] {ops:Array Oper} {l:List Oper} {σ σ':BL} {rs:List Ag} {ess:List (List BQ)} {bs:List Bool} (n:Nat) (k:FC P ops (l.drop n) (Qb (H8 T ops n l σ)) rs ess bs σ') (h:(H8 T ops n l σ).isSome=true:=by kernel_rfl):
 FC P ops l σ ((ZX (H8 T ops n l σ)).map P8.x++rs) ((ZX (H8 T ops n l σ)).map P8.E++ess) ((ZX (H8 T ops n l σ)).map P8.bar++bs) σ':=FC.auto T n h k
def Chain.c {P:Program} [T:Kn P] {ops:Array Oper} {o:Oper} {rest:List Oper} {σ σ':BL} {e c:Bool} (h:some e=some c) (k:Chain P ops rest (σ.rG o.dst (.d (.lit (.bool c)))) σ') (j:(Uu T ops σ o).map (fun r=>(r.x,r.E,r.bar))=some (.d (.lit (.bool e)),σ.ents,false):=by kernel_rfl):Chain P ops (o::rest) σ σ':=by
 rw[Td]at j;obtain⟨r,n,f⟩:=j;have m:=YF T n;simp only[Qc]at f;rw[f.1,f.2.1,f.2.2,Cm h]at m;exact .aeX o.dst m rfl k
def FC.c {P:Program} [T:Kn P] {ops:Array Oper} {o:Oper} {rest:List Oper} {σ σ':BL} {rs:List Ag} {ess:List (List BQ)} {bs:List Bool} {e c:Bool} (h:some e=some c) (k:FC P ops rest (σ.rG o.dst (.d (.lit (.bool c)))) rs ess bs σ') (j:(Uu T ops σ o).map (fun r=>(r.x,r.E,r.bar))=some (.d (.lit (.bool e)),σ.ents,false):=by kernel_rfl):
 FC P ops (o::rest) σ (.d (.lit (.bool c))::rs) (σ.ents::ess) (false::bs) σ':=by
 rw[Td]at j;obtain⟨r,n,f⟩:=j;have m:=YF T n;simp only[Qc]at f;rw[f.1,f.2.1,f.2.2,Cm h]at m;exact .aeX o.dst m rfl k
def aQZ (σ:BL) (ns:List (Operand×Ag)):Prop:=(ns.map fun n=>σ.get n.1)=ns.map (·.2)
def UZ {σ:BL}:∀{ns:List (Operand×Ag)},aQZ σ ns→needs σ ns
 | [],_=>trivial
 |n::ns,h=>by
  simp only[aQZ,Ko,aKJ]at h;exact⟨h.1,UZ h.2⟩
def Chain.p {P:Program} {ops:Array Oper} {o:Oper} {rest:List Oper} {σ σ':BL} {ns:List (Operand×Ag)} {x:Ag} (h:Bq P o ns σ.ents x σ.ents) (k:Chain P ops rest (σ.rG o.dst x) σ') (f:(ns.map fun n=>σ.get n.1)=ns.map (·.2):=by kernel_rfl) (j:KJ ops σ o.guard=some true:=by kernel_rfl):Chain P ops (o::rest) σ σ':=
 .op o.dst h (UZ f) (Ln j) rfl k
def FC.p {P:Program} {ops:Array Oper} {o:Oper} {rest:List Oper} {σ σ':BL} {ns:List (Operand×Ag)} {x:Ag} {rs:List Ag} {ess:List (List BQ)} {bs:List Bool} (h:Bq P o ns σ.ents x σ.ents) (k:FC P ops rest (σ.rG o.dst x) rs ess bs σ') (f:(ns.map fun n=>σ.get n.1)=ns.map (·.2):=by kernel_rfl) (j:KJ ops σ o.guard=some true:=by kernel_rfl)
 (m:(Me ns).all (tmpsOf o).contains=true:=by kernel_rfl):FC P ops (o::rest) σ (x::rs) (σ.ents::ess) (false::bs) σ':=
 .op o.dst h (UZ f) (Ln j) rfl m k
def Chain.e {P:Program} {ops:Array Oper} {o:Oper} {rest:List Oper} {σ σ':BL} {ns:List (Operand×Ag)} {x:Ag} {es':List BQ} (E:List BQ) (h:Bq P o ns σ.ents x es') (k:Chain P ops rest (σ.put o.dst x E) σ') (f:es'=E:=by kernel_rfl) (j:(ns.map fun n=>σ.get n.1)=ns.map (·.2):=by kernel_rfl) (m:KJ ops σ o.guard=some true:=by kernel_rfl):Chain P ops (o::rest) σ σ':=
 .oe o.dst E h f (UZ j) (Ln m) rfl k
def FC.e {P:Program} {ops:Array Oper} {o:Oper} {rest:List Oper} {σ σ':BL} {ns:List (Operand×Ag)} {x:Ag} {es':List BQ} {rs:List Ag} {ess:List (List BQ)} {bs:List Bool} (E:List BQ) (h:Bq P o ns σ.ents x es') (k:FC P ops rest (σ.put o.dst x E) rs ess bs σ') (f:es'=E:=by kernel_rfl) (j:(ns.map fun n=>σ.get n.1)=ns.map (·.2):=by kernel_rfl) (m:KJ ops σ o.guard=some true:=by kernel_rfl)
 (q:(Me ns).all (tmpsOf o).contains=true:=by kernel_rfl):FC P ops (o::rest) σ (x::rs) (E::ess) (true::bs) σ':=
 .oe o.dst E h f (UZ j) (Ln m) rfl q k
def UY (σ:BL) (o:Oper):Option (FuncId×List Ag):=
 match o.op with
 | .call c=>match c.callee with
   | .value (.func f)=>some (f,c.args.toList.map σ.get)
   |_=>none
 |_=>none
def aTA {srcs:List Dv}:∀{l:List Ag},l.all Ag.Ah=true→Lh srcs l l
 | [],_=>trivial
 |x::l,h=>by
  simp only[List.all_cons,DJ]at h;refine⟨?_,aTA h.2⟩;cases x with
  |d x=>exact .inl rfl
  |_=>cases h.1
def acF (σ:BL):∀(l:List Operand),needs σ (F5 l (l.map σ.get))
 | []=>trivial
 |_::l=>⟨rfl,acF σ l⟩
def aCP {P:Program} {σ:BL} {o:Oper} {f:FuncId} {eH:List Ag} {q:Ag} (J:Ap P f eH [] q []) (L:Dt P f=true) (m:UY σ o=some (f,eH)) (hd:eH.all Ag.Ah=true):∃ns,Bq P o ns σ.ents (q.up [] σ.ents.length) σ.ents∧needs σ ns∧(Me ns).all (tmpsOf o).contains=true:=by
 unfold UY at m;split at m
 ·rename_i c I;split at m
  ·rename_i S j;cases m;obtain⟨callee,args,ats⟩:=c;simp only at j;subst j;refine⟨_,aS1 J L (aTA hd) BU rfl I,acF σ _,?_⟩;rw[ER];intro t u;unfold Me at u;rw[Rw]at u;obtain⟨n,M,z⟩:=u
   have s:n.1∈args.toList:=by
    have :∀(l:List Operand) (vs:List Ag),n∈F5 l vs→n.1∈l:=by
     intro l
     induction l with
     |nil=>intro vs h;cases vs<;>simp[F5]at h
     |cons x l O=>
      intro vs h;cases vs with
      |nil=>simp[F5]at h
      |cons v vs=>
       simp only[F5,F6]at h;rcases h with rfl|h
       ·exact GR
       exact Hr _ (O vs h)
    exact this _ _ M
   unfold tmpsOf;simp only[List.contains_iff_mem,Rw];refine⟨n.1,?_,z⟩;rw[I];show n.1∈(#[Operand.func f]++args).toList;simp[s]
  cases m
 cases m
def Chain.call {P:Program} {ops:Array Oper} {o:Oper} {rest:List Oper} {σ σ':BL} {f:FuncId} {eH:List Ag} {h:Ag} (j:Ap P f eH [] h []) (m:Dt P f=true) (k:Chain P ops rest (σ.rG o.dst (h.up [] σ.ents.length)) σ') (n:UY σ o=some (f,eH):=by kernel_rfl)
 (hd:eH.all Ag.Ah=true:=by kernel_rfl) (q:KJ ops σ o.guard=some true:=by kernel_rfl):Chain P ops (o::rest) σ σ':=by
 obtain⟨ns,s,u,_⟩:=aCP j m n hd;exact .op o.dst s u (Ln q) rfl k
def FC.call {P:Program} {ops:Array Oper} {o:Oper} {rest:List Oper} {σ σ':BL} {f:FuncId} {eH:List Ag} {h:Ag} {rs:List Ag} {ess:List (List BQ)} {bs:List Bool} (j:Ap P f eH [] h []) (m:Dt P f=true) (k:FC P ops rest (σ.rG o.dst (h.up [] σ.ents.length)) rs ess bs σ') (n:UY σ o=some (f,eH):=by kernel_rfl)
 (hd:eH.all Ag.Ah=true:=by kernel_rfl) (q:KJ ops σ o.guard=some true:=by kernel_rfl):FC P ops (o::rest) σ (h.up [] σ.ents.length::rs) (σ.ents::ess) (false::bs) σ':=by
 obtain⟨ns,s,u,z⟩:=aCP j m n hd;exact .op o.dst s u (Ln q) rfl z k
def vF (v:Value):Exit:=.panic [{ v,recovered:=false }]
structure DR (P:Program) (ops:Array Oper) (l:List Oper) (σ:BL) (K:Exit→BL→Prop):Prop where
 run:∀(ro:Option Nat) (l2:List Oper) (Q:Exit→Act→World→Prop) (C:EI) (ok:Nat→Prop) (H:List Bo) (a:Act) (w:World),Holds C ok H σ a w→
  ((∀σ' ok' H' a' w',K .normal σ'→Holds C ok' H' σ' a' w'→wpListIn (Io ro) 0 P ops Q l2 a' w')∧(∀v σ' ok' H' a' w',K (vF v) σ'→Holds C ok' H' σ' a' w'→Q (vF v) a' w'))→wpListIn (Io ro) 0 P ops Q (l++l2) a w
section
variable {P : Program} {ops : Array Oper} {o : Oper} {rest l : List Oper} {σ : BL} {K : Exit → BL → Prop}
def DR.nil (h:K .normal σ):DR P ops [] σ K:=⟨fun _ _ _ _ _ _ _ _ f j=>j.1 _ _ _ _ _ h f⟩
def DR.aZ {M:BL→Prop} (h:M σ):DR P ops [] σ (Kq M K):=.nil h
def DR.step {x:Ag} {E:List BQ} {bar:Bool} (z:Qv P ops σ x E bar o) (k:DR P ops rest (σ.put o.dst x E) K):DR P ops (o::rest) σ K:=by
 refine⟨fun ro h Q C ok H a w f u=>?_⟩;show wpListIn (Io ro) 0 P ops Q (o::(rest++h)) a w;unfold wpListIn;rcases z.1 with⟨ns,I,J,_,j⟩|⟨rfl,rfl,j⟩
 ·rw[D7 (Ox f j)];refine QD ?_ (I.inR ro C ok H a w Q f.mem (fun n m=>Oa J n m▸f.get n.1));rintro a' w' ⟨v,ok',H',rfl,q,s,L,M⟩;exact k.run ro h Q C _ _ _ _ (f.put o.dst q s L M) u
 rw[DF (by rw[aMQ f j];simp)];exact⟨fun _ _=>trivial,k.run ro h Q C _ _ _ _ (f.put o.dst (.refl _ _) (.refl _) f.mem (.d _ _ (.lit _))) u⟩
def DR.conv (j:BL) (h:∀C ok H a w,Holds C ok H σ a w→∃ok',Holds C ok' H j a w) (k:DR P ops l j K):DR P ops l σ K:=⟨fun ro m Q C ok H a w n q=>by
 obtain⟨ok',f⟩:=h C ok H a w n
 exact k.run ro m Q C _ _ _ _ f q⟩
def DR.auto (T:Kn P):∀(n:Nat) {l:List Oper} {σ:BL},(H8 T ops n l σ).isSome=true→DR P ops (l.drop n) (Qb (H8 T ops n l σ)) K→DR P ops l σ K
 |0,l,σ,_,k=>by simpa[H8,Qb]using k
 |n+1,l,σ,h,k=>by
  unfold H8 at h k;split at h
  ·rename_i o m;split at h
   ·rename_i r j;split at h
    ·rename_i q rs f;simp only[j,f]at k;refine .step (YF T j) (DR.auto T n O9 ?_);rw[f];exact k
    cases h
   cases h
  cases h
def DR.a [T:Kn P] (n:Nat) (k:DR P ops (l.drop n) (Qb (H8 T ops n l σ)) K) (h:(H8 T ops n l σ).isSome=true:=by kernel_rfl):DR P ops l σ K:=DR.auto T n h k
def DR.p {ns:List (Operand×Ag)} {x:Ag} (h:Bq P o ns σ.ents x σ.ents) (k:DR P ops rest (σ.rG o.dst x) K) (f:(ns.map fun n=>σ.get n.1)=ns.map (·.2):=by kernel_rfl) (j:KJ ops σ o.guard=some true:=by kernel_rfl) (m:(Me ns).all (tmpsOf o).contains=true:=by kernel_rfl):DR P ops (o::rest) σ K:=
 .step (aaJ h (UZ f) (Ln j) m) k
def DR.e {ns:List (Operand×Ag)} {x:Ag} {es':List BQ} (E:List BQ) (h:Bq P o ns σ.ents x es') (k:DR P ops rest (σ.put o.dst x E) K) (f:es'=E:=by kernel_rfl) (j:(ns.map fun n=>σ.get n.1)=ns.map (·.2):=by kernel_rfl) (m:KJ ops σ o.guard=some true:=by kernel_rfl) (q:(Me ns).all (tmpsOf o).contains=true:=by kernel_rfl):DR P ops (o::rest) σ K:=
 .step (bar:=true) ⟨.inl ⟨ns,f▸h,UZ j,q,Ln m⟩,fun h=>I4⟩ k
def DR.call {f:FuncId} {eH:List Ag} {h:Ag} (j:Ap P f eH [] h []) (m:Dt P f=true) (k:DR P ops rest (σ.rG o.dst (h.up [] σ.ents.length)) K) (n:UY σ o=some (f,eH):=by kernel_rfl)
 (hd:eH.all Ag.Ah=true:=by kernel_rfl) (q:KJ ops σ o.guard=some true:=by kernel_rfl):DR P ops (o::rest) σ K:=by
 obtain⟨ns,s,u,z⟩:=aCP j m n hd;exact .step (aaJ s u (Ln q) z) k
def DR.c [T:Kn P] {e c:Bool} (h:some e=some c) (k:DR P ops rest (σ.rG o.dst (.d (.lit (.bool c)))) K) (j:(Uu T ops σ o).map (fun r=>(r.x,r.E,r.bar))=some (.d (.lit (.bool e)),σ.ents,false):=by kernel_rfl):DR P ops (o::rest) σ K:=by
 rw[Td]at j;obtain⟨r,n,f⟩:=j;have m:=YF T n;simp only[Qc]at f;rw[f.1,f.2.1,f.2.2,Cm h]at m;exact .step m k
def BL.wipe (f:List Nat) (σ:BL):BL:=⟨f.foldl (fun l d=>l.set d .junk) σ.slots,σ.ents,σ.base⟩
def Holds.wipe {C:EI} {ok:Nat→Prop} {H:List Bo} {a:Act} {w:World}:∀(f:List Nat) {σ:BL},Holds C ok H σ a w→Holds C ok H (σ.wipe f) a w
 | [],σ,h=>h
 |d::f,σ,h=>by
  refine Holds.wipe f (σ:=⟨σ.slots.set d .junk,σ.ents,σ.base⟩) ⟨h.mem,by simpa using h.size,h.defers,h.base,fun t j=>?_⟩;simp only[iJ]at j;by_cases e:d=t
  ·subst e;have m:(σ.slots.set d .junk).getD d .junk=.junk:=qC
   rw[m];exact .junk _
  have m:(σ.slots.set d .junk).getD t .junk=σ.slots.getD t .junk:=aOZ
  rw[m];exact h.slot t j
def akY (n:Nat) (l f:List Oper):l++f=l.take n++(l.drop n++f):=by
 rw[←H7,bF]
def DR.join (n:Nat) (M:BL→Prop) (m:∀s,M s→DR P ops (l.drop n) s K) (q:DR P ops (l.take n) σ (Kq M K)):DR P ops l σ K:=⟨fun ro h Q C ok H a w u j=>by
 rw[akY n l h]
 exact q.run ro _ Q C ok H a w u ⟨fun σ' ok' H' a' w' z f=>(m σ' z).run ro h Q C ok' H' a' w' f j,j.2⟩⟩
def DR.merge (n:Nat) (f:List Nat) (d:Nat) (x:Ag) (j:DR P ops (l.take n) σ (Kq (fun s=>s.wipe f=(σ.wipe f).rG (some d) x) K)) (m:DR P ops (l.drop n) ((σ.wipe f).rG (some d) x) K):DR P ops l σ K:=
 .join n _ (fun s q=>⟨fun ro u Q C ok H a w z I=>by
  have e:s.wipe f=(σ.wipe f).rG (some d) x:=q;have h:=z.wipe f;rw[e]at h
  exact m.run ro u Q C ok H a w h I⟩) j
def Aw {id:Nat} {Q:Exit→BL→Prop} (h:DR P ops ops.toList σ Q):AB P (.region id ops false) σ Q:=⟨fun ro _ C ok H a w m=>by
 refine aJ8 ?_;have :=h.run ro [] (fun e a' w'=>∃ok' H' σ',Holds C ok' H' σ' a' w'∧Q e σ') C ok H a w m ⟨fun σ' ok' H' a' w' j f=>⟨ok',H',σ',f,j⟩,fun v σ' ok' H' a' w' j f=>⟨ok',H',σ',f,j⟩⟩
 rwa [Pm]at this⟩
def AL {id:Nat} {y:Code} {Q:Exit→BL→Prop} (h:DR P ops ops.toList σ (Kq (fun s=>AB P y s Q) Q)):AB P (.seq (.region id ops false) y) σ Q:=
 AB.seq (fun s=>AB P y s Q) (Aw h) (fun _ h=>h)
end
def BF (n:Nat) (l:List (Nat×Ag)):List Ag:=(List.range n).map fun i=>(Pg i l).getD .junk
def mk (n w:Nat):List Bool:=(List.range n).map fun i=>Nat.testBit w i
def alu {σ S:BL} (m:List Bool) (π:List (Nat×Bool)) (f:UD σ.base σ.ents π=true:=by kernel_rfl) (h:S=⟨Kw π m σ.slots,RI σ.ents π,σ.base⟩:=by kernel_rfl):Bz σ S:=aBa.sub ⟨m,π,f,h⟩
inductive KE (P:Program) where
 |call (i:Nat) (f:FuncId) (eH:List Ag) (res:Ag) (run:Ap P f eH [] res []) (ent:Dt P f=true) (dat:eH.all Ag.Ah=true)
 |dat (i:Nat) (op:Op) (ns:List (Operand×Ag)) (x:Ag) (h:∀(o:Oper) (es:List BQ),o.op=op→Bq P o ns es x es)
 |at_ (i:Nat) (op:Op) (ns:List (Operand×Ag)) (k:Nat) (e:BQ) (x:Ag) (h:∀(o:Oper) (es:List BQ),es[k]? =some e→o.op=op→Bq P o ns es x es)
 |fix (i:Nat) (op:Op) (ns:List (Operand×Ag)) (es:List BQ) (x:Ag) (E:List BQ) (h:∀(o:Oper),o.op=op→Bq P o ns es x E)
def KE.ix {P:Program}:KE P→Nat
 | .call i .. =>i
 | .dat i .. =>i
 | .at_ i .. =>i
 | .fix i .. =>i
inductive Xt where
 |call (c:Option (FuncId×List Ag))
 |dat (op:Op) (vs:List Ag)
 |at_ (op:Op) (vs:List Ag) (e:Option BQ)
 |fix (op:Op) (vs:List Ag) (es:List BQ)
def aNX {P:Program} (i:Nat):List (KE P)→Option (KE P)
 | []=>none
 |c::l=>match Nat.beq i c.ix with |true=>some c|false=>aNX i l
section
variable {P : Program}
def oL (σ:BL) (o:Oper):KE P→BL×Option Xt
 | .call _ _ _ f _ _ _=>(σ.rG o.dst (f.up [] σ.ents.length),some (.call (UY σ o)))
 | .dat _ _ ns x _=>(σ.rG o.dst x,some (.dat o.op (ns.map fun n=>σ.get n.1)))
 | .at_ _ _ ns k _ x _=>(σ.rG o.dst x,some (.at_ o.op (ns.map fun n=>σ.get n.1) σ.ents[k]?))
 | .fix _ _ ns _ x E _=>(σ.put o.dst x E,some (.fix o.op (ns.map fun n=>σ.get n.1) σ.ents))
def ql :KE P→Xt
 | .call _ f eH _ _ _ _=>.call (some (f,eH))
 | .dat _ op ns _ _=>.dat op (ns.map (·.2))
 | .at_ _ op ns _ e _ _=>.at_ op (ns.map (·.2)) (some e)
 | .fix _ op ns es _ _ _=>.fix op (ns.map (·.2)) es
def TG (T:Kn P) (L:List (KE P)) (ops:Array Oper) (σ:BL) (i:Nat):Option (BL×Option Xt):=
 match ops[i]? with
 |none=>none
 |some o=>match aNX i L with
  |some c=>match KJ ops σ o.guard with
   |some true=>some (oL σ o c)
   |_=>none
  |none=>match Uu T ops σ o with
   |some r=>some (σ.put o.dst r.x r.E,none)
   |none=>none
def JL (T:Kn P) (L:List (KE P)) (ops:Array Oper) (σ:BL):List Nat→BL
 | []=>σ
 |i::l=>match TG T L ops (JL T L ops σ l) i with
  |some (σ',_)=>σ'
  |none=>σ
def Zk (ops:Array Oper) (m:List Nat) (i:Nat):Bool:=match ops[i]? with
 |some o=>o.after.toList.all fun e=> !Region.binds .any e||(m.contains e.on&&decide (e.on<ops.size))
 |none=>false
def aHR (ops:Array Oper) (N:List (List Nat)) (F:List Nat) (k:Nat) (m:List Nat) (T:List (Nat×Nat×Nat)):Bool:=
 ((List.range ops.size).all fun i=>m.contains i|| !Zk ops m i||
   T.any fun t=>t.2.1==i&&decide (t.2.2<N.length)&&(fun q=>(List.range ops.size).all fun j=>q.contains j==(m.contains j||j==i)) (N.getD t.2.2 []))&&
 (F.contains k||(List.range ops.size).any fun i=> !m.contains i&&Zk ops m i)
def aF2 (ops:Array Oper) (N:List (List Nat)) (F:List Nat):Nat→List (List Nat)→List (Nat×Nat×Nat)→Bool
 |_,[],_=>true
 |k,m::M,Tr=>aHR ops N F k m (Tr.takeWhile fun t=>t.1==k)&&aF2 ops N F (k+1) M (Tr.dropWhile fun t=>t.1==k)
def ah (ops:Array Oper) (N:List (List Nat)) (Tr:List (Nat×Nat×Nat)) (F:List Nat):Bool:=aF2 ops N F 0 N Tr
def aPQ {α:Type} {p:α→Bool}:∀{l:List α} {x:α},x∈l.takeWhile p→p x=true
 | [],_,h=>Hl
 |y::l,x,h=>by
  rw[List.takeWhile_cons]at h;cases f:p y with
  |true=>
   rw[f]at h;rcases F6.1 h with rfl|h
   ·exact f
   exact aPQ h
  |false=>rw[f]at h;simp at h
def aPw {ops:Array Oper} {N:List (List Nat)} {F:List Nat}:∀(M:List (List Nat)) (k:Nat) (Tr:List (Nat×Nat×Nat)),aF2 ops N F k M Tr=true→∀j,j<M.length→
 ∃T,aHR ops N F (k+j) (M.getD j []) T=true∧∀t∈T,t∈Tr∧t.1=k+j
 | [],_,_,_,j,n=>bJ
 |m::M,k,Tr,h,j,n=>by
  unfold aF2 at h;rw[DJ]at h;cases j with
  |zero=>exact⟨_,h.1,fun t f=>⟨(List.takeWhile_sublist _).subset f,by have :=aPQ f;simpa using this⟩⟩
  |succ j=>
   obtain⟨T,s,q⟩:=aPw M (k+1) _ h.2 j Nj;refine⟨T,?_,fun t f=>⟨(aMV _).subset (q t f).1,?_⟩⟩
   ·rw[show k+(j+1)=k+1+j by omega];simpa using s
   rw[(q t f).2];omega
def U5 (L:List (KE P)) (i:Nat):Option Xt:=(aNX i L).map ql
def aqQ (T:Kn P) {L:List (KE P)} {ops:Array Oper} {σ σ':BL} {i:Nat} {o:Oper} (s:ops[i]? =some o) (h:TG T L ops σ i=some (σ',U5 L i)):
 ∃x E,((∃ns,Bq P o ns σ.ents x E∧needs σ ns∧Va ops σ o.guard)∨(x=.d (.lit undef)∧E=σ.ents∧X6 ops σ o.guard))∧σ'=σ.put o.dst x E:=by
 unfold TG U5 at h;rw[s]at h;simp only at h;split at h
 ·rename_i c u;split at h
  ·rename_i m;simp only[u,IB,LJ]at h;cases c with
   |call i f eH z run ent dat=>
    simp only[oL,ql,Qc,LJ,Xt.call.injEq]at h;obtain⟨ns,n,q,J⟩:=aCP run ent h.2 dat;exact⟨_,_,.inl ⟨ns,n,q,Ln m⟩,h.1.symm⟩
   |dat i op ns x j=>
    simp only[oL,ql,Qc,LJ,Xt.dat.injEq]at h;exact⟨_,_,.inl ⟨ns,j o _ h.2.1,UZ h.2.2,Ln m⟩,h.1.symm⟩
   |at_ i op ns k e x j=>
    simp only[oL,ql,Qc,LJ,Xt.at_.injEq]at h;exact⟨_,_,.inl ⟨ns,j o _ h.2.2.2 h.2.1,UZ h.2.2.1,Ln m⟩,h.1.symm⟩
   |fix i op ns es x E j=>
    simp only[oL,ql,Qc,LJ,Xt.fix.injEq]at h;exact⟨_,_,.inl ⟨ns,h.2.2.2▸j o h.2.1,UZ h.2.2.1,Ln m⟩,h.1.symm⟩
  cases h
 split at h
 ·rename_i r I;simp only[LJ,Qc]at h;obtain⟨n,q⟩:=YF T I;refine⟨_,_,?_,h.1.symm⟩;rcases n with⟨ns,a,b,_,c⟩|⟨a,b,c⟩
  ·exact .inl ⟨ns,a,b,c⟩
  exact .inr ⟨a,b,c⟩
 cases h
def lY (s t:BL):Prop:=∀C ok H a w,Holds C ok H s a w→∃ok' H',Holds C ok' H' t a w
def aRi (s:BL):lY s s:=fun _ ok H _ _ h=>⟨ok,H,h⟩
def gU {s t:BL} (h:Bz s t):lY s t:=h
def AB.nodes (T:Kn P) {id:Nat} {ops:Array Oper} {σ:BL} {Q:Exit→BL→Prop} (L:List (KE P)) (N:List (List Nat)) (Tr:List (Nat×Nat×Nat)) (F:List Nat) (Z:BL) (hm:P.follows .mixedOrders=true) (hN:ah ops N Tr F=true) (h0:N.getD 0 [0]=[])
 (hT:(Tr.map fun t=>TG T L ops (JL T L ops σ (N.getD t.1 [])) t.2.1)=Tr.map fun t=>some (JL T L ops σ (N.getD t.2.2 []),U5 L t.2.1))
 (hF:QB (fun k=>lY (JL T L ops σ (N.getD k [])) Z) F) (hQ:Q .normal Z):AB P (.region id ops true) σ Q:=by
 refine⟨fun ro _ C ok H a w f=>?_⟩;refine aBz hm ?_
 let S:Nat→BL:=fun k=>JL T L ops σ (N.getD k [])
 let I:Array Bool→Act→World→Prop:=fun l a w=>l.size=ops.size∧∃k ok H,k<N.length∧(∀i,i<ops.size→l.getD i false=(N.getD k []).contains i)∧Holds C ok H (S k) a w
 have hNN:∀k,k<N.length→(((List.range ops.size).all fun i=>(N.getD k []).contains i|| !Zk ops (N.getD k []) i||
  Tr.any fun t=>t.1==k&&t.2.1==i&&decide (t.2.2<N.length)&&(List.range ops.size).all fun j=>(N.getD t.2.2 []).contains j==((N.getD k []).contains j||j==i))&&
  (F.contains k||(List.range ops.size).any fun i=> !(N.getD k []).contains i&&Zk ops (N.getD k []) i))=true:=fun k hk=>by
  obtain⟨T,s,z⟩:=aPw N 0 Tr hN k hk;unfold aHR at s;rw[J4,DJ,ER]at s;rw[DJ,ER];refine⟨fun i hi=>?_,s.2⟩;have m:=s.1 i hi;rw[bV]at m ⊢;rcases m with m|m
  ·exact .inl m
  obtain⟨t,ht,h4⟩:=Hd.1 m;obtain⟨O,J⟩:=z t ht;rw[J4]at J;refine .inr (Hd.2 ⟨t,O,?_⟩);rw[show(t.1==k)=true by simpa using J,Fe];exact h4
 refine Mid I (fun l a w h=>h.1) ?_ ?_ ops.size _ _ _ ?_ ?_
 ·rintro l a w ⟨s,k,ok,H,hk,hl,f⟩ i hi;unfold Region.ready at hi;rw[Gn]at hi;obtain⟨hi1,hi2⟩:=hi;have hi':i<ops.size:=aAy
  have ho:ops[i]? =some ops[i]:=by simp[hi']
  simp only[DJ]at hi2;have q:=hi2.2;rw[ho]at q;simp only[IB,MC]at q;have M:=fun e he=>(QF.1 q) e he
  have hself:l.getD i false=false:=by
   have h8:=hi2.1;have hil:i<l.size:=AA
   simp[Array.getD,hil]at h8 ⊢;exact h8
  have hnc:(N.getD k []).contains i=false:=by rw[←hl i hi'];exact hself
  have hrd:Zk ops (N.getD k []) i=true:=by
   unfold Zk;rw[ho];simp only[ER];intro e he;have h9:=M e sG;cases hb:Region.binds .any e with
   |false=>simp
   |true=>
    simp only[hb,EW,Ll]at h9 ⊢;by_cases hon:e.on<ops.size
    ·rw[←hl e.on hon,h9];simp[hon]
    have :l.getD e.on false=false:=by simp[Array.getD,show ¬e.on<l.size by omega]
    rw[this]at h9;cases h9
  have z:=hNN k hk;simp only[DJ,ER]at z;have m:=z.1 i (by simpa using hi');rw[hnc,hrd]at m;simp only[EW,Bool.or_self,Ll,Hd]at m;obtain⟨⟨k',u,t⟩,htm,h4⟩:=m;simp only[DJ,SN,Gi,ER]at h4;obtain⟨⟨⟨rfl,rfl⟩,ht⟩,O⟩:=h4;have J:TG T L ops (S k') u=some (S t,U5 L u):=List.map_inj_left.1 hT (k',u,t) htm;obtain⟨x,E,hs,he⟩:=aqQ T ho J
  have U:∀(a':Act) (w':World) (ok':Nat→Prop) (H':List Bo),Holds C ok' H' ((S k').put ops[u].dst x E) a' w'→I (l.setIfInBounds u true) a' w':=by
   intro a' w' ok' H' hp;refine⟨by simp[s],t,ok',H',ht,fun j hj=>?_,he▸hp⟩;have h7:=O j (by simpa using hj);rw[h7,←hl j hj];by_cases hij:u=j
   ·subst hij;simp[Array.getD,s,hj]
   have :(j==u)=false:=Dy
   rw[this,KP];simp only[Gu,Js hij]
  unfold wpOpIn;rw[ho];show if Region.wanted ops[u] (yielded ops a.tmps)=true then _ else _
  rcases hs with⟨ns,hop,aeY,hg⟩|⟨rfl,rfl,hg⟩
  ·rw[D7 (Ox f hg)];refine QD ?_ (hop.inR ro C ok H a w _ f.mem (fun n hn'=>Oa aeY n hn'▸f.get n.1));rintro a' w' ⟨v,ok',H',rfl,hgr,hnn,hm',hx⟩;exact U _ _ _ _ (f.put ops[u].dst hgr hnn hm' hx)
  rw[DF (by rw[aMQ f hg];simp)];exact⟨fun _ _=>trivial,U _ _ _ _ (f.put ops[u].dst (.refl _ _) (.refl _) f.mem (.d _ _ (.lit _)))⟩
 ·rintro l a w ⟨s,k,ok,H,hk,hl,f⟩ hr;have z:=hNN k hk;simp only[DJ,bV]at z
  have hFk:k∈F:=by
   rcases z.2 with h|h
   ·simpa using h
   rw[Hd]at h;obtain⟨i,hi,m⟩:=h;simp only[qB]at hi;simp only[DJ,RZ]at m;obtain⟨h4,O⟩:=m;have ho:ops[i]? =some ops[i]:=QE
   have Y:i∈Region.ready .any ops l:=by
    unfold Region.ready;rw[Gn];refine⟨Fj,?_⟩;have hf:l.getD i false=false:=by rw[hl i hi];exact h4
    have hil:i<l.size:=AA
    have hf':l.getD i true=false:=aCo
    rw[hf',ho];simp only[IX,Fe,IB,MC];rw[QF];intro e he;unfold Zk at O;rw[ho]at O;simp only[ER]at O;have J:=O e sG;cases hb:Region.binds .any e with
    |false=>simp
    |true=>
     simp only[hb,EW,Ll]at J ⊢;rw[DJ,Gi]at J;rw[hl e.on J.2];exact J.1
   rw[hr]at Y;simp at Y
  obtain⟨ok',H',m⟩:=hF.mem k hFk C ok H a w f;exact⟨ok',H',Z,m,hQ⟩
 ·unfold toCome;simp
 refine⟨BU,0,ok,H,?_,fun i hi=>?_,?_⟩
 ·cases N with
  |nil=>cases h0
  |cons x l=>simp
 ·have e:N.getD 0 []=[]:=by
   cases N with
   |nil=>rfl
   |cons x l=>simpa using h0
  rw[e];simp[Array.getD]
 have e:S 0=σ:=by
  show JL T L ops σ (N.getD 0 [])=σ;cases N with
  |nil=>rfl
  |cons x l=>have :x=[]:=by simpa using h0
             subst this;rfl
 rw[e];refine⟨⟨⟨f.mem.fr.os,f.mem.fr.tape,f.mem.fr.output,f.mem.fr.size,f.mem.fr.block⟩,f.mem.yA,f.mem.yB,f.mem.kL,f.mem.names,f.mem.hlen,fun k e h s z=>(f.mem.ent k e h s z).drew,f.mem.blk,f.mem.EJ⟩,f.size,f.defers.mono (fun b hb=>⟨hb,rfl⟩),f.base,fun t ht=>R.mono (w:=w) (ok:=ok) (w':={ w with drawn:=w.drawn+1 }) (fun b hb=>⟨hb,rfl⟩) (.refl _) (f.slot t ht)⟩
def aNM {f:FuncId} {eH:List Ag} {h:Ag} (i:Nat) (run:Ap P f eH [] h []) (ent:Dt P f=true) (dat:eH.all Ag.Ah=true:=by kernel_rfl):KE P:=.call i f eH h run ent dat
def Yc {ns:List (Operand×Ag)} {x:Ag} (i:Nat) (op:Op) (h:∀(o:Oper) (es:List BQ),o.op=op→Bq P o ns es x es):KE P:=.dat i op ns x h
def vk {ns:List (Operand×Ag)} {x:Ag} (i:Nat) (op:Op) (k:Nat) (e:BQ) (h:∀(o:Oper) (es:List BQ),es[k]? =some e→o.op=op→Bq P o ns es x es):KE P:=.at_ i op ns k e x h
def aP {ns:List (Operand×Ag)} {x:Ag} (i:Nat) (op:Op) (es E:List BQ) (h:∀(o:Oper),o.op=op→Bq P o ns es x E):KE P:=.fix i op ns es x E h
section
variable [T : Kn P] {id : Nat} {ops : Array Oper} {σ : BL} {Q : Exit → BL → Prop} {y : Code}
def AB.node1 (L:List (KE P)) (N:List (List Nat)) (Tr:List (Nat×Nat×Nat)) (f:Nat) (h:Q .normal (JL T L ops σ (N.getD f []))) (j:P.follows .mixedOrders=true:=by kernel_rfl) (m:ah ops N Tr [f]=true:=by kernel_rfl) (n:N.getD 0 [0]=[]:=by kernel_rfl)
 (q:(Tr.map fun t=>TG T L ops (JL T L ops σ (N.getD t.1 [])) t.2.1)=Tr.map fun t=>some (JL T L ops σ (N.getD t.2.2 []),U5 L t.2.1):=by kernel_rfl):AB P (.region id ops true) σ Q:=
 AB.nodes T L N Tr [f] _ j m n q ⟨aRi _,trivial⟩ h
def AB.aDN (L:List (KE P)) (N:List (List Nat)) (Tr:List (Nat×Nat×Nat)) (f:Nat) (h:AB P y (JL T L ops σ (N.getD f [])) Q) (j:P.follows .mixedOrders=true:=by kernel_rfl) (m:ah ops N Tr [f]=true:=by kernel_rfl) (n:N.getD 0 [0]=[]:=by kernel_rfl)
 (q:(Tr.map fun t=>TG T L ops (JL T L ops σ (N.getD t.1 [])) t.2.1)=Tr.map fun t=>some (JL T L ops σ (N.getD t.2.2 []),U5 L t.2.1):=by kernel_rfl):AB P (.seq (.region id ops true) y) σ Q:=
 AB.seq1 _ (AB.nodes T L N Tr [f] _ j m n q ⟨aRi _,trivial⟩ rfl) h
def AB.aDO (L:List (KE P)) (N:List (List Nat)) (Tr:List (Nat×Nat×Nat)) (F:List Nat) (f:BL) (h:QB (fun k=>lY (JL T L ops σ (N.getD k [])) f) F) (j:AB P y f Q) (m:P.follows .mixedOrders=true:=by kernel_rfl) (n:ah ops N Tr F=true:=by kernel_rfl) (q:N.getD 0 [0]=[]:=by kernel_rfl)
 (s:(Tr.map fun t=>TG T L ops (JL T L ops σ (N.getD t.1 [])) t.2.1)=Tr.map fun t=>some (JL T L ops σ (N.getD t.2.2 []),U5 L t.2.1):=by kernel_rfl):AB P (.seq (.region id ops true) y) σ Q:=
 AB.seq1 f (AB.nodes T L N Tr F f m n q s h rfl) j
end
end
section
variable {P : Program} {ops : Array Oper} {es : List BQ}
def WL (ops:Array Oper) (bs:List Bool) (sl:List Nat):Bool:=(List.range ops.size).all fun i=> !(bs.getD i false)||(!sl.contains i&&
 ((List.range i).all fun j=>sl.contains j||(List.range (i+1)).any fun m=>(decide (j<m)&& !sl.contains m)&&(match ops[m]? with |some o=>G9 o j|none=>false))&&
  ((List.range ops.size).all fun k=> !decide (i<k)||(List.range k).any fun m=>decide (i≤m)&&(match ops[k]? with |some o=>G9 o m|none=>false)))
def aNj {bs:List Bool} {sl:List Nat} (h:WL ops bs sl=true) {i:Nat} (hi:i<ops.size) (O:bs.getD i false=true) {D:Nat→Prop} (hd:∀(j:Nat) (o:Oper),ops[j]? =some o→D j→∀m,G9 o m=true→D m)
 (S:∀(o:Oper),ops[i]? =some o→∀m,G9 o m=true→D m):∀j,j<i→sl.contains j=false→D j:=by
 unfold WL at h;rw[ER]at h;have I:=h i Fj;simp only[O,EW,Ll,DJ,ER]at I
 have key:∀n j,i-j≤n→j<i→sl.contains j=false→D j:=by
  intro n
  induction n with
  |zero=>intro j U J _;omega
  |succ n Y=>
   intro j U J f;have L:=I.1.2 j (by simpa using J);rw[f,Ll,Hd]at L;obtain⟨m,Z,M⟩:=L;simp only[qB]at Z;simp only[DJ,Gi,RZ]at M;obtain⟨⟨h6,q⟩,s⟩:=M;have u:m<ops.size:=AA
   have z:ops[m]? =some ops[m]:=ZA
   rw[z]at s;by_cases e:m=i
   ·subst e;exact S _ z j s
   exact hd m _ z (Y m AA AA q) j s
 exact fun j hj hs=>key (i-j) j (E9 _) hj hs
def amy {bs:List Bool} {sl:List Nat} (h:WL ops bs sl=true) {i:Nat} (hi:i<ops.size) (O:bs.getD i false=true) {D:Nat→Prop} (hd:∀(j:Nat) (o:Oper),ops[j]? =some o→D j→∀m,G9 o m=true→D m):
 ∀k,i<k→∀(o:Oper),ops[k]? =some o→(∀m,G9 o m=true→D m)→D i:=by
 unfold WL at h;rw[ER]at h;have z:=h i Fj;simp only[O,EW,Ll,DJ,ER]at z;intro k
 induction k using Nat.strongRecOn with
 |_ k S=>
  intro s o I f;have U:k<ops.size:=(Fq.1 I).1;have J:=z.2 k oM;simp only[s,decide_true,EW,Ll,Hd]at J;obtain⟨m,L,M⟩:=J;simp only[qB]at L;simp only[DJ,Gi,I]at M;obtain⟨Z,Y⟩:=M;have n:=f m Y;by_cases e:m=i
  ·subst e;exact n
  have u:m<ops.size:=AA
  have q:ops[m]? =some ops[m]:=ZA
  exact S m L AA _ q (hd m _ q n)
def ac5 {bs:List Bool} {sl:List Nat} (h:WL ops bs sl=true) {i:Nat} (hi:i<ops.size) (j:bs.getD i false=true):sl.contains i=false:=by
 unfold WL at h;rw[ER]at h;have f:=h i Fj;simp only[j,EW,Ll,DJ,RZ]at f;exact f.1.1
def AB.aAR {id:Nat} {σ σ':BL} {Q:Exit→BL→Prop} {rs:List Ag} {ess:List (List BQ)} {bs:List Bool} (hm:P.follows .mixedOrders=true) (L:(VJ ops&&WM ops&&UR ops σ.slots.length&&VT ops)=true) (sl:List Nat) (M:WL ops bs sl=true)
 (h:FC P ops ops.toList σ rs ess bs σ')
 (hsl:∀i,i∈sl→bs.getD i false=false∧∀m,i≤m→m≤ops.size→∀o,ops[i]? =some o→Qv P ops ⟨(Ef ops σ (fun i=>rs.getD i .junk) (fun i=>ess.getD i []) i).slots,(Ef ops σ (fun i=>rs.getD i .junk) (fun i=>ess.getD i []) m).ents,σ.base⟩ (rs.getD i .junk) (Ef ops σ (fun i=>rs.getD i .junk) (fun i=>ess.getD i []) m).ents false o) (hQ:Q .normal σ'):AB P (.region id ops true) σ Q:=by
 refine⟨fun ro _ C ok H a w hh=>?_⟩;simp only[DJ]at L;obtain⟨⟨⟨he,hd⟩,hs⟩,hc⟩:=L;have Px:=aJu he;have hinj:=aLh hd;have L:=aHw hc
 have Hz:∀(i:Nat) (o:Oper) (d:Tmp),ops[i]? =some o→o.dst=some d→d<σ.slots.length:=by
  intro i o d h1 h2;unfold UR at hs;rw[ER]at hs;simpa using hs d (aLH h1 h2)
 let r:Nat→Ag:=fun i=>rs.getD i .junk
 let ev:Nat→List BQ:=fun i=>ess.getD i []
 let bar:Nat→Bool:=fun i=>bs.getD i false
 obtain⟨Iw,hend⟩:=h.facts σ r ev bar 0 (fun k=>BU) BU rfl (fun k y hy=>aIC) (fun k y hy=>aHE) (fun k y hy=>by simp[bar,List.getD,hy])
 let U:Nat→BL:=Ef ops σ r ev
 have hU:∀i,i<ops.size→(U (i+1)).ents=ev i:=by
  intro i hi;have J:ops[i]? =some ops[i]:=QE
  show(Ef ops σ r ev (i+1)).ents=_;simp only[Ef,J];rfl
 have hconst:∀n lo,(∀b,lo≤b→b<lo+n→bar b=false)→lo+n≤ops.size→(U (lo+n)).ents=(U lo).ents:=by
  intro n
  induction n with
  |zero=>intro lo _ _;rfl
  |succ n ih=>
   intro lo u hle;have h1:=ih lo (fun b h1 h2=>u b h1 AA) AA;have hi:lo+n<ops.size:=AA
   have J:ops[lo+n]? =some ops[lo+n]:=QE
   have h2:=(Iw (lo+n) _ AA J).2 (u (lo+n) AA AA);rw[←NP,hU _ hi,h2];exact h1
 have O:∀lo hi,lo≤hi→hi≤ops.size→(∀b,lo≤b→b<hi→bar b=false)→(U hi).ents=(U lo).ents:=by
  intro lo hi h1 h2 h3;obtain⟨n,rfl⟩:=aIP h1;exact hconst n lo h3 h2
 refine aBz hm ?_
 let I:Array Bool→Act→World→Prop:=fun l a w=>l.size=ops.size∧∃ok H m,m≤ops.size∧(∀b,bar b=true→b<ops.size→(l.getD b false=true↔b<m))∧D5 C ok H (U m).ents w∧a.tmps.size=σ.slots.length∧Marks C ok w a.defers∧
  (∀t,t<σ.slots.length→(∀(j:Nat) (o:Oper),ops[j]? =some o→o.dst=some t→l.getD j false=false)→R ok w H (σ.slots.getD t .junk) (a.tmps.getD t undef))∧
  (∀(i:Nat) (o:Oper) (d:Tmp),ops[i]? =some o→o.dst=some d→l.getD i false=true→R ok w H (r i) (a.tmps.getD d undef))∧
  (∀(j:Nat) (o:Oper),ops[j]? =some o→l.getD j false=true→∀i,G9 o i=true→l.getD i false=true)
 refine Mid I (fun l a w h=>h.1) ?_ ?_ ops.size _ _ _ ?_ ?_
 ·rintro l a w ⟨h1,ok,H,m,Lu,z,hmem0,hsz,hdf,h5,h6,h7⟩ i hi;unfold Region.ready at hi;rw[Gn]at hi;obtain⟨hi1,hi2⟩:=hi;have hi':i<ops.size:=aAy
  have J:ops[i]? =some ops[i]:=by simp[hi']
  simp only[DJ]at hi2;have Py:=hi2.2;rw[J]at Py;simp only[IB,MC]at Py;have ahd:=fun e he=>(QF.1 Py) e he
  have S:∀j,G9 ops[i] j=true→l.getD j false=true∧j<i:=by
   intro j s;unfold G9 at s;rw[Hd]at s;obtain⟨e,hee,s⟩:=s;simp only[DJ,Gi]at s;have :=ahd e aM2;simp only[s.2,EW,Ll]at this;rw[s.1]at this;exact⟨this,s.1▸Px i _ J e hee s.2⟩
  have Y:l.getD i false=false:=by
   have h8:=hi2.1;have hil:i<l.size:=AA
   simp[Array.getD,hil]at h8 ⊢;exact h8
  have an1:∀(j:Nat) (o:Oper),ops[j]? =some o→l.getD j false=true→∀m,G9 o m=true→l.getD m false=true:=fun j o s hl m hm=>h7 j o s hl m hm
  have hEi:(i≤m→sl.contains i=false)→(U i).ents=(U m).ents:=fun hns=>by
   by_cases him:i≤m
   ·refine(O i m him Lu (fun b h2 h3=>?_)).symm;rw[←Kz];intro u;have hbl:=(z b u AA).2 h3;by_cases e:b=i
    ·subst e;rw[Y]at hbl;cases hbl
    have :=aNj M (show b<ops.size by omega) u (D:=fun j=>l.getD j false=true) an1 (fun o J m hm=>an1 b o J hbl m hm) i AA (hns him);rw[Y]at this;cases this
   refine O m i AA AA (fun b h2 h3=>?_);rw[←Kz];intro u;have :=amy M (show b<ops.size by omega) u (D:=fun j=>l.getD j false=true) an1 i h3 _ J (fun m hm=>(S m hm).1);exact absurd ((z b u AA).1 this) AA
  obtain⟨E0,E1,Z,hfact,hE1,hE2⟩:∃E0 E1,D5 C ok H E0 w∧Qv P ops ⟨(U i).slots,E0,σ.base⟩ (r i) E1 (bar i) ops[i]∧(bar i=false→E1=(U m).ents)∧(bar i=true→E1=ev i):=by
   by_cases hs:i≤m∧i∈sl
   ·have h9:=hsl i hs.2;refine⟨(U m).ents,(U m).ents,hmem0,?_,fun _=>rfl,fun u=>?_⟩
    ·rw[show bar i=false from h9.1];exact h9.2 m hs.1 Lu _ J
    rw[show bar i=false from h9.1]at u;cases u
   have hE:=hEi (fun him=>by
    rw[←Kz]
    intro hc;exact hs ⟨him,by simpa using hc⟩)
   refine⟨(U i).ents,ev i,by rw[hE];exact hmem0,?_,fun u=>?_,fun _=>rfl⟩
   ·have hf:=Iw i ops[i] AA J;have hbase:(U i).base=σ.base:=aDk i;have :U i=⟨(U i).slots,(U i).ents,σ.base⟩:=by rw[←hbase]
    exact this▸hf
   rw[(Iw i _ AA J).2 u];exact hE
  have hread:∀t,t∈tmpsOf ops[i]→R ok w H ((Ef ops σ r ev i).slots.getD t .junk) (a.tmps.getD t undef):=by
   intro t ht;by_cases hw:∃(j:Nat) (o:Oper),ops[j]? =some o∧o.dst=some t
   ·obtain⟨j,o,s,q⟩:=hw;rcases(L i _ J).1 j o t s q ht with hce|hce
    ·obtain⟨hdj,hji⟩:=S j hce;rw[Ug hinj s q (Hz j o t s q) i hji];exact h6 j o t s q hdj
    have hij:i<j:=by
     unfold G9 at hce;rw[Hd]at hce;obtain⟨e,hee,hce⟩:=hce;simp only[DJ,Gi]at hce;exact hce.1▸Px j _ s e hee hce.2
    rw[SA i (fun j' o' hj' ho' hd'=>aQg)];refine h5 t (Hz j o t s q) (fun j' o' ho' hd'=>?_);have hjj:=hinj j j' o o' t s ho' q hd';subst hjj;rw[←Kz];intro hd;rw[h7 j o s hd i hce]at Y;cases Y
   have hw':∀(j:Nat) (o:Oper),ops[j]? =some o→o.dst≠some t:=fun j o h1 h2=>hw ⟨j,o,h1,h2⟩;rw[SA i (fun j o _ s=>hw' j o s)];by_cases htn:t<σ.slots.length
   ·exact h5 t htn (fun j o s q=>absurd q (hw' j o s))
   rw[ku htn];exact .junk _
  have Vl:∀j d v,G9 ops[i] j=true→(ops[j]?).bind (·.dst)=some d→(Ef ops σ r ev i).slots.getD d .junk=.d (.lit v)→yielded ops a.tmps j=(match v with | .bool b=>some b|_=>none):=by
   intro j d v s q u;cases hoj:ops[j]? with
   |none=>rw[hoj]at q;simp at q
   |some oj=>
    rw[hoj]at q;simp only[Ac]at q;obtain⟨hdj,hji⟩:=S j s;have hdn:=Hz j oj d hoj q;rw[Ug hinj hoj q hdn i hji]at u;have hv:=(u▸h6 j oj d hoj q hdj).bool
    have hs:a.tmps[d]? =some v:=by
     have :d<a.tmps.size:=by rw[hsz];exact hdn
     simp[Array.getD,this]at hv;simp[this,hv]
    unfold yielded;rw[hoj];simp only[Ac,q,hs];cases v<;>rfl
  have hput:∀(x:Ag) (v:Value) (ok':Nat→Prop) (H':List Bo) (w':World),x=r i→EO ok w ok' w'→Names H H'→D5 C ok' H' E1 w'→R ok' w' H' x v→I (l.setIfInBounds i true) (a.put ops[i].dst v) w':=by
   intro x v ok' H' w' hx hgr hnm hmem' hR;subst hx
   have hother:∀(d t:Nat),ops[i].dst=some d→d≠t→(a.put ops[i].dst v).tmps.getD t undef=a.tmps.getD t undef:=by
    intro d t hd hne;rw[hd];exact aJq hne
   obtain⟨m',al5,adB,al6⟩:∃m',m'≤ops.size∧(∀b,bar b=true→b<ops.size→((l.setIfInBounds i true).getD b false=true↔b<m'))∧D5 C ok' H' (U m').ents w':=by
    have hget:∀b,b≠i→(l.setIfInBounds i true).getD b false=l.getD b false:=fun b u=>by
     simp only[Gu,Js (Ne.symm u)]
    have al7:(l.setIfInBounds i true).getD i false=true:=aJz
    cases hbi:bar i with
    |false=>
     refine⟨m,Lu,fun b u hbs=>?_,?_⟩
     ·have hne:b≠i:=fun e=>by subst e;rw[hbi]at u;cases u
      rw[hget b hne];exact z b u hbs
     rw[←hE1 hbi];exact hmem'
    |true=>
     refine⟨i+1,AA,fun b u hbs=>?_,by rw[hU i hi',←hE2 hbi];exact hmem'⟩;by_cases e:b=i
     ·subst e;rw[al7];simp
     rw[hget b e];constructor
     ·intro hbl;apply Xu;intro hn;have :=aNj M hbs u (D:=fun j=>l.getD j false=true) an1 (fun o J m hm=>an1 b o J hbl m hm) i AA (ac5 M hi' hbi);rw[Y]at this;cases this
     intro hlt;exact aNj M hi' hbi (D:=fun j=>l.getD j false=true) an1 (fun o ho' m hm=>by rw[J]at ho';obtain rfl:=Cm ho';exact(S m hm).1) b AA (ac5 M hbs u)
   refine⟨by simp[h1],ok',H',m',al5,adB,al6,aJt,aL0,?_,?_,?_⟩
   ·intro t ht hno
    have hne:ops[i].dst≠some t:=by
     intro e;have :=hno i _ J e;simp[Array.getD,h1,hi']at this
    have hold:(a.put ops[i].dst v).tmps.getD t undef=a.tmps.getD t undef:=by
     cases hdi:ops[i].dst with
     |none=>rfl
     |some d=>exact hdi▸hother d t hdi (fun e=>hne (by rw[hdi,e]))
    rw[hold];refine(h5 t ht (fun j o s q=>?_)).mono hgr hnm;have hij:i≠j:=fun e=>by subst e;rw[J]at s;obtain rfl:=Cm s;exact hne q
    have :=hno j o s q;simpa only[Gu,Js hij]using this
   ·intro k o d hk hkd hl;by_cases hik:i=k
    ·subst hik;rw[J]at hk;obtain rfl:=Cm hk;rw[hkd,aNW (by rw[hsz];exact Hz i _ d J hkd)];exact hR
    have hl':l.getD k false=true:=by
     simp only[Gu,Js hik]at hl ⊢;exact hl
    have :=(h6 k o d hk hkd hl').mono hgr hnm;cases hdst:ops[i].dst with
    |none=>exact this
    |some d'=>
     have hne:d'≠d:=fun e=>hik (hinj i k _ _ d' J hk hdst (e▸hkd));rw[←hdst,hother d' d hdst hne];exact this
   intro j o s hl k hk;have hil:i<l.size:=AA
   by_cases hik:i=k
   ·subst hik;simp[Array.getD,hil]
   have hkk:l.getD k false=true:=by
    by_cases hij:i=j
    ·subst hij;rw[J]at s;obtain rfl:=Cm s;exact(S k hk).1
    have hl':l.getD j false=true:=by
     simp only[Gu,Js hij]at hl ⊢;exact hl
    exact h7 j o s hl' k hk
   simp only[Gu,Js hik]at hkk ⊢;exact hkk
  unfold wpOpIn;rw[J];show if Region.wanted ops[i] (yielded ops a.tmps)=true then _ else _
  rcases hfact.1 with⟨ns,hop,aeY,hnt,hg⟩|⟨hx,hev,hg⟩
  ·have hwant:Region.wanted ops[i] (yielded ops a.tmps)=true:=by
    unfold Region.wanted;rcases hg with hg|⟨j,want,d,b,hg,s,u,rfl⟩
    ·rw[hg]
    rw[hg];show(yielded ops a.tmps j==some b)=true;rw[Vl j d _ ((L i _ J).2 j b hg) s u];simp
   rw[D7 hwant];refine QD ?_ (hop.inR ro C ok H a w _ Z (fun n hn=>?_))
   ·rintro a' w' ⟨v,ok',H',rfl,hgr,hnn,hm',hx⟩;exact hput _ v ok' H' w' rfl hgr hnn hm' hx
   have hnv:=Oa aeY n hn;obtain⟨x,y⟩:=n;simp only at hnv ⊢;subst hnv;cases x with
   |tmp t=>
    refine hread t ?_;rw[ER]at hnt
    have :t∈Me ns:=by
     unfold Me;rw[Rw];exact⟨_,hn,rfl⟩
    simpa using hnt t this
   |const v=>exact .d _ _ (.lit v)
   |global g=>exact .d _ _ (.lit _)
   |func f=>exact .d _ _ (.fn (.func f) [] [] #[] #[] rfl rfl (fun i hi=>Ns) (fun i hi=>Ns))
  have hwant:Region.wanted ops[i] (yielded ops a.tmps)=false:=by
   unfold Region.wanted;obtain⟨j,want,d,v,hg,s,u,hv⟩:=hg;rw[hg];show(yielded ops a.tmps j==some want)=false;rw[Vl j d _ ((L i _ J).2 j want hg) s u];rcases hv with rfl|rfl
   ·simp
   rfl
  rw[DF (by rw[hwant];simp)];exact⟨fun _ _=>trivial,hput _ _ ok H w hx.symm (.refl _ _) (.refl _) (by rw[hev];exact Z) (.d _ _ (.lit _))⟩
 ·rintro l a w ⟨h1,ok,H,m,Lu,z,Z,hsz,hdf,h5,h6,h7⟩ hr
  have hall:∀n i,i<n→i<ops.size→l.getD i false=true:=by
   intro n
   induction n with
   |zero=>intro i hi;omega
   |succ n ih=>
    intro i hi hi2;by_cases hn:i<n
    ·exact ih i hn hi2
    have hin:i=n:=AA
    subst hin;rw[←aMG];intro hf;have J:ops[i]? =some ops[i]:=by simp[hi2]
    have Z:i∈Region.ready .any ops l:=by
     unfold Region.ready;rw[Gn];refine⟨by simpa using hi2,?_⟩;have hil:i<l.size:=AA
     have hf':l.getD i true=false:=aCo
     rw[hf',J];simp only[IX,Fe,IB,MC];rw[QF];intro e he;cases hbe:Region.binds .any e with
     |false=>simp
     |true=>
      have hlt:=Px i _ J e sG hbe;rw[ih e.on AA AA];simp
    rw[hr]at Z;simp at Z
  refine⟨ok,H,σ',?_,hQ⟩;subst hend
  have hE:(U ops.size).ents=(U m).ents:=O m ops.size Lu (E9 _) (fun b h2 h3=>by
   rw[←Kz];intro u
   exact absurd ((z b u h3).1 (hall (b+1) b AA h3)) AA)
  refine⟨by show D5 C ok H (U ops.size).ents w;rw[hE];exact Z,by rw[UM];exact hsz,hdf,aJn,fun t ht=>?_⟩;rw[UM]at ht;by_cases hw:∃(j:Nat) (o:Oper),ops[j]? =some o∧o.dst=some t
  ·obtain⟨j,o,s,q⟩:=hw;have hjn:j<ops.size:=(Fq.1 s).1;rw[Ug hinj s q ht ops.size hjn];exact h6 j o t s q (hall (j+1) j AA hjn)
  have hw':∀(j:Nat) (o:Oper),ops[j]? =some o→o.dst≠some t:=fun j o h1 h2=>hw ⟨j,o,h1,h2⟩;rw[SA ops.size (fun j o _ s=>hw' j o s)];exact h5 t ht (fun j o s q=>absurd q (hw' j o s))
 ·unfold toCome;simp
 refine⟨BU,ok,H,0,EY _,fun b u _=>aGD,?_,hh.size,hh.defers.mono (fun b u=>⟨u,rfl⟩),fun t ht _=>?_,fun i o d _ _ hl=>?_,fun j o _ hl=>?_⟩
 ·exact⟨⟨hh.mem.fr.os,hh.mem.fr.tape,hh.mem.fr.output,hh.mem.fr.size,hh.mem.fr.block⟩,hh.mem.yA,hh.mem.yB,hh.mem.kL,hh.mem.names,hh.mem.hlen,fun k e h h1 h2=>(hh.mem.ent k e h h1 h2).drew,hh.mem.blk,hh.mem.EJ⟩
 ·exact R.mono (w:=w) (ok:=ok) (w':={ w with drawn:=w.drawn+1 }) (fun b u=>⟨u,rfl⟩) (.refl _) (hh.slot t ht)
 ·simp[Array.getD]at hl
 simp[Array.getD]at hl
def X0 (n:Nat) (sl:List Nat):List (Nat×Nat):=sl.flatMap fun i=>((List.range (n+1)).filter fun m=>decide (i≤m)).map fun m=>(i,m)
def rJ (ops:Array Oper) (σ:BL) (rs:List Ag) (ess:List (List BQ)) (i:Nat):BL:=Ef ops σ (fun i=>rs.getD i .junk) (fun i=>ess.getD i []) i
def aEe (T:Kn P) (ops:Array Oper) (σ:BL) (rs:List Ag) (ess:List (List BQ)) (p:Nat×Nat):Option (Ag×List BQ×Bool):=
 match ops[p.1]? with
 |some o=>(Uu T ops ⟨(rJ ops σ rs ess p.1).slots,(rJ ops σ rs ess p.2).ents,σ.base⟩ o).map fun r=>(r.x,r.E,r.bar)
 |none=>none
def aPz (T:Kn P) {σ:BL} {rs:List Ag} {ess:List (List BQ)} {bs:List Bool} {sl:List Nat} (j:(sl.all fun i=> !(bs.getD i false))=true)
 (n:(X0 ops.size sl).map (aEe T ops σ rs ess)=(X0 ops.size sl).map fun p=>some (rs.getD p.1 .junk,(rJ ops σ rs ess p.2).ents,false)):
 ∀i,i∈sl→bs.getD i false=false∧∀m,i≤m→m≤ops.size→∀o,ops[i]? =some o→Qv P ops ⟨(Ef ops σ (fun i=>rs.getD i .junk) (fun i=>ess.getD i []) i).slots,(Ef ops σ (fun i=>rs.getD i .junk) (fun i=>ess.getD i []) m).ents,σ.base⟩ (rs.getD i .junk) (Ef ops σ (fun i=>rs.getD i .junk) (fun i=>ess.getD i []) m).ents false o:=by
 intro i hi;refine⟨by have :=ER.1 j i hi;simpa using this,fun m s J o u=>?_⟩
 have z:(i,m)∈X0 ops.size sl:=by
  unfold X0;rw[UG];exact⟨i,hi,Fh.2 ⟨m,Gn.2 ⟨Dy,P6⟩,rfl⟩⟩
 have f:=List.map_inj_left.1 n (i,m) z;unfold aEe at f;rw[u]at f;simp only[Td]at f;obtain⟨r,I,h⟩:=f;have q:=YF T I;simp only[Qc]at h;rw[h.1,h.2.1,h.2.2]at q;exact q
def AB.aAS [T:Kn P] {id:Nat} {σ σ':BL} {Q:Exit→BL→Prop} {rs:List Ag} {ess:List (List BQ)} {bs:List Bool} (sl:List Nat) (h:FC P ops ops.toList σ rs ess bs σ') (q:Q .normal σ') (s:P.follows .mixedOrders=true:=by kernel_rfl)
 (f:(VJ ops&&WM ops&&UR ops σ.slots.length&&VT ops)=true:=by kernel_rfl) (j:WL ops bs sl=true:=by kernel_rfl) (m:(sl.all fun i=> !(bs.getD i false))=true:=by kernel_rfl)
 (n:(X0 ops.size sl).map (aEe T ops σ rs ess)=(X0 ops.size sl).map fun p=>some (rs.getD p.1 .junk,(rJ ops σ rs ess p.2).ents,false):=by kernel_rfl):AB P (.region id ops true) σ Q:=
 AB.aAR s f sl j h (aPz T m n) q
def AB.aAT [T:Kn P] {id:Nat} {y:Code} {σ σ':BL} {Q:Exit→BL→Prop} {rs:List Ag} {ess:List (List BQ)} {bs:List Bool} (sl:List Nat) (h:FC P ops ops.toList σ rs ess bs σ') (q:AB P y σ' Q) (s:P.follows .mixedOrders=true:=by kernel_rfl)
 (f:(VJ ops&&WM ops&&UR ops σ.slots.length&&VT ops)=true:=by kernel_rfl) (j:WL ops bs sl=true:=by kernel_rfl) (m:(sl.all fun i=> !(bs.getD i false))=true:=by kernel_rfl)
 (n:(X0 ops.size sl).map (aEe T ops σ rs ess)=(X0 ops.size sl).map fun p=>some (rs.getD p.1 .junk,(rJ ops σ rs ess p.2).ents,false):=by kernel_rfl):AB P (.seq (.region id ops true) y) σ Q:=
 AB.seq1 σ' (AB.aAR s f sl j h (aPz T m n) rfl) q
def AB.conv {c:Code} {σ j:BL} {Q:Exit→BL→Prop} (h:∀C ok H a w,Holds C ok H σ a w→∃ok',Holds C ok' H j a w) (k:AB P c j Q):AB P c σ Q:=⟨fun ro m C ok H a w n=>by
 obtain⟨ok',f⟩:=h C ok H a w n
 exact k.run ro m C ok' H a w f⟩
end
def aEY (es:List BQ) (H:List Bo):List Nat:=(es.zip H).filterMap fun p=>if p.1.live then DX p.2.v else none
def aRh {es:List BQ} {H:List Bo} {b:Nat}:b∈aEY es H↔∃(k:Nat) (e:BQ) (h:Bo),es[k]? =some e∧e.live=true∧H[k]? =some h∧DX h.v=some b:=by
 unfold aEY;rw[Rw];constructor
 ·rintro⟨⟨e,h⟩,m,f⟩;obtain⟨k,j⟩:=List.mem_iff_getElem?.1 m;rw[aS8]at j;split at f
  ·rename_i n;exact⟨k,e,h,j.1,n,j.2,f⟩
  cases f
 rintro⟨k,e,h,q,s,u,z⟩;exact⟨(e,h),List.mem_iff_getElem?.2 ⟨k,aS8.2 ⟨q,u⟩⟩,by simp[s,z]⟩
def EI.now (w:World) (ok:Nat→Prop) (es:List BQ) (H:List Bo):EI:=⟨w,ok,aEY es H,H⟩
section
variable {C : EI} {ok ok' : Nat → Prop} {H H' : List Bo} {es es' : List BQ} {w w' : World}
def D5.inner (f:D5 C ok H es w):D5 (EI.now w ok es H) ok H es w:=
 ⟨.refl _ _,fun _ h=>h,fun _ h=>.inl h,f.kL,.refl _,f.hlen,f.ent,
  fun k e h b j m n q=>⟨(f.blk k e h b j m n q).1,(f.blk k e h b j m n q).2.1,.inr (aRh.2 ⟨k,e,h,j,m,n,q⟩)⟩,f.EJ⟩
def D5.outer (f:D5 C ok H es w) (h:D5 (EI.now w ok es H) ok' H' es' w'):EO ok w ok' w'∧Names H H'∧D5 C ok' H' es' w':=by
 have q:∀b,b∈aEY es H→¬ok b∧b<w.heap.size∧(C.w0.heap.size≤b∨b∈C.X):=fun b m=>by
  obtain⟨k,e,hd,j,u,n,L⟩:=aRh.1 m;exact f.blk k e hd b j u n L
 refine⟨fun b m=>⟨h.yA b m,h.fr.block b (f.kL b m) fun s=>(q b s).1 m⟩,h.names,⟨h.fr.os.trans f.fr.os,h.fr.tape.trans f.fr.tape,h.fr.output.trans f.fr.output,Ej f.fr.size h.fr.size,fun k J s=>?_⟩,fun b m=>h.yA b (f.yA b m),fun b m=>?_,h.kL,f.names.trans h.names,h.hlen,h.ent,fun k e hd b M O S m=>?_,h.EJ⟩
 ·have z:k<w.heap.size:=Uz J f.fr.size;refine(h.fr.block k z fun I=>?_).trans (f.fr.block k J s);rcases(q k I).2.2 with j|j
  ·omega
  exact s j
 ·rcases h.yB b m with j|j|j
  ·exact f.yB b j
  ·exact .inr (.inl (Ej f.fr.size j))
  exact .inr ((q b j).2.2)
 obtain⟨j,u,n⟩:=h.blk k e hd b M O S m;refine⟨j,u,?_⟩;rcases n with n|n
 ·exact .inl (Ej f.fr.size n)
 exact(q b n).2.2
def D5.ajr (q:D5 C ok H es w) {n:Nat} {e e':BQ} {h:Bo} {b:Nat} {o:Obj} (z:es[n]? =some e) (L:e.live=true) (I:H[n]? =some h) (J:DX h.v=some b) (he:EO ok w ok (w.putObj b o)→Em ok (w.putObj b o) H h e'):
 D5 C ok H (es.set n e') (w.putObj b o)∧EO ok w ok (w.putObj b o):=by
 obtain⟨M,h2,h3⟩:=q.blk n e h b z L I J;have hg:EO ok w ok (w.putObj b o):=fun c f=>⟨f,Xy fun e=>M (e▸f)⟩
 have s:=(FV.1 z).1;refine q.change (fun c=>c=b) rfl rfl rfl BU (fun c _ f=>Xy f) (fun c f _=>by subst f;exact⟨M,h3⟩) (fun _ h=>h) (fun _ h=>.inl h) (.refl _) (by simpa using q.hlen) fun k e2 h4 hk j=>?_;rcases Ls s hk with⟨rfl,rfl⟩|⟨m,u⟩
 ·right;rw[I]at j;obtain rfl:=Cm j;refine⟨he hg,fun _ c f=>?_⟩;rw[J]at f;obtain rfl:=Cm f;refine⟨M,aDf,h3,fun k' e3 h5 m O S U Y=>?_⟩;rcases Ls s O with⟨rfl,_⟩|⟨_,Z⟩
  ·exact m rfl
  exact m (q.EJ k' _ e3 e h5 h _ Z z S L U I Y J)
 left;exact⟨u,j,fun hl2 c f hcb=>m (q.EJ k n e2 e h4 h c u z hl2 L j I f (by rw[hcb];exact J))⟩
def aT :List Tmp→List Ag→List Ag→List Ag
 |p::f,x::xs,sl=>aT f xs (sl.set p x)
 |_,_,sl=>sl
def aS5 :∀(f:List Tmp) (xs:List Ag) (vs:List Value) (sl:List Ag) (tm:Array Value),xs.length=f.length→vs.length=f.length→(∀i,i<xs.length→R ok w H (xs.getD i .junk) (vs.getD i undef))→
 tm.size=sl.length→(∀t,t<sl.length→R ok w H (sl.getD t .junk) (tm.getD t undef))→
 ((f.zip vs).foldl (fun t p=>t.setIfInBounds p.1 p.2) tm).size=(aT f xs sl).length∧∀t,t<(aT f xs sl).length→R ok w H ((aT f xs sl).getD t .junk) (((f.zip vs).foldl (fun t p=>t.setIfInBounds p.1 p.2) tm).getD t undef)
 | [],xs,vs,sl,tm,_,_,_,j,n=>by
   have e:aT [] xs sl=sl:=by cases xs<;>rfl
   rw[e];exact⟨j,n⟩
 |p::f,[],vs,sl,tm,h,_,_,_,_=>Hl
 |p::f,x::xs,[],sl,tm,_,h,_,_,_=>Hl
 |p::f,x::xs,v::vs,sl,tm,z,I,u,j,n=>by
  refine aS5 f xs vs (sl.set p x) (tm.setIfInBounds p v) bf yD (fun i hi=>by simpa using u (i+1) Fj) Ny (fun t m=>?_);rw[iJ]at m;by_cases e:p=t
  ·subst e;have q:(sl.set p x).getD p .junk=x:=by simp[List.getD,m]
   have s:(tm.setIfInBounds p v).getD p undef=v:=by simp[Array.getD,j,m]
   rw[q,s];simpa using u 0 BU
  have q:(sl.set p x).getD t .junk=sl.getD t .junk:=aOZ
  have s:(tm.setIfInBounds p v).getD t undef=tm.getD t undef:=by simp[Gu,Js e]
  rw[q,s];exact n t m
end
def WX :Exit→Option (LoopState×Option Code)
 | .normal=>some (.ready,none)
 | .ret=>some (.done,some .ret)
 | .exit i=>some (.done,some (.exit i))
 |_=>none
section
variable {P : Program} {ops : Array Oper} {o : Oper} {rest l : List Oper} {σ : BL} {K : Exit → BL → Prop}
def aFB {h:Bo} {l:Nat} (e:h.v=.func (.yield l) #[] #[]):DX h.v=some l:=mJ
def DR.yield {f:Operand} {xs:Array Operand} {ts:Array TypeId} {tm:Array Value} {slots:List Ag} {rc:Array Tmp×Code×Code} (k:Nat) (eH:List Ag)
 (ho:o.op=.call { callee:=.value f,args:=xs,argTypes:=ts }) (hf:σ.get f=.mp k) (hk:σ.ents[k]? =some (.loop tm slots rc .ready none)) (hx:xs.toList.map σ.get=eH) (u:rc.1.size=xs.size)
 (hg:KJ ops σ o.guard=some true) (z:(Ou rc.2.1&&Ou rc.2.2)=true)
 (h:AB P rc.2.1 ⟨aT rc.1.toList eH slots,σ.ents,σ.ents.length⟩ fun e s=>e=.normal∧∃sl,s.ents[k]? =some (.loop tm sl rc .ready none)∧
  AB P rc.2.2 ⟨s.slots,s.ents.set k (.loop tm sl rc .busy none),s.base⟩ fun e s2=>∃q j,s2.ents[k]? =some (.loop tm q rc .busy none)∧WX e=some j∧
   DR P ops rest (BL.rG ⟨σ.slots,s2.ents.set k (.loop tm q rc j.1 j.2),σ.base⟩ o.dst (.d (.lit (.bool j.2.isNone)))) K):DR P ops (o::rest) σ K:=by
 rw[DJ]at z;refine⟨fun ro l2 Q C ok H a w n I=>?_⟩;show wpListIn (Io ro) 0 P ops Q (o::(rest++l2)) a w;unfold wpListIn;rw[D7 (Ox n (Ln hg))];have hv:=hf▸n.get f;obtain⟨hd,J,S⟩:=G7 n.mem.ent n.mem.hlen hk;obtain⟨l,fn,D,e1,e2,e3,e4⟩:=S
 have U:a.eval f=.func (.yield l) #[] #[]:=by
  cases hv with
  |mp _ v s hl hH=>
   rw[J]at hH;obtain rfl:=Cm hH;exact e1
 have Y:(execOp a.eval o).run P w=.ok (.round l fn ((rc.1.zip (xs.map a.eval)).foldl (fun tmps (t,a)=>tmps.setIfInBounds t a) tm) rc.2.1 rc.2.2) w:=by
  have :=run_yield (P:=P) e2 (args:=xs.map a.eval) ZA;simp[execOp,ho,resolve,U,Deferred.ofValue,invoke,this]
 unfold Oper.wpIn;rw[kE _ _ _ (by rw[ho];intro c h;cases h),Y,Oper.uponIn_round];refine⟨fun _ _=>trivial,fun h=>I4,roundIn_of_wpIn trivial ?_⟩
 have hT:(rc.1.zip (xs.map a.eval)).foldl (fun tmps (t,a)=>tmps.setIfInBounds t a) tm=(rc.1.toList.zip (xs.toList.map a.eval)).foldl (fun t p=>t.setIfInBounds p.1 p.2) tm:=by
  rw[←Array.foldl_toList,Array.toList_zip,Array.toList_map]
 rw[hT];have hpl:eH.length=rc.1.toList.length:=by rw[←hx];simp[u]
 obtain⟨p1,p2⟩:=aS5 (ok:=ok) (w:=w) (H:=H) rc.1.toList eH (xs.toList.map a.eval) slots tm hpl ZA (fun i hi=>by
  have hi':i<xs.toList.length:=by rw[←hx]at hi;simpa using hi
  have Z:i<xs.size:=by simpa using hi'
  have O:eH.getD i .junk=σ.get xs.toList[i]:=by rw[←hx];simp[List.getD,Z]
  have q2:(xs.toList.map a.eval).getD i undef=a.eval xs.toList[i]:=by simp[List.getD,Z]
  rw[O,q2];exact n.get _) e3 e4
 have hin:Holds (EI.now w ok σ.ents H) ok H ⟨aT rc.1.toList eH slots,σ.ents,σ.ents.length⟩ { tmps:=(rc.1.toList.zip (xs.toList.map a.eval)).foldl (fun t p=>t.setIfInBounds p.1 p.2) tm,defers:=[] } w:=
  ⟨n.mem.inner,p1,.nil _ _ _,n.mem.hlen,p2⟩
 show Code.wpIn (Io (some l)) 0 P _ _ _ _;refine U0 (h.run (some l) (.inr z.1) _ _ _ _ _ hin) ?_;rintro e a1 w1 ⟨ok1,H1,s1,m,rfl,sl,hs1,h2⟩;obtain⟨g1,n1,m1⟩:=n.mem.outer m.mem;have hk1:=n1 k hd J;obtain⟨l',fn',D',O,q2,q3,q4⟩:=m.mem.ent k _ hd hs1 hk1;have L:l'=l:=by rw[e1]at O;cases O;rfl
 subst L
 obtain⟨m2,g2⟩:=m.mem.ajr (o:=.loop { state:=.busy,pending:=none,fn:=fn',tmps:=tm,params:=rc.1,assign:=rc.2.1,body:=rc.2.2,defers:=D' }) (e':=.loop tm sl rc .busy none) hs1 rfl hk1 (aFB O)
  (fun g=>⟨l',fn',D',O,VP (Fq.1 q2).1,q3,fun t M=>(q4 t M).mono g (.refl _)⟩)
 refine⟨_,run_beginRound q2 rfl,?_⟩;refine U0 (h2.run (some l') (.inr z.2) _ _ _ _ _ ⟨m2,m.size,m.defers.mono g2,m.base,fun t M=>(m.slot t M).mono g2 (.refl _)⟩) ?_;rintro e a2 w3 ⟨ok2,H2,s2,hh2,q,j,hs2,hj,hL⟩;obtain⟨g3,n3,m3⟩:=n.mem.outer hh2.mem;have hk2:=n3 k hd J;obtain⟨l3,fn3,D3,r1,r2,r3,r4⟩:=hh2.mem.ent k _ hd hs2 hk2;have L:l3=l':=by rw[e1]at r1;cases r1;rfl
 subst L
 have key:j.1=(if j.2.isNone then LoopState.ready else .done)→∃v w',(Instr.endRound l3 j.2).run P w3=.ok v w'∧wpListIn (Io ro) 0 P ops Q (rest++l2) (a.put o.dst v) w':=by
  intro hst
  obtain⟨m4,g4⟩:=m3.ajr (o:=.loop { state:=(if j.2.isNone then LoopState.ready else .done),pending:=j.2,fn:=fn3,tmps:=tm,params:=rc.1,assign:=rc.2.1,body:=rc.2.2,defers:=D3 }) (e':=.loop tm q rc j.1 j.2) hs2 rfl hk2 (aFB r1)
   (fun g=>⟨l3,fn3,D3,r1,by rw[hst];exact VP (Fq.1 r2).1,r3,fun t M=>(r4 t M).mono g (.refl _)⟩)
  refine⟨_,_,run_endRound j.2 r2,hL.run ro l2 Q C _ _ _ _ (Holds.put (σ:=⟨σ.slots,s2.ents.set k (.loop tm q rc j.1 j.2),σ.base⟩) ⟨m4,n.size,n.defers.mono (g3.trans g4),n.base,fun t M=>(n.slot t M).mono (g3.trans g4) n3⟩ o.dst (.refl _ _) (.refl _) m4 (.d _ _ (.lit _))) I⟩
 cases e with
 |normal=>obtain rfl:=Cm hj;exact key rfl
 |ret=>obtain rfl:=Cm hj;exact key rfl
 |exit i=>obtain rfl:=Cm hj;exact key rfl
 |_=>cases hj
def AB.ax3 {Q:Exit→BL→Prop} {g:Operand} {M:Array Tmp} {assign body c:Code} {gf:FuncId} {fn:Func} (f:List Ag) (hg:∀(C:EI) (ok:Nat→Prop) (H:List Bo) (a:Act) (w:World),Holds C ok H σ a w→R ok w H (.fn (.func gf) [] f) (a.eval g)) (hf:P.funcs[gf]? =some fn) (he:Dt P gf=true) (u:fn.body=some c) (hres:fn.results= #[])
 (h:∀tm,AB P c ⟨(.mp σ.ents.length::f)++List.replicate (fn.ntmps-(f.length+1)) .junk,σ.ents++[.loop tm σ.slots (M,assign,body) .ready none],σ.ents.length+1⟩ fun e s=>(e=.normal∨e=.ret)∧
  ∃sl j x,s.ents[σ.ents.length]? =some (.loop tm sl (M,assign,body) j.1 j.2)∧WX x=some j∧Q x ⟨σ.slots,s.ents.set σ.ents.length .dead,σ.base⟩):AB P (.rangeFunc g M assign body) σ Q:=by
 refine⟨fun ro hr C ok H a w m=>?_⟩;obtain rfl:ro=none:=hr.resolve_right (by simp[Ou]);have hv:=hg C ok H a w m;generalize hav:a.eval g=v at hv;cases hv with
 |fn _ _ _ vs us hl1 hl2 h1 h2=>
  obtain rfl:vs= #[]:=Zf (by simpa using hl1);refine wpIn_rangeFunc ?_;intro fnm _;obtain⟨I,Z⟩:∃I:Loop,I={ state:=.ready,pending:=none,fn:=fnm,tmps:=a.tmps,params:=M,assign,body,defers:=w.heap.size }:=⟨_,rfl⟩
  obtain⟨q,z⟩:∃q,(w.alloc (.deferred (some []))).alloc (.loop I)=q:=⟨_,rfl⟩
  have hsz:q.heap.size=w.heap.size+2:=by rw[←z];simp
  have hL:q.heap[w.heap.size+1]? =some (.loop I):=by
   rw[←z];have :=kN (w.alloc (.deferred (some []))) (.loop I);rwa [aIB]at this
  have hD:q.heap[w.heap.size]? =some (.deferred (some [])):=by
   rw[←z];exact(JY _ _ _ BU).trans (kN w _)
  have hold:∀b,b<w.heap.size→q.heap[b]? =w.heap[b]? :=fun b u=>by
   rw[←z];exact(JY _ _ _ Dy).trans (JY _ _ _ u)
  have hos:q.os=w.os∧q.tape=w.tape∧q.output=w.output:=by rw[←z];exact⟨rfl,rfl,rfl⟩
  obtain⟨hd,hhd⟩:∃hd:Bo,hd=⟨.func (.yield (w.heap.size+1)) #[] #[],0⟩:=⟨_,rfl⟩
  have O:hd.v=.func (.yield (w.heap.size+1)) #[] #[]:=by rw[hhd]
  have hgr:EO ok w (fun b=>ok b∨b=w.heap.size) q:=fun b u=>⟨.inl u,hold b (m.mem.kL b u)⟩
  have hHn:(H++[hd])[σ.ents.length]? =some hd:=by rw[←m.mem.hlen];simp
  obtain⟨m2,g2⟩:=m.mem.change (ok':=fun b=>ok b∨b=w.heap.size) (H':=H++[hd]) (es':=σ.ents++[.loop a.tmps σ.slots (M,assign,body) .ready none]) (w':=q) (fun _=>False) hos.1 hos.2.1 hos.2.2 AA (fun b u _=>hold b u) (fun _ h=>h.elim)
   (fun _ h=>.inl h) (fun b u=>u.imp id fun h=>AA) (.push _ _) (by simp[m.mem.hlen]) (fun k e hk he S=>by
    rcases WG he with U|⟨rfl,rfl⟩
    ·left;have hkl:k<H.length:=by rw[m.mem.hlen];exact(FV.1 U).1
     rw[GH hkl]at S;exact⟨U,S,fun _ _ _ h=>h⟩
    right;rw[hHn]at S;obtain rfl:=Cm S;refine⟨⟨w.heap.size+1,fnm,w.heap.size,O,by rw[hL,Z],m.size,fun t ht=>(m.slot t ht).mono hgr (.push _ _)⟩,fun _ b u=>?_⟩;rw[aFB O]at u;obtain rfl:=Cm u;refine⟨fun hx=>?_,AA,.inl (by have :=m.mem.fr.size;omega),fun k' e' h' hne U hl' J hb'=>?_⟩
    ·rcases hx with hx|hx
     ·have :=m.mem.kL _ hx;omega
     omega
    rcases WG U with he2|⟨rfl,_⟩
    ·have hkl:k'<H.length:=by rw[m.mem.hlen];exact(FV.1 he2).1
     rw[GH hkl]at J;have :=(m.mem.blk k' e' h' _ he2 hl' J hb').2.1;omega
    exact hne rfl)
  have hargs:∀t,t<((.mp σ.ents.length::f)++List.replicate (fn.ntmps-(f.length+1)) .junk:List Ag).length→
   R (fun b=>ok b∨b=w.heap.size) q (H++[hd]) (((.mp σ.ents.length::f)++List.replicate (fn.ntmps-(f.length+1)) .junk:List Ag).getD t .junk)
     (((#[.func (.yield (w.heap.size+1)) #[] #[]]++us)++Array.replicate (fn.ntmps-(#[.func (.yield (w.heap.size+1)) #[] #[]]++us:Array Value).size) undef:Array Value).getD t undef):=by
   intro t ht;by_cases h0:t<f.length+1
   ·have q1:((.mp σ.ents.length::f)++List.replicate (fn.ntmps-(f.length+1)) .junk:List Ag).getD t .junk=(.mp σ.ents.length::f:List Ag).getD t .junk:=by
     simp only[List.getD];rw[GH (by simpa using h0)]
    have q2:((#[.func (.yield (w.heap.size+1)) #[] #[]]++us)++Array.replicate (fn.ntmps-(#[.func (.yield (w.heap.size+1)) #[] #[]]++us:Array Value).size) undef:Array Value).getD t undef=(#[.func (.yield (w.heap.size+1)) #[] #[]]++us:Array Value).getD t undef:=by
     simp only[Gu];rw[Xi Dy]
    rw[q1,q2];cases t with
    |zero=>
     have q3:(#[.func (.yield (w.heap.size+1)) #[] #[]]++us:Array Value).getD 0 undef=.func (.yield (w.heap.size+1)) #[] #[]:=by
      simp only[Gu];rw[Xi BU];rfl
     rw[q3];exact .mp _ _ 0 rfl (by rw[hHn,hhd])
    |succ t=>
     have q3:(#[.func (.yield (w.heap.size+1)) #[] #[]]++us:Array Value).getD (t+1) undef=us.getD t undef:=by
      simp only[Gu];rw[aHi BU];rfl
     rw[q3];simpa using(h2 t AA).mono hgr (.push _ _)
   have q1:((.mp σ.ents.length::f)++List.replicate (fn.ntmps-(f.length+1)) .junk:List Ag).getD t .junk=.junk:=by
    simp only[List.getD];rw[Jd Dy,aMi];split<;>rfl
   rw[q1];exact .junk _
  have hin:Holds (EI.now q (fun b=>ok b∨b=w.heap.size) (σ.ents++[.loop a.tmps σ.slots (M,assign,body) .ready none]) (H++[hd])) (fun b=>ok b∨b=w.heap.size) (H++[hd])
   ⟨(.mp σ.ents.length::f)++List.replicate (fn.ntmps-(f.length+1)) .junk,σ.ents++[.loop a.tmps σ.slots (M,assign,body) .ready none],σ.ents.length+1⟩
   { tmps:=(#[.func (.yield (w.heap.size+1)) #[] #[]]++us)++Array.replicate (fn.ntmps-(#[.func (.yield (w.heap.size+1)) #[] #[]]++us:Array Value).size) undef,defers:=[] } q:=
   ⟨m2.inner,by simp[hl2];omega,.nil _ _ _,by simp[EI.now,m.mem.hlen],hargs⟩
  refine⟨w.heap.size+1,[{ target:=.collected w.heap.size,args:= #[] }],q,{ target:=.fn (.func gf) us,args:= #[.func (.yield (w.heap.size+1)) #[] #[]] },q,gf, #[.func (.yield (w.heap.size+1)) #[] #[]]++us,q,?_,?_,fun _ _=>trivial,?_,fun h=>I4,?_⟩
  ·rw[←z,Z];exact run_enterLoop_outer _ _ _ _ _
  ·have e9:a.eval (.const (.func (.yield (w.heap.size+1)) #[] #[]))=.func (.yield (w.heap.size+1)) #[] #[]:=rfl;simp[resolve,hav,Deferred.ofValue,e9]
  ·have :=TP he (#[.func (.yield (w.heap.size+1)) #[] #[]]++us) q;simpa[invoke]using this
  refine aKm hf u trivial (U0 ((h a.tmps).run none (.inl rfl) _ _ _ _ _ hin) ?_) rfl;rintro e a' w' ⟨ok',H',s,J,hee,sl,j,x,hs,Y,hQ⟩;obtain⟨Ds,hDs,hnd,hds⟩:=J.defers
  have key:LeavesInM (Io none) 0 P fn a'.tmps (rangePost (Io none) 0 P (w.heap.size+1) (fun e a' w'=>∃ok' H' σ',Holds C ok' H' σ' a' w'∧Q e σ') { a with defers:=[{ target:=.collected w.heap.size,args:= #[] }]++a.defers }) a'.defers .returning w':=by
   rw[hDs];refine aId (P:=P) (C:=EI.now q (fun b=>ok b∨b=w.heap.size) (σ.ents++[.loop a.tmps σ.slots (M,assign,body) .ready none]) (H++[hd])) m2.kL (fun ok3 a3 w3 h3=>?_) Ds J hds hnd;refine⟨.tuple #[],by simp[results,hres],?_⟩;obtain⟨g3,n3,m3⟩:=m2.outer h3.mem;have hk3:=n3 _ hd hHn;obtain⟨l3,fn3,D3,r1,r2,r3,r4⟩:=h3.mem.ent _ _ hd hs hk3;have hll:l3=w.heap.size+1:=by rw[O]at r1;cases r1;rfl
   subst hll
   have hnb:j.1≠ .busy:=by
    cases x<;>simp[WX]at Y<;>rw[←Y]<;>simp
   obtain⟨m4,g4⟩:=m3.ajr (o:=.loop { state:=.exhausted,pending:=j.2,fn:=fn3,tmps:=a.tmps,params:=M,assign:=assign,body:=body,defers:=D3 }) (e':=.dead) hs rfl hk3 (aFB O) (fun _=>trivial);have L:=(g2.trans g3).trans g4
   have n:Holds C ok3 H' ⟨σ.slots,s.ents.set σ.ents.length .dead,σ.base⟩ { a with defers:=[{ target:=.collected w.heap.size,args:= #[] }]++a.defers }
    (w3.putObj (w.heap.size+1) (.loop { state:=.exhausted,pending:=j.2,fn:=fn3,tmps:=a.tmps,params:=M,assign:=assign,body:=body,defers:=D3 })):=by
    refine⟨m4,m.size,?_,m.base,fun t ht=>(m.slot t ht).mono L ((Names.push _ _).trans n3)⟩;obtain⟨Es,q1,q2,q3⟩:=m.defers.mono L;obtain⟨Fs,p1,p2,p3⟩:=m.defers
    have hEF:Es=Fs:=by
     have :=q1.symm.trans p1;exact(List.map_inj_right (fun a b h=>JB)).1 this
    subst hEF;refine⟨w.heap.size::Es,by simp[q1],NC.2 ⟨fun hm=>?_,q2⟩,fun D hDm=>?_⟩
    ·have :=m.mem.kL _ (p3 _ hm).1;omega
    rcases F6.1 hDm with rfl|hDm
    ·have hok2:(fun b=>ok b∨b=w.heap.size) w.heap.size:=.inr rfl;have q4:=(g3.trans g4) _ hok2;exact⟨q4.1,m.mem.fr.size,q4.2.trans hD⟩
    exact q3 D hDm
   refine⟨j.2,_,run_endLoop r2 hnb,?_⟩;cases x with
   |normal=>simp[WX]at Y;rw[←Y]at n ⊢;exact⟨_,_,_,n,hQ⟩
   |ret=>simp[WX]at Y;rw[←Y]at n ⊢;exact wpIn_ret ⟨_,_,_,n,hQ⟩
   |exit i=>simp[WX]at Y;rw[←Y]at n ⊢;exact wpIn_exit ⟨_,_,_,n,hQ⟩
   |_=>cases Y
  rcases hee with rfl|rfl
  ·exact key
  exact key
def AB.rangeFunc {Q:Exit→BL→Prop} {g:Operand} {n:Array Tmp} {assign body c:Code} {q:FuncId} {fn:Func} (f:List Ag) (u:σ.get g=.fn (.func q) [] f) (z:P.funcs[q]? =some fn) (I:Dt P q=true) (J:fn.body=some c) (m:fn.results= #[])
 (h:∀tm,AB P c ⟨(.mp σ.ents.length::f)++List.replicate (fn.ntmps-(f.length+1)) .junk,σ.ents++[.loop tm σ.slots (n,assign,body) .ready none],σ.ents.length+1⟩ fun e s=>(e=.normal∨e=.ret)∧
  ∃sl j x,s.ents[σ.ents.length]? =some (.loop tm sl (n,assign,body) j.1 j.2)∧WX x=some j∧Q x ⟨σ.slots,s.ents.set σ.ents.length .dead,σ.base⟩):AB P (.rangeFunc g n assign body) σ Q:=
 AB.ax3 f (fun _ _ _ _ _ L=>u▸L.get g) z I J m h
def AB.amk {Q:Exit→BL→Prop} {g:Operand} {m:Array Tmp} {assign body c:Code} {n:FuncId} {fn:Func} (cs:List D) (q:σ.get g=.d (.fn (.func n) [] cs)) (u:P.funcs[n]? =some fn) (z:Dt P n=true) (I:fn.body=some c) (f:fn.results= #[])
 (h:∀tm,AB P c ⟨(.mp σ.ents.length::cs.map .d)++List.replicate (fn.ntmps-((cs.map Ag.d).length+1)) .junk,σ.ents++[.loop tm σ.slots (m,assign,body) .ready none],σ.ents.length+1⟩ fun e s=>(e=.normal∨e=.ret)∧
  ∃sl j x,s.ents[σ.ents.length]? =some (.loop tm sl (m,assign,body) j.1 j.2)∧WX x=some j∧Q x ⟨σ.slots,s.ents.set σ.ents.length .dead,σ.base⟩):AB P (.rangeFunc g m assign body) σ Q:=
 AB.ax3 (cs.map .d) (fun _ _ _ _ _ J=>R.dfn (q▸J.get g)) u z I f h
end
def asK :Code→Nat→Code
 | .seq a b,i=>if i=0 then a else b
 | .cond _ a b,i=>if i=0 then a else b
 | .block _ a,_=>a
 | .loop a,_=>a
 | .scope a,_=>a
 | .rangeFunc _ _ a b,i=>if i=0 then a else b
 |c,_=>c
def aAQ (c:Option Code) (p:List Nat):Array Tmp×Code×Code:=
 match p.foldl asK (c.getD .skip)with
 | .rangeFunc _ f a b=>(f,a,b)
 |_=>(#[],.skip,.skip)
section
variable {K V : Type} [BEq K]
def CX :List (K×V)→K→Option V
 | [],_=>none
 |p::l,k=>bif k==p.1 then some p.2 else CX l k
def Dl :List (K×V)→K→V→List (K×V)
 | [],k,v=>[(k,v)]
 |p::l,k,v=>bif k==p.1 then(k,v)::l else p::Dl l k v
def BJ (ek:K→Value) (ev:V→D) (p:K×V):Value×D:=(ek p.1,ev p.2)
structure KeyTy (P:Program) (t:TypeId) (ek:K→Value):Prop where
 same:∃kd,P.underlying t=some kd∧∀a b,Instr.sameNow kd (ek a) (ek b)=some (a==b)
 check:∀e a w,(Instr.checkKey e 10000 t (ek a)).run P w=.ok () w
 eq:∀a b:K,(a==b)=true→a=b
 bits:∀a,Instr.sameBits 10000 (ek a) (ek a)=true
def asQ {P:Program} {t:TypeId} {k:IntKind} (h:P.underlying t=some (.int k)):KeyTy P t (fun n:Int=>Value.int k n):=by
 refine⟨⟨_,h,fun a b=>by simp[Instr.sameNow]⟩,fun e a w=>?_,fun a b h=>JB,fun a=>?_⟩
 ·have :∀n,(Instr.checkKey e (n+1) t (.int k a)).run P w=.ok () w:=fun n=>by simp[Instr.checkKey,underlying,h]
  exact this 9999
 unfold Instr.sameBits;simp
def yJ {ek:K→Value} {kd:TypeDesc} (n:∀a b,Instr.sameNow kd (ek a) (ek b)=some (a==b)) (k:K) (v:V):∀(m:List (K×V)) (l:List MapEntry) (i:Nat),l.map (·.key)=m.map (fun p=>ek p.1)→
 (Instr.findNow kd (ek k) l i=some none∧CX m k=none∧Dl m k v=m++[(k,v)])∨
 ∃j e p,Instr.findNow kd (ek k) l i=some (some (i+j,e.val))∧l[j]? =some e∧m[j]? =some p∧CX m k=some p.2∧(k==p.1)=true∧Dl m k v=m.set j (k,v)
 | [],[],_,_=>.inl ⟨rfl,rfl,rfl⟩
 | [],_::_,_,h=>Hl
 |_::_,[],_,h=>Hl
 |p::m,e::l,i,h=>by
  simp only[Ko,aKJ]at h;cases f:(k==p.1)with
  |true=>
   refine .inr ⟨0,e,p,?_,rfl,rfl,?_,f,?_⟩
   ·simp[Instr.findNow,h.1,n,f]
   ·simp[CX,f]
   simp[Dl,f]
  |false=>
   rcases yJ n k v m l (i+1) h.2 with⟨q,s,u⟩|⟨j,e',z,q,s,u,I,J,L⟩
   ·refine .inl ⟨?_,?_,?_⟩
    ·simp[Instr.findNow,h.1,n,f,q]
    ·simp[CX,f,s]
    simp[Dl,f,u]
   refine .inr ⟨j+1,e',z,?_,P6,Rh,?_,J,?_⟩
   ·simp[Instr.findNow,h.1,n,f,q];omega
   ·simp[CX,f,I]
   simp[Dl,f,L]
end
section
variable {ok : Nat → Prop} {w : World} {es : List (Value × D)} {ms : Array MapEntry} {clock : Nat}
def KI.push (h:KI ok w es ms clock) {k v:Value} {x:D} (J:Du ok w x v):KI ok w (es++[(k,x)]) (ms.push { key:=k,val:=v,born:=clock }) (clock+1):=by
 have f:∀(i:Nat) (m:MapEntry),(ms.push { key:=k,val:=v,born:=clock })[i]? =some m→ms[i]? =some m∨(i=ms.size∧m={ key:=k,val:=v,born:=clock }):=fun i m q=>by
  rw[aIZ]at q;split at q
  ·rename_i e;exact .inr ⟨e,(Cm q).symm⟩
  exact .inl q
 refine⟨by simp[h.len],fun i e m u q=>?_,fun i j m n z q L=>?_⟩
 ·rcases f i m q with s|⟨rfl,rfl⟩
  ·have hi:i<es.length:=by rw[←h.len];exact(Fq.1 s).1
   rw[GH hi]at u;obtain⟨M,O,S⟩:=h.ent i e m u s;exact⟨M,O,Nat.lt_succ_of_lt S⟩
  rw[h.len]at u;simp at u;subst u;exact⟨rfl,J,XZ _⟩
 rcases f i m q with s|⟨rfl,rfl⟩<;>rcases f j n L with I|⟨rfl,rfl⟩
 ·exact h.inc i j m n z s I
 ·have hi:i<es.length:=by rw[←h.len];exact(Fq.1 s).1
  exact(h.ent i es[i] m QE s).2.2
 ·have :=(Fq.1 I).1;omega
 omega
def KI.modify (h:KI ok w es ms clock) {k v:Value} {x:D} (U:Du ok w x v) (j:Nat):KI ok w (es.set j (k,x)) (ms.modify j fun e=>{ e with key:=k,val:=v }) clock:=by
 have f:∀(i:Nat) (m:MapEntry),(ms.modify j fun e=>{ e with key:=k,val:=v })[i]? =some m→∃s,ms[i]? =some s∧m.born=s.born∧(i≠j→m=s)∧(i=j→m.key=k∧m.val=v):=fun i m u=>by
  rw[OC]at u;split at u
  ·rename_i e;rw[Td]at u;obtain⟨s,z,rfl⟩:=u;exact⟨s,z,rfl,fun q=>absurd e.symm q,fun _=>⟨rfl,rfl⟩⟩
  rename_i e;exact⟨m,u,rfl,fun _=>rfl,fun q=>absurd q.symm e⟩
 refine⟨by simp[h.len],fun i e m I u=>?_,fun i O m n J u Y=>?_⟩
 ·obtain⟨s,z,L,Z,S⟩:=f i m u;have hi:i<es.length:=by rw[←h.len];exact(Fq.1 z).1
  obtain⟨q1,q2,q3⟩:=h.ent i es[i] s QE z;by_cases M:i=j
  ·subst M;simp[hi]at I;subst I;exact⟨(S rfl).1,by rw[(S rfl).2];exact U,by rw[L];exact q3⟩
  rw[WY (fun q=>M q.symm)]at I;rw[Z M];exact h.ent i e s I z
 obtain⟨s,z,L,_⟩:=f i m u;obtain⟨n0,g1,g2,_⟩:=f O n Y;rw[L,g2];exact h.inc i O s n0 J z g1
def KI.mono {ok':Nat→Prop} {w':World} (h:KI ok w es ms clock) (n:EO ok w ok' w'):KI ok' w' es ms clock:=⟨h.len,fun i e m f j=>⟨(h.ent i e m f j).1,(h.ent i e m f j).2.1.mono n,(h.ent i e m f j).2.2⟩,h.inc⟩
def KI.keys (h:KI ok w es ms clock):ms.toList.map (·.key)=es.map (·.1):=by
 apply ng
 ·simp[h.len]
 intro i f j;simp at f j;have :=(h.ent i es[i] ms[i] (by simp[j]) Vk).1;simpa using this
end
def Y5 :Value→D
 | .agg vs=>.agg (vs.toList.map OT)
 |v=>OT v
def adY {ok:Nat→Prop} {w:World} {z:Value} (h:z.cells.all (·.oneCell')=true):Du ok w (Y5 z) z:=by
 unfold Y5;split
 ·rename_i vs;refine .agg _ vs BU (fun i hi=>?_) (fun i hi=>?_)
  ·simp at hi;have e:(vs.toList.map OT).getD i Dp=OT vs[i]:=Le
   rw[e];exact uY ((QF.1 h) _ (by simp[Value.cells]))
  simp at hi;have e:(vs.toList.map OT).getD i Dp=OT vs[i]:=Le
  have f:vs.getD i undef=vs[i]:=by simp[Array.getD,hi]
  rw[e,f];exact dW _
 exact dW _
section
variable {P : Program} {o : Oper} {es : List BQ} {K V : Type} [BEq K]
def SI {ok:Nat→Prop} {w:World} {H:List Bo} {k:Nat} {v:Value} {h:Bo} (j:R ok w H (.mp k) v) (m:H[k]? =some h):v=h.v:=by
 cases j with
 |mp _ _ s n f=>
  rw[m]at f;cases f;rfl
def aCd {t:TypeId} (q:o.op=.makeMap t none):Bq P o [] es (.mp es.length) (es++[.map []]):=
 .eff fun C ok H a w f J=>by
  have h:Em ok (w.alloc (.map #[] 0)) (H++[⟨.map (some w.heap.size),0⟩]) ⟨.map (some w.heap.size),0⟩ (.map []):=
   ⟨w.heap.size, #[],0,rfl,(aNB w _).1,⟨rfl,fun i e m s=>mW,fun i j m n _ f=>UF⟩⟩
  obtain⟨u,z⟩:=f.push (.map #[] 0) ⟨.map (some w.heap.size),0⟩ _ (fun b h=>aOP) h;refine⟨.map (some w.heap.size),_,ok,_,.inl ?_,z,Names.push _ _,u,.mp _ _ 0 rfl aEx⟩;have I:(newObj (.map #[] 0)).run P w=.ok w.heap.size (w.alloc (.map #[] 0)):=rfl;simp[execOp,q,Instr.makeMap,I]
def aoE {t k e:TypeId} {x:Operand} {kd:IntKind} {n:Int} (s:P.underlying t=some (.map k e)) (u:o.op=.makeMap t (some x)):Bq P o [(x,.d (.lit (.int kd n)))] es (.mp es.length) (es++[.map []]):=
 .eff fun C ok H a w f z=>by
  have h:Em ok (w.alloc (.map #[] 0)) (H++[⟨.map (some w.heap.size),0⟩]) ⟨.map (some w.heap.size),0⟩ (.map []):=
   ⟨w.heap.size, #[],0,rfl,(aNB w _).1,⟨rfl,fun i e m I=>by simp at I,fun i j m n _ f=>UF⟩⟩
  obtain⟨J,L⟩:=f.push (.map #[] 0) ⟨.map (some w.heap.size),0⟩ _ (fun b h=>aOP) h;have q:=(Ju z).lit;simp only at q;refine⟨.map (some w.heap.size),_,ok,_,.inl ?_,L,Names.push _ _,J,.mp _ _ 0 rfl aEx⟩;have M:(newObj (.map #[] 0)).run P w=.ok w.heap.size (w.alloc (.map #[] 0)):=rfl;simp[execOp,u,Instr.makeMap,M,q,asInt,asIntOf,underlying,s]
def aBi {t M O:TypeId} {ek:K→Value} (ev:V→D) {q:V} {z:Value} {m:List (K×V)} {key:K} {ok:Nat→Prop} {w:World} {b:Nat} {ms:Array MapEntry} {clock:Nat} (S:P.underlying t=some (.map M O)) (U:KeyTy P M ek) (hz:(P.info? O).bind (·.zero)=some z) (s:Y5 z=ev q)
 (u:z.cells.all (·.oneCell')=true) (Y:w.heap[b]? =some (.map ms clock)) (Z:KI ok w (m.map (BJ ek ev)) ms clock) (c:Bool):
 ∃v,(Instr.lookup t (.map (some b)) (ek key) c).run P w=.ok (if c then .tuple #[v,.bool (CX m key).isSome]else v) w∧Du ok w (ev ((CX m key).getD q)) v:=by
 obtain⟨kd,f,hs⟩:=U.same;have I:ms.toList.map (·.key)=m.map (fun p=>ek p.1):=by rw[Z.keys];simp[BJ,wG]
 have h:=U.check;obtain⟨i,hi,J⟩:=bY.1 hz;rcases yJ (i:=0) hs key q m ms.toList I with⟨L,n,_⟩|⟨j,e,p,L,n,h3,h4,_⟩
 ·refine⟨z,?_,?_⟩
  ·rw[n];simp[Instr.lookup,underlying,S,Qa Y,h,Instr.findKey,f,L,zeroValue,typeInfo,hi,J]
  rw[n];have :=adY (ok:=ok) (w:=w) u;rw[s]at this;exact this
 refine⟨e.val,?_,?_⟩
 ·rw[h4];simp[Instr.lookup,underlying,S,Qa Y,h,Instr.findKey,f,L]
 rw[h4];have h5:(m.map (BJ ek ev))[j]? =some (BJ ek ev p):=by rw[J9,h3];rfl
 exact(Z.ent j _ e h5 Nj).2.1
def Z9 {t q s:TypeId} {x y:Operand} {k:Nat} {ek:K→Value} (ev:V→D) (u:V) {z:Value} {m:List (K×V)} {key:K} (M:P.underlying t=some (.map q s)) (O:KeyTy P q ek) (S:(P.info? s).bind (·.zero)=some z) (h:Y5 z=ev u) (j:z.cells.all (·.oneCell')=true)
 (U:es[k]? =some (.map (m.map (BJ ek ev)))) (Y:o.op=.lookup t x y false):Bq P o [(x,.mp k),(y,.d (.lit (ek key)))] es (.d (ev ((CX m key).getD u))) es:=
 .pure fun ok H a w f Z I=>by
  obtain⟨hd,hh,n⟩:=G7 f Z U;obtain⟨b,ms,clock,h1,h2,h3⟩:=n;have J:=SI (Ee I).1 hh;have L:=(Ee I).2.lit;simp only at J L;obtain⟨v,hr,hv⟩:=aBi (key:=key) ev M O S h j h2 h3 false;refine⟨v,?_,.d _ _ hv⟩;simp[execOp,Y,J,L,h1,hr]
def aEm {t q s:TypeId} {x y:Operand} {k:Nat} {ek:K→Value} (ev:V→D) (u:V) {z:Value} {m:List (K×V)} {key:K} (M:P.underlying t=some (.map q s)) (O:KeyTy P q ek) (S:(P.info? s).bind (·.zero)=some z) (h:Y5 z=ev u) (j:z.cells.all (·.oneCell')=true)
 (U:es[k]? =some (.map (m.map (BJ ek ev)))) (Y:o.op=.lookup t x y true):Bq P o [(x,.mp k),(y,.d (.lit (ek key)))] es (.fP [.d (ev ((CX m key).getD u)),.d (DT (CX m key).isSome)]) es:=
 .pure fun ok H a w f Z I=>by
  obtain⟨hd,hh,n⟩:=G7 f Z U;obtain⟨b,ms,clock,h1,h2,h3⟩:=n;have J:=SI (Ee I).1 hh;have L:=(Ee I).2.lit;simp only at J L;obtain⟨v,hr,hv⟩:=aBi (key:=key) ev M O S h j h2 h3 true;refine⟨.tuple #[v,.bool (CX m key).isSome],?_,.fP _ _ rfl fun i hi=>?_⟩
  ·simp[execOp,Y,J,L,h1,hr]
  match i,hi with
  |0,_=>exact .d _ _ hv
  |1,_=>exact .d _ _ (.lit _)
def aKF {C:EI} {ok:Nat→Prop} {H:List Bo} {w:World} (q:D5 C ok H es w) {k:Nat} {es0 j:List (Value×D)} {b clock f:Nat} {ms h:Array MapEntry} {hd:Bo} (s:es[k]? =some (.map es0)) (u:H[k]? =some hd) (m:hd.v=.map (some b)) (n:w.heap[b]? =some (.map ms clock))
 (z:KI ok w j h f):(setObj b (.map h f)).run P w=.ok () (w.putObj b (.map h f))∧D5 C ok H (es.set k (.map j)) (w.putObj b (.map h f))∧EO ok w ok (w.putObj b (.map h f)):=by
 refine⟨by simp[setObj,Sem.run,n,World.putObj],q.ajr s rfl u (by rw[m];rfl) fun I=>⟨b,h,f,m,VP (Fq.1 n).1,z.mono I⟩⟩
def pS {t kt vt:TypeId} {x y u:Operand} {k:Nat} {ek:K→Value} (ev:V→D) {m:List (K×V)} {key:K} {val:V} (ht:P.underlying t=some (.map kt vt)) (s:KeyTy P kt ek) (M:es[k]? =some (.map (m.map (BJ ek ev)))) (ho:o.op=.mapUpdate t x y u):
 Bq P o [(x,.mp k),(y,.d (.lit (ek key))),(u,.d (ev val))] es .junk (es.set k (.map ((Dl m key val).map (BJ ek ev)))):=
 .eff fun C ok H a w z O=>by
  obtain⟨hd,S,U⟩:=G7 z.ent z.hlen M;obtain⟨b,ms,clock,I,J,L⟩:=U;have Y:=SI (O (x,.mp k) BU) S;have Z:=(O (y,.d (.lit (ek key))) BU).lit;have hu:Du ok w (ev val) (a.eval u):=by have :=O (u,.d (ev val)) BU;cases this with |d _ _ h=>exact h
  simp only at Y Z;obtain⟨kd,f,hs⟩:=s.same;have hks:ms.toList.map (·.key)=m.map (fun p=>ek p.1):=by rw[L.keys];simp[BJ,wG]
  have n:=s.check;rcases yJ (i:=0) hs key val m ms.toList hks with⟨q1,_,q3⟩|⟨j,e,p,q1,q2,q3,_,q5,q6⟩
  ·have hM:=L.push (k:=ek key) hu;obtain⟨r1,r2,r3⟩:=aKF (P:=P) z M S I J hM;refine⟨undef,_,ok,H,.inr ⟨rfl,?_⟩,r3,.refl _,?_,.junk _⟩
   ·simp[execOp,ho,Y,Z,I,Instr.mapUpdate,underlying,ht,Qa J,n,Instr.findKey,f,q1,r1]
   rw[q3,Jo];exact r2
  have hM:=L.modify (k:=ek key) hu j;obtain⟨r1,r2,r3⟩:=aKF (P:=P) z M S I J hM
  have q:e.key=ek key:=by
   have h5:(m.map (BJ ek ev))[j]? =some (BJ ek ev p):=by rw[J9,q3];rfl
   rw[(L.ent j _ e h5 lM).1,s.eq _ _ q5];rfl
  have hst:∀w,(Instr.keyThatStays (ek key) (ek key)).run P w=.ok (ek key) w:=fun w=>by simp[Instr.keyThatStays,s.bits]
  have hms:ms[j]? =some e:=lM
  refine⟨undef,_,ok,H,.inr ⟨rfl,?_⟩,r3,.refl _,?_,.junk _⟩
  ·simp[execOp,ho,Y,Z,I,Instr.mapUpdate,underlying,ht,Qa J,n,Instr.findKey,f,q1,hms,q,hst,r1]
  rw[q6,aAG];exact r2
def an6 {t J L:TypeId} {x:Operand} {k:Nat} {es0:List (Value×D)} (M:P.underlying t=some (.map J L)) (h:es[k]? =some (.map es0)) (O:o.op=.call { callee:=.builtin .clear,args:= #[x],argTypes:= #[t] }):
 Bq P o [(x,.mp k)] es .junk (es.set k (.map [])):=
 .eff fun C ok H a w f S=>by
  obtain⟨hd,s,q⟩:=G7 f.ent f.hlen h;obtain⟨b,ms,clock,u,z,h3⟩:=q;have I:=SI (S (x,.mp k) BU) s;simp only at I;have U:KI ok w [] #[] clock:=⟨rfl,fun i e m h=>Hl,fun i j m n _ f=>UF⟩
  obtain⟨Y,Z,r3⟩:=aKF (P:=P) f h s u z U;refine⟨.tuple #[],_,ok,H,.inl ?_,r3,.refl _,Z,.junk _⟩;simp[execOp,O,resolve,invoke,builtin,Builtin.clear_,I,u,underlying,M,Qa z,Y]
def ar0 {t m q:TypeId} {x:Operand} {k:Nat} {es0:List (Value×D)} {n:Nat} (s:es0.length=n) (u:P.underlying t=some (.map m q)) (z:es[k]? =some (.map es0)) (I:o.op=.call { callee:=.builtin .len,args:= #[x],argTypes:= #[t] }):
 Bq P o [(x,.mp k)] es (.d (AZ n)) es:=
 .pure fun ok H a w f hlen J=>by
  obtain⟨hd,L,h⟩:=G7 f hlen z;obtain⟨b,ms,clock,M,O,S⟩:=h;have j:=SI (J (x,.mp k) BU) L;simp only at j;refine⟨goInt es0.length,?_,by rw[s];exact .d _ _ (.lit _)⟩;simp[execOp,I,resolve,invoke,builtin,Builtin.len_,j,M,underlying,u,Qa O,S.len]
end
def aDm {ok:Nat→Prop} {w:World} {H:List Bo} {xs ys:List Ag} {vs us:List Value} (h:FZ ok w H xs vs) (k:FZ ok w H ys us):FZ ok w H (xs++ys) (vs++us):=by
 refine⟨by rw[EL,EL,h.1,k.1],fun i hi=>?_⟩;by_cases f:i<xs.length
 ·have j:(xs++ys).getD i .junk=xs.getD i .junk:=by simp[List.getD,GH f]
  have m:(vs++us).getD i undef=vs.getD i undef:=by simp[List.getD,GH (by rw[h.1];exact f:i<vs.length)]
  rw[j,m];exact h.2 i f
 have n:i-xs.length<ys.length:=aMz
 have j:(xs++ys).getD i .junk=ys.getD (i-xs.length) .junk:=by simp[List.getD,Jd (Tq f)]
 have m:(vs++us).getD i undef=us.getD (i-xs.length) undef:=by simp[List.getD,Jd (by rw[h.1];omega:vs.length≤i),h.1]
 rw[j,m];exact k.2 _ n
def D5.aAU {C:EI} {ok:Nat→Prop} {H:List Bo} {es:List BQ} {w w':World} (f:D5 C ok H es w) {v':Value} {size:Nat} {e:BQ} (q:w.grownBy w' none) (s:∀g,DX v'=some g→w.heap.size≤g∧g<w'.heap.size)
 (Z:EO ok w ok w'→Em ok w' (H++[⟨v',size⟩]) ⟨v',size⟩ e):D5 C ok (H++[⟨v',size⟩]) (es++[e]) w'∧EO ok w ok w':=by
 have g0:EO ok w ok w':=fun b s=>⟨s,q.block b (f.kL b s) BU⟩
 refine f.change (fun _=>False) q.os q.tape q.output q.size (fun b s _=>q.block b s BU) (fun _ h=>h.elim) (fun _ h=>h) (fun _ h=>.inl h) (Names.push _ _) (by simp[f.hlen]) ?_;intro k e' h' I m;rcases WG I with z|⟨z,h2⟩
 ·left;refine⟨z,?_,fun _ _ _ h=>h⟩;have J:k<H.length:=by rw[f.hlen];exact(FV.1 z).1
  rwa [GH J]at m
 subst h2;have J:k=H.length:=by rw[f.hlen];exact z
 subst J;simp at m;subst m;refine .inr ⟨Z g0,fun _ b L=>?_⟩;obtain⟨q1,q2⟩:=s b L;refine⟨fun n=>absurd (f.kL _ n) AA,q2,.inl (Ej f.fr.size q1),fun k' M O S U hl j u=>?_⟩;rcases WG U with n|⟨n,_⟩
 ·have Y:k'<H.length:=by rw[f.hlen];exact(FV.1 n).1
  rw[GH Y]at j;exact absurd (f.blk k' M O _ n hl j u).2.1 AA
 rw[←f.hlen]at n;exact S n
section
variable {P : Program} {o : Oper} {es es' : List BQ}
def Bq.thaw {ns:List (Operand×Ag)} {k e s:Nat} {xs:List D} (h:Bq P o ns es (.aO k) es') (u:es'[k]? =some (.arr e s xs)):Bq P o ns es (.d (.sl xs)) (es'.set k .dead):=by
 intro C ok H a w Q z I;refine Oper.wp_mono ?_ (h C ok H a w Q z I);rintro a' w' ⟨v,ok',H',rfl,J,j,f,L⟩
 have m:Holds (EI.now w' ok' es' H') ok' H' ⟨[.aO k],es',H'.length⟩ { tmps:= #[v],defers:=[] } w':=⟨f.inner,rfl,.nil _ _ _,rfl,fun t M=>by
  match t,M with
  |0,_=>exact L⟩
 obtain⟨n,q⟩:=Ic k u _ _ _ _ _ m;obtain⟨O,_,S⟩:=f.outer q.mem;refine⟨v,n,H',rfl,J.trans O,j,S,?_⟩;have :=q.slot 0 (by simp[BL.thaw]);simpa[BL.thaw,Ag.thaw]using this
def Du.aDQ {ok:Nat→Prop} {w:World} {xs:List D} {ad:Option Addr} {n cap f:Nat} (h:Du ok w (.sl xs) (.slice ad n cap)) (s:xs.length≤f):Du ok w (.sl xs) (.slice ad n f):=by
 cases h with
 |sl0 _ _=>exact .sl0 _ _
 |sl _ b off _ size q m u z I j=>exact .sl xs b off f size s m u z I j
def aTq {t e:TypeId} {agg:Bool} {size n cap m:Nat} {ad:Option Addr} {w:World} (h:P.underlying t=some (.slice e)) (j:EC P e agg size) (f:m≤cap):
 (Instr.slice t (.slice ad n cap) none (some (.int .i64 m)) (some (.int .i64 m))).run P w=.ok (.slice (if m=0 then ad else ad.map (·.add 0)) m m) w:=by
 have q:(underlying t).run P w=.ok (.slice e) w:=aJJ
 have s:((m:Int)≤(cap:Int)):=Int.ofNat_le.2 f;simp[Instr.slice,q,Instr.sliceBounds,Instr.sliceBound,asIntOf,s,f,j.size]
def aLC {α:Type} {t e:TypeId} {agg:Bool} {size:Nat} {x y z:Operand} {h:Int} (enc:α→D) {xs r:List α} (hr:Gy xs 0 h=some r) (U:P.underlying t=some (.slice e)) (hT:EC P e agg size) (hc:∀a,(enc a).cells.length=size)
 (ho:o.op=.slice t x none (some y) (some z)):Bq P o [(x,.d (Au enc xs)),(y,.d (AZ h)),(z,.d (AZ h))] es (.clip (r.map enc)) es:=
 .pure fun ok H a w _ _ L=>by
  obtain⟨⟨_,h1,h2⟩,rfl⟩:=aPO hr;have M:=L (x,.d (Au enc xs)) BU;have J:=(L (y,.d (AZ h)) BU).lit;have Y:=(L (z,.d (AZ h)) BU).lit;simp only at M J Y;generalize Z:a.eval x=v at M;have s:Du ok w (.sl (xs.map enc)) v:=by cases M with |d _ _ h=>exact h
  have u:∃ad cap,v=.slice ad (xs.map enc).length cap∧(xs.map enc).length≤cap:=by
   generalize hys:xs.map enc=ys at s;cases s with
   |sl0 ad cap=>exact⟨ad,cap,rfl,EY _⟩
   |sl _ b off cap size f=>exact⟨_,cap,rfl,f⟩
  obtain⟨ad,cap,rfl,f⟩:=u
  have hlen:(List.map enc ((xs.drop 0).take (h.toNat-0))).length=h.toNat:=by
   rw[D6,Fa,pF];omega
  have q:=aTq (P:=P) (n:=xs.length) (ad:=ad) (w:=w) U hT (m:=h.toNat) (cap:=cap) (by rw[D6]at f;omega);have O:((h.toNat:Nat):Int)=h:=AA
  rw[O]at q;refine⟨.slice (if h.toNat=0 then ad else ad.map (·.add 0)) h.toNat h.toNat,?_,?_⟩
  ·rw[D6]at Z;simp only[execOp,ho,Option.map_none,IB,Z,J,Y,Instr.sliceAt];have hu:(underlying t).run P w=.ok (.slice e) w:=by simp[underlying,U]
   simp only[F7,qj,Fr,hu,q,FI]
  have hD:Du ok w (.sl (List.map enc ((xs.drop 0).take (h.toNat-0)))) (.slice (if h.toNat=0 then ad else ad.map (·.add 0)) (List.map enc ((xs.drop 0).take (h.toNat-0))).length (List.map enc ((xs.drop 0).take (h.toNat-0))).length):=by
   by_cases I:h.toNat=0
   ·have e0:List.map enc ((xs.drop 0).take (h.toNat-0))=[]:=Gt (by rw[hlen,I]);rw[e0];exact .sl0 _ _
   have j:=aTt (l:=0) (h:=h.toNat) s (size:=size) (fun y J=>by obtain⟨b,_,rfl⟩:=Fh.1 J;exact hc b) (EY _) Dy;have S:cap≠0:=by rw[D6]at f;omega
   rw[DF S]at j;rw[DF I,hlen];rw[←Yt,←YI]at j;simp only[Nat.zero_mul,Nat.sub_zero]at j ⊢;exact j.aDQ (by rw[D6,Fa,pF];omega)
  have :=R.clip (H:=H) _ _ hD;rw[hlen]at this;exact this
def aUi {t e e':TypeId} {agg:Bool} {size k s:Nat} {x y z:Operand} {xs:List D} {h:Int} (Y:h=(xs.length:Int)) (Z:es[k]? =some (.arr e' s xs)) (O:P.underlying t=some (.slice e)) (hT:EC P e agg size)
 (ho:o.op=.slice t x none (some y) (some z)):Bq P o [(x,.aO k),(y,.d (AZ h)),(z,.d (AZ h))] es (.wP k) es:=
 .pure fun ok H a w q hl J=>by
  obtain⟨hd,u,L⟩:=G7 q hl Z;have M:=P9 (J (x,.aO k) BU) u;have S:=(J (y,.d (AZ h)) BU).lit;have U:=(J (z,.d (AZ h)) BU).lit;simp only at M S U;obtain⟨_,_,zs,⟨_,f⟩,_⟩:=L;obtain⟨v,Bf⟩:=hd;simp only at f M;subst Y
  have key:∃ad cap,v=.slice ad xs.length cap∧xs.length≤cap∧ad.map (·.add 0)=ad:=by
   rcases f with⟨rfl,I⟩|⟨g,cap,_,rfl,_,_,I,_⟩
   ·exact⟨none,0,by rw[I],AA,rfl⟩
   exact⟨_,cap,rfl,I,by simp[Addr.add]⟩
  obtain⟨ad,cap,rfl,I,h2⟩:=key;have j:=aTq (P:=P) (n:=xs.length) (ad:=ad) (w:=w) O hT (m:=xs.length) (cap:=cap) I;have hi:(if xs.length=0 then ad else ad.map (·.add 0))=ad:=by split<;>simp[h2]
  rw[hi]at j;refine⟨.slice ad xs.length xs.length,?_,.wP k ad _ cap Bf u⟩;simp only[execOp,ho,Option.map_none,IB,M,S,U,Instr.sliceAt];have hu:(underlying t).run P w=.ok (.slice e) w:=by simp[underlying,O]
  simp only[F7,qj,Fr,hu,j,FI]
def akD {C:EI} {ok:Nat→Prop} {H:List Bo} {w:World} (Z:D5 C ok H es w) {t ty e:TypeId} {size j k:Nat} {xs ys:List D} (hE:Fl P t e size j) (hk:es[k]? =some (.arr e size xs))
 {v x:Value} (hv:R ok w H (.wP k) v) {m:List Value} (I:VK w x ys.length size m) (u:FZ ok w H (flat ys) m) (hys:∀y∈ys,y.cells.length=size) (hb:(xs.length+ys.length)*j≤140737488355328) (hn:xs.length+ys.length≤maxLen):
 ∃v' w' H',(Builtin.append_ #[t,t] ty #[v,x]).run P w=.ok v' w'∧EO ok w ok w'∧Names H H'∧D5 C ok H' (es.set k .dead++[.arr e size (xs++ys)]) w'∧R ok w' H' (.aO es.length) v':=by
 obtain⟨h,hh,hok⟩:=G7 Z.ent Z.hlen hk;obtain⟨h1,h2,zs,f,hrs⟩:=hok
 have key:nD w e size v xs.length zs∧DX v=DX h.v:=by
  cases hv with
  |wP _ ad n cap s J=>
   rw[hh]at J;obtain rfl:=Cm J;rcases f.2 with⟨L,q2⟩|⟨g,cap',cur,L,q2,q3,q4,q5,q6,q7⟩
   ·simp only[iU]at L;obtain⟨rfl,rfl,rfl⟩:=L;exact⟨⟨f.1,.inl ⟨rfl,q2⟩⟩,rfl⟩
   simp only[iU]at L;obtain⟨rfl,rfl,rfl⟩:=L;exact⟨⟨f.1,.inr ⟨g,xs.length,cur,rfl,q2,q3,E9 _,Ej q4 q5,Ej (Ja _ q4) q6,q7⟩⟩,rfl⟩
 obtain⟨q,M⟩:=key;obtain⟨v',w',hr,z,O,S⟩:=aHS (P:=P) (ty:=ty) hE q I hb hn
 obtain⟨h3,h4⟩:=Z.turn (h':=⟨v',size⟩) (e:=.arr e size (xs++ys)) hk rfl hh O.os O.tape O.output O.size (fun c hc hne=>O.block c hc (by rw[aJX q,M];exact fun e=>hne e.symm)) (fun g U=>⟨rP z U,(S g U).imp (fun h=>M▸h) id⟩) (fun Y=>by
  refine⟨rfl,fun y hy=>?_,zs++m,bf,?_⟩
  ·rcases I8.1 hy with h|h
   ·exact h2 y h
   exact hys y h
  have a1:=hrs.mono Y (Names.push H [⟨v',size⟩]);have a2:=u.mono Y (Names.push H [⟨v',size⟩]);rw[lF]
  exact aDm a1 a2)
 refine⟨v',w',_,hr,h4,Names.push _ _,h3,?_⟩;have J:(H++[(⟨v',size⟩:Bo)])[es.length]? =some ⟨v',size⟩:=by rw[←Z.hlen];simp
 rcases z.2 with⟨rfl,_⟩|⟨g',c',_,rfl,_⟩
 ·exact .aO _ _ _ _ size J
 exact .aO _ _ _ _ size J
def aSd {α:Type} {s x:Operand} {t e:TypeId} {size f k:Nat} (enc:α→D) {l m r:List α} (h:CZ f l m=some r) (hE:Fl P t e size f) (S:es[k]? =some (.arr e size (l.map enc))) (U:∀a,(enc a).cells.length=size) (Y:0<f)
 (Z:o.op=.call { callee:=.builtin .append,args:= #[s,x],argTypes:= #[t,t] }):
 Bq P o [(s,.wP k),(x,.d (Au enc m))] es (.aO es.length) (es.set k .dead++[.arr e size (r.map enc)]):=by
 obtain⟨rfl,I⟩:=nU h;refine .eff fun C ok H a w hm j=>?_;have J:=(Ee j).1;have L:=(Ee j).2;simp only at J L;have u:Du ok w (.sl (m.map enc)) (a.eval x):=by cases L with |d _ _ h=>exact h
 have n:∀y∈m.map enc,y.cells.length=size:=fun y hy=>by obtain⟨a,_,rfl⟩:=Fh.1 hy;exact U a
 obtain⟨M,q,z⟩:=YU H u n;obtain⟨v',w',H',hr,r1,r2,O,r4⟩:=akD (ty:=o.type) hm hE S J q z n yD (by simpa using aFQ Y I);rw[←Jo]at O;refine⟨v',w',ok,H',.inl ?_,r1,r2,O,r4⟩;simp[execOp,Z,resolve,invoke,builtin,hr]
def aQz {ok:Nat→Prop} {w:World} {H:List Bo} {t ty e:TypeId} {size h:Nat} (hE:Fl P t e size h) {xs ys:List D} {v x:Value} (hv:R ok w H (.clip xs) v) (M:∀y∈xs,y.cells.length=size) {j:List Value} (m:VK w x ys.length size j) (hpos:0<ys.length)
 (O:(xs.length+ys.length)*h≤140737488355328) (S:xs.length+ys.length≤maxLen):
 ∃f v' w',FZ ok w H (flat xs) f∧(Builtin.append_ #[t,t] ty #[v,x]).run P w=.ok v' w'∧w'.ownsRow w.heap.size e size v' (xs.length+ys.length) (f++j)∧w.grownBy w' none:=by
 obtain⟨i,z,hi,hz,hs,q,s⟩:=hE.info;cases hv with
 |clip _ ad hD=>
  obtain⟨f,U,u⟩:=YU H hD M;rcases m.at_ with⟨I,c,rfl,n⟩|⟨c,rfl,h0⟩
  ·rcases U.at_ with⟨Y,c2,J,L⟩|⟨c2,J,L⟩
   ·simp only[iU]at J;obtain⟨rfl,_,rfl⟩:=J;obtain⟨v',w',Z,r2,r3⟩:=run_append_arg_grows (P:=P) w t ty e i z size h hE.und hi hz hs q s hE.pos Y xs.length xs.length f U.len L I ys.length c j m.len n AA S O;exact⟨f,v',w',u,Z,r2,r3⟩
   simp only[iU]at J;obtain⟨rfl,_,_⟩:=J;have hx:f=[]:=Gt (by rw[U.len,L];simp);subst hx;rw[L]at S O ⊢;obtain⟨v',w',Z,r2,r3,_⟩:=run_append_own (P:=P) w w.heap.size t ty e i z size h hE.und hi hz hs q s hE.pos _ 0 [] (aE2 w w.heap.size e size) I ys.length c j m.len n m.one S O (E9 _);exact⟨[],v',w',u,Z,r2,r3⟩
  omega
def aPH {ok:Nat→Prop} {w':World} {H:List Bo} {base e size:Nat} {v':Value} {xs ys:List D} {f j:List Value} (h:w'.ownsRow base e size v' (xs.length+ys.length) (f++j)) (q:FZ ok w' H (flat xs) f) (s:FZ ok w' H (flat ys) j) (m:∀y∈xs,y.cells.length=size) (n:∀y∈ys,y.cells.length=size):
 Em ok w' H ⟨v',size⟩ (.arr e size (xs++ys)):=by
 refine⟨rfl,fun y u=>?_,f++j,?_,?_⟩
 ·rcases I8.1 u with h|h
  ·exact m y h
  exact n y h
 ·have :=nD.of h;simpa using this
 rw[lF];exact aDm q s
def adq {w':World} {base e size n:Nat} {v':Value} {j:List Value} (h:w'.ownsRow base e size v' n j):∀g,DX v'=some g→base≤g∧g<w'.heap.size:=by
 intro g f;rcases h.2 with⟨rfl,_⟩|⟨s,_,_,rfl,m,q,_⟩
 ·simp[DX]at f
 simp[DX]at f;subst f;exact⟨m,(Fq.1 q).1⟩
def aTK {α:Type} {s x:Operand} {t e:TypeId} {size f:Nat} (enc:α→D) {l m r:List α} (h:CZ f l m=some r) (hE:Fl P t e size f) (hc:∀a,(enc a).cells.length=size) (q:0<f)
 (I:o.op=.call { callee:=.builtin .append,args:= #[s,x],argTypes:= #[t,t] }):
 Bq P o [(s,.clip (l.map enc)),(x,.d (Au enc m))] es (.d (Au enc r)) es:=by
 obtain⟨rfl,h2⟩:=nU h;refine .eff fun C ok H a w hm J=>?_;have Z:=(Ee J).1;have h3:=(Ee J).2;simp only at Z h3;have h3':Du ok w (.sl (m.map enc)) (a.eval x):=by cases h3 with |d _ _ h=>exact h
 have L:∀y∈l.map enc,y.cells.length=size:=fun y hy=>abV
 have M:∀y∈m.map enc,y.cells.length=size:=fun y hy=>abV
 obtain⟨O,j,hrs⟩:=YU H h3' M;by_cases S:m=[]
 ·subst S;obtain⟨i,z,hi,hz,hs,hby,hzs⟩:=hE.info;have n:O=[]:=Gt (by rw[j.len];simp);subst n;generalize hv:a.eval s=v at Z;generalize hu:a.eval x=u at j;cases Z with
  |clip _ ad hD=>
   refine⟨_,w,ok,H,.inl ?_,.refl _ _,.refl _,hm,.d _ _ (by rw[Pm];exact hD)⟩;have hL:∀w:World,((underlying t).run P w=.ok (.slice e) w):=fun w=>aHc
   rcases j.at_ with⟨ad',c,rfl,_⟩|⟨c,rfl,_⟩
   ·cases ad with
    |none=>simp[execOp,I,resolve,invoke,builtin,hv,hu,Builtin.append_,hL,sizeOf,typeInfo,hi,Builtin.lenOf,Builtin.firstCells,loadCells,loadCellsFrom]
    |some ad=>simp[execOp,I,resolve,invoke,builtin,hv,hu,Builtin.append_,hL,sizeOf,typeInfo,hi,Builtin.lenOf,Builtin.firstCells,loadCells,loadCellsFrom,storeCells]
   cases ad with
   |none=>simp[execOp,I,resolve,invoke,builtin,hv,hu,Builtin.append_,hL,sizeOf,typeInfo,hi,Builtin.lenOf,Builtin.firstCells]
   |some ad=>simp[execOp,I,resolve,invoke,builtin,hv,hu,Builtin.append_,hL,sizeOf,typeInfo,hi,Builtin.lenOf,Builtin.firstCells,storeCells]
 obtain⟨olds,v',w',r0,r1,r2,U⟩:=aQz (P:=P) (ty:=o.type) hE Z L j (by simpa using iK.2 S) aDf (by simpa using aFQ q h2);have Y:=adq r2;obtain⟨m1,g1⟩:=hm.change (ok':=fun b=>ok b∨DX v'=some b) (H':=H) (es':=es) (w':=w') (fun _=>False) U.os U.tape U.output U.size (fun b q _=>U.block b q BU) (fun _ h=>h.elim) (fun _ h=>.inl h) (fun b h=>h.imp id fun h=>Y b h) (.refl _) hm.hlen (fun k e h he hh=>.inl ⟨he,hh,fun _ _ _ h=>h⟩);have g0:EO ok w ok w':=fun b q=>⟨q,(g1 b q).2⟩
 have hE':=aPH r2 (r0.mono g0 (.refl _)) (hrs.mono g0 (.refl _)) L M;refine⟨v',w',_,H,.inl (by simp[execOp,I,resolve,invoke,builtin,r1]),g1,.refl _,m1,.d _ _ ?_⟩;have :=dB hE' (ok':=fun b=>ok b∨DX v'=some b) (fun _ h=>.inl h) (fun _ h=>.inr h)
 rwa [←Jo]at this
def ah3 {α:Type} {s x:Operand} {t e:TypeId} {size f:Nat} (enc:α→D) {l m r:List α} (h:CZ f l m=some r) (z:m≠[]) (hE:Fl P t e size f) (O:∀a,(enc a).cells.length=size) (hb:0<f)
 (ho:o.op=.call { callee:=.builtin .append,args:= #[s,x],argTypes:= #[t,t] }):
 Bq P o [(s,.clip (l.map enc)),(x,.d (Au enc m))] es (.aO es.length) (es++[.arr e size (r.map enc)]):=by
 obtain⟨rfl,S⟩:=nU h;refine .eff fun C ok H a w U j=>?_;have Y:=(Ee j).1;have Z:=(Ee j).2;simp only at Y Z;have I:Du ok w (.sl (m.map enc)) (a.eval x):=by cases Z with |d _ _ h=>exact h
 have n:∀y∈l.map enc,y.cells.length=size:=fun y J=>by obtain⟨a,_,rfl⟩:=Fh.1 J;exact O a
 have q:∀y∈m.map enc,y.cells.length=size:=fun y J=>by obtain⟨a,_,rfl⟩:=Fh.1 J;exact O a
 obtain⟨news,u,L⟩:=YU H I q;obtain⟨olds,v',w',r0,r1,M,r3⟩:=aQz (P:=P) (ty:=o.type) hE Y n u (by simpa using iK.2 z) ZP (by simpa using aFQ hb S)
 obtain⟨m1,g1⟩:=U.aAU (v':=v') (size:=size) (e:=.arr e size ((l++m).map enc)) r3 (adq M) (fun g0=>by
  have :=aPH M (r0.mono g0 (Names.push H [⟨v',size⟩])) (L.mono g0 (Names.push H [⟨v',size⟩])) n q
  rwa [←Jo]at this)
 refine⟨v',w',ok,_,.inl (by simp[execOp,ho,resolve,invoke,builtin,r1]),g1,Names.push _ _,m1,?_⟩;have hH:(H++[(⟨v',size⟩:Bo)])[es.length]? =some ⟨v',size⟩:=by rw[←U.hlen];simp
 rcases M.2 with⟨rfl,_⟩|⟨g',c',_,rfl,_⟩
 ·exact .aO _ _ _ _ size hH
 exact .aO _ _ _ _ size hH
end
def D.plain:D→Bool
 | .lit _=>true
 | .agg cs=>cs.all fun c=>match c with | .lit _=>true|_=>false
 |_=>false
def ap4 {ok ok':Nat→Prop} {w w':World} {H H':List Bo} {xs:List D} {vs:List Value} (s:∀x∈xs,x.plain=true) (h:FZ ok w H (flat xs) vs):FZ ok' w' H' (flat xs) vs:=by
 refine⟨h.1,fun i hi=>⟨(h.2 i hi).1,?_⟩⟩;have q:=(h.2 i hi).2;have m:(flat xs).getD i .junk∈flat xs:=Le
 generalize(flat xs).getD i .junk=y at q m;unfold flat at m;simp only[UG,Fh]at m;obtain⟨x,z,c,n,rfl⟩:=m;have f:=s x z
 have j:∃u,c=.lit u:=by
  cases x with
  |lit u=>simp[D.cells]at n;exact⟨u,n⟩
  |agg cs=>
   simp only[D.cells]at n;simp only[D.plain,ER]at f;have :=f c n;cases c with
   |lit u=>exact⟨u,rfl⟩
   |_=>simp at this
  |_=>cases f
 obtain⟨u,rfl⟩:=j;rw[q.lit];exact .d _ _ (.lit u)
def ac6 {P:Program} {o:Oper} {es:List BQ} {f:FuncId} {ops:Array Operand} {eH fU:List Ag} {e s:Nat} {xs:List D} (hr:Ap P f fU [] (.aO 0) [.arr e s xs]) (hp:∀x∈xs,x.plain=true) (ha:ZN es eH fU) (hl:ops.toList.length=eH.length)
 {C:EI} {ok:Nat→Prop} {H:List Bo} {a:Act} {w:World} (L:D5 C ok H es w) (hn:∀n∈F5 ops.toList eH,R ok w H n.2 (a.eval n.1)):
 Calls P f (ops.toList.map a.eval).toArray w fun e' w'=>∃v,e'=.returned v∧w.grownBy w' none∧(∀g,DX v=some g→w.heap.size≤g∧g<w'.heap.size)∧Value.isSlice v=true∧∀M H2,Em M w' H2 ⟨v,s⟩ (.arr e s xs):=by
 let z:Nat→Prop:=fun b=>b<w.heap.size
 have Y:D5 ⟨w,z,[],[]⟩ z [] [] w:=
  ⟨.refl _ _,fun _ h=>h,fun _ h=>.inl h,fun _ h=>h,.refl _,rfl,fun k e h O _=>by simp at O,fun k e h b O=>by simp at O,fun k k' e e' h h' b O=>by simp at O⟩
 refine(hr z [] [] w _ Y (by simp[hl,aH7 ha]) (fun i hi=>?_)).mono ?_
 ·obtain⟨op,x,Z,S,m⟩:=aPS hl ha i hi;have J:=hn _ S
  have e1:(ops.toList.map a.eval).toArray.getD i undef=a.eval op:=by
   obtain⟨h1,h2⟩:=FV.1 Z;have h3:i<ops.size:=by simpa using h1
   have h4:ops[i]=op:=aDf
   simp[Array.getD,h3,h4]
  rw[e1];simp only at J;generalize fU.getD i .junk=y at m;generalize a.eval op=u at J;cases x with
  |d x=>
   obtain rfl:=m;cases J with |d _ _ h=>exact .d _ _ (h.mono (fun b q=>⟨L.kL b q,rfl⟩))
  |aO k=>
   obtain⟨e',s,xs,hk,rfl⟩:=m;obtain⟨h,hh,I⟩:=G7 L.ent L.hlen hk;obtain rfl:=P9 J hh;exact .d _ _ (dB I (fun b q=>L.kL b q) (fun b q=>(L.blk k _ h b hk rfl hh q).2.1))
  |_=>exact m.elim
 rintro e' w' ⟨v,ok',H',rfl,j,J⟩;have hg:w.grownBy w' none:=⟨j.fr.os,j.fr.tape,j.fr.output,j.fr.size,fun b q _=>j.fr.block b q BU⟩
 have hl':H'.length=1:=j.hlen
 match H',hl' with
 | [hd],_=>
   obtain rfl:=P9 J (h:=hd) rfl;have I:=j.ent 0 _ hd rfl rfl;have q:=fun b q=>j.blk 0 _ hd b rfl rfl rfl q;obtain⟨q1,q2,zs,q3,q4⟩:=I;obtain⟨v,Bf⟩:=hd;simp only at q1 q q3;subst q1;refine⟨v,rfl,hg,fun g hg'=>?_,?_,fun M H2=>⟨rfl,q2,zs,q3,ap4 hp q4⟩⟩
   ·obtain⟨_,r2,U⟩:=q g hg';rcases U with U|U
    ·exact⟨U,r2⟩
    simp at U
   rcases q3.2 with⟨rfl,_⟩|⟨g',c',_,rfl,_⟩<;>rfl
def IL {P:Program} {o:Oper} {es:List BQ} {f:FuncId} {ops:Array Operand} {ats:Array TypeId} {eH fU:List Ag} {e s:Nat} {xs:List D} (m:Ap P f fU [] (.aO 0) [.arr e s xs]) (q:∀x∈xs,x.plain=true) (u:Dt P f=true) (ha:ZN es eH fU) (z:ops.toList.length=eH.length)
 (I:o.op=.call { callee:=.value (.func f),args:=ops,argTypes:=ats }):Bq P o (F5 ops.toList eH) es (.aO es.length) (es++[.arr e s xs]):=by
 intro C ok H a w Q h J;unfold Oper.wp;rw[tH I,TP u,Zm];have L:ops.map a.eval=(ops.toList.map a.eval).toArray:=aCH
 rw[L];refine(ac6 (o:=o) m q ha z h J).mono ?_;rintro e' w' ⟨v,rfl,M,O,j,hE⟩;obtain⟨S,U⟩:=h.aAU (v':=v) (size:=s) (e:=.arr e s xs) M O (fun _=>hE _ _);refine⟨v,ok,_,rfl,U,Names.push _ _,S,?_⟩;have Y:(H++[(⟨v,s⟩:Bo)])[es.length]? =some ⟨v,s⟩:=yK
 cases v with
 |slice ad n c=>exact .aO _ _ _ _ s Y
 |_=>cases j
def aEP {P:Program} {o:Oper} {es:List BQ} {f:FuncId} {ops:Array Operand} {ats:Array TypeId} {eH fU:List Ag} {e s:Nat} {xs:List D} (q:Ap P f fU [] (.aO 0) [.arr e s xs]) (u:∀x∈xs,x.plain=true) (z:Dt P f=true) (ha:ZN es eH fU) (I:ops.toList.length=eH.length)
 (J:o.op=.call { callee:=.value (.func f),args:=ops,argTypes:=ats }):Bq P o (F5 ops.toList eH) es (.d (.sl xs)) es:=by
 intro C ok H a w Q m L;unfold Oper.wp;rw[tH J,TP z,Zm];have M:ops.map a.eval=(ops.toList.map a.eval).toArray:=aCH
 rw[M];refine(ac6 (o:=o) q u ha I m L).mono ?_;rintro e' w' ⟨v,rfl,j,O,S,hE⟩;obtain⟨U,Y⟩:=m.change (ok':=fun b=>ok b∨DX v=some b) (H':=H) (es':=es) (w':=w') (fun _=>False) j.os j.tape j.output j.size (fun b n _=>j.block b n BU) (fun _ h=>h.elim) (fun _ h=>.inl h) (fun b h=>h.imp id fun h=>O b h) (.refl _) m.hlen (fun k e h Z hh=>.inl ⟨Z,hh,fun _ _ _ h=>h⟩);exact⟨v,_,H,rfl,Y,.refl _,U,.d _ _ (dB (hE ok H) (fun _ h=>.inl h) (fun _ h=>.inr h))⟩
def awk {F:Fence} {n:Nat} {P:Program} {Q:Exit→Act→World→Prop} {a:Act} {w:World} {c:Code} (h:c.wpIn F n P (Exit.noGoto Q) a w):(Code.scope c).wpIn F n P Q a w:=by
 intro b k cs u z I;have f:(lone (b.atR a (.code (.scope c)::k)) cs w).fenced P F:=fenced_calm z I rfl;have j:step P (lone (b.atR a (.code (.scope c)::k)) cs w)=.next (lone (b.atR a (.code c::.inScope c::k)) cs w):=step_lone_go aS2;obtain⟨e,q,s,m,harr⟩:=h b (.inScope c::k) cs u z I;cases e with
 |normal=>exact⟨.normal,q,s,m,.head f j (StepsIn.trans harr (.one (fenced_calm z I rfl) (step_lone_go aS2)))⟩
 |exit id=>
  have M:exitTo id (.inScope c::k)=exitTo id k:=by simp[exitTo]
  exact⟨.exit id,q,s,m,fun k' J=>.head f j (harr.1 k' (by rw[M];exact J)),fun L J=>let⟨O,S,U⟩:=harr.2 L (by rw[M];exact J);⟨O,S,.head f j U⟩⟩
 |goto l=>exact m.elim
 |ret=>exact⟨_,q,s,m,.of_steps (.one f j) harr⟩
 |panic Y=>exact⟨_,q,s,m,.of_steps (.one f j) harr⟩
 |outgrown=>exact⟨_,q,s,m,.of_steps (.one f j) harr⟩
def aqk (Q:Exit→BL→Prop):Exit→BL→Prop
 | .goto _,_=>False
 |e,σ=>Q e σ
def AB.scope {P:Program} {σ:BL} {Q:Exit→BL→Prop} {c:Code} (h:AB P c σ (aqk Q)):AB P (.scope c) σ Q:=⟨fun ro j C ok H a w m=>
 awk (U0 (h.run ro (j.imp id fun h=>h) C ok H a w m) (by
  rintro e a' w' ⟨ok',H',σ',n,f⟩;cases e with
  |goto l=>exact f.elim
  |_=>exact⟨ok',H',σ',n,f⟩))⟩
def adh (P:Program) (f:FuncId) (args:List Ag) (u:Value):Prop:=
 ∀(ok:Nat→Prop) (X:List Nat) (H:List Bo) (w:World) (h:Array Value),D5 ⟨w,ok,X,H⟩ ok H [] w→h.size=args.length→(∀i,i<args.length→R ok w H (args.getD i .junk) (h.getD i undef))→
  Calls P f h w fun e w'=>∃ok' H',e=.panicked [{ v:=u,recovered:=false }]∧D5 ⟨w,ok,X,H⟩ ok' H' [] w'
def Ob {Rr:Type} (P:Program) (f:FuncId) (args:List Ag) (r:Except Value Rr) (h:Rr→Ag):Prop:=(∀x,r=.ok x→Ap P f args [] (h x) [])∧∀u,r=.error u→adh P f args u
def anj {Rr:Type} (P:Program) (fn:Func) (r:Except Value Rr) (f:Rr→Ag) (e:Exit) (σ:BL):Prop:=
 (∃x,r=.ok x∧aeN P fn (f x) [] e σ)∨∃u,r=.error u∧e=vF u∧σ.base=0
def ady {P:Program} {fn:Func} {Rr:Ending→World→Prop} {C:EI} {m:List PanicEntry} (n:∀b,C.ok0 b→b<C.w0.heap.size) {H:List Bo} {σ:BL}
 (q:∀ok a w,Holds C ok H σ a w→Rr (.panicked m) w) {tmps:Array Value}:∀(Ds:List Nat) {ok:Nat→Prop} {a:Act} {w:World},Holds C ok H σ a w→(∀d∈Ds,ok d∧C.w0.heap.size≤d∧w.heap[d]? =some (.deferred (some [])))→Ds.Nodup→
  LeavesInM (Io none) 0 P fn tmps Rr (Ds.map fun D=>{ target:=.collected D,args:= #[] }) (.panicking m) w
 | [],ok,a,w,h,_,_=>q ok a w h
 |D::Ds,ok,a,w,h,hd,s=>by
  obtain⟨ok',h',f⟩:=h.take n (fun d j=>hd d (Hr _ j)) (hd D (GR ..)) s;have u:=ady (P:=P) (fn:=fn) (tmps:=tmps) n q Ds h' f (NC.1 s).2;exact⟨BU,.inl ⟨D,_,rfl,run_takeDeferred (hd D (GR ..)).2.2,u⟩⟩
def D5.none {C:EI} {ok:Nat→Prop} {H:List Bo} {es:List BQ} {w:World} (j:D5 C ok H es w) (m:C.H0=[]):D5 C ok [] [] w:=
 ⟨j.fr,j.yA,j.yB,j.kL,by rw[m];exact .refl _,rfl,fun k e h f=>UF,fun k e h b f=>UF,fun k k' e e' h h' b f=>UF⟩
def Ob.aI {Rr:Type} {P:Program} {f:FuncId} {fn:Func} {c:Code} {args:List Ag} {r:Except Value Rr} {q:Rr→Ag} (U:P.funcs[f]? =some fn) (Y:fn.body=some c)
 (h:AB P c (.enter args fn.ntmps []) (anj P fn r q)):Ob P f args r q:=by
 refine⟨fun x Z=>Ap.aI U Y (h.mono fun e σ hq=>?_),fun u hu=>?_⟩
 ·rcases hq with⟨x',m,I⟩|⟨u,m,_⟩
  ·rw[Z]at m;cases m;exact I
  rw[Z]at m;cases m
 intro ok X H w j z hs ha;have hH:H=[]:=Gt z.hlen;refine(aEX (ro:=none) (n:=0)).1 (aKm U Y trivial (U0 (h.run none (.inl rfl) ⟨w,ok,X,H⟩ ok H _ w ?_) ?_) rfl)
 ·refine⟨z,by simp[BL.enter,hs],.nil _ _ _,z.hlen,fun t ht=>?_⟩;simp only[BL.enter];by_cases e:t<args.length
  ·have J:(args++List.replicate (fn.ntmps-args.length) Ag.junk).getD t .junk=args.getD t .junk:=aIH
   have e2:(j++Array.replicate (fn.ntmps-j.size) undef).getD t undef=j.getD t undef:=by
    simp[Gu,Xi (show t<j.size by omega)]
   rw[J,e2];exact ha t e
  have J:(args++List.replicate (fn.ntmps-args.length) Ag.junk).getD t .junk=.junk:=by
   simp only[List.getD,Jd (Tq e),aMi];split<;>rfl
  rw[J];exact .junk _
 rintro e a' w' ⟨ok',H',σ',m,I⟩;rcases I with⟨x,s,_⟩|⟨u',s,rfl,_⟩
 ·rw[hu]at s;cases s
 rw[hu]at s;cases s;obtain⟨Ds,L,M,O⟩:=m.defers;show LeavesInM (Io none) 0 P fn a'.tmps _ a'.defers (.panicking _) w';rw[L];exact ady (P:=P) (C:=⟨w,ok,X,H⟩) z.kL (fun S a2 w2 h4=>⟨S,[],rfl,h4.mem.none hH⟩) Ds m O M
section
variable {P : Program} {ops : Array Oper} {o : Oper} {rest l : List Oper} {σ : BL} {K : Exit → BL → Prop}
def DR.panic {x:Operand} {t:TypeId} {u:Value} (j:o.op=.panic x) (m:σ.get x=.d (.lit (.iface t u))) (n:KJ ops σ o.guard=some true) (h:K (vF (.iface t u)) σ):DR P ops (o::rest) σ K:=by
 refine⟨fun ro q Q C ok H a w f s=>?_⟩;show wpListIn (Io ro) 0 P ops Q (o::(rest++q)) a w;unfold wpListIn;rw[D7 (Ox f (Ln n))];have z:=(m▸f.get x).lit;unfold Oper.wpIn;rw[kE _ _ _ (by rw[j];intro c h;cases h)];have I:(execOp a.eval o).run P w=.halt (.panic (.iface t u)) w:=by simp[execOp,j,z,Instr.panic,goPanic]
 rw[I];exact⟨fun _ _=>trivial,s.2 _ _ _ _ _ _ h f⟩
end
section
variable {P : Program} {ops : Array Oper}
def FC.aCN (N:Nat) {l:List Oper} {σ σ':BL} {rs:List Ag} {ess:List (List BQ)} {bs:List Bool} (h:FC P ops l σ rs ess bs σ') (σ0:BL) (r:Nat→Ag) (ev:Nat→List BQ) (bar:Nat→Bool):∀i,(∀k:Nat,k<l.length→l[k]? =ops[i+k]?)→i+l.length=N→σ=Ef ops σ0 r ev i→
 (∀(k:Nat) y,rs[k]? =some y→r (i+k)=y)→(∀(k:Nat) y,ess[k]? =some y→ev (i+k)=y)→(∀(k:Nat) y,bs[k]? =some y→bar (i+k)=y)→
 (∀j (o:Oper),i≤j→j<N→ops[j]? =some o→Qv P ops (Ef ops σ0 r ev j) (r j) (ev j) (bar j) o)∧σ'=Ef ops σ0 r ev N:=by
 induction h with
 |nil σ=>
  intro i z s q I _ _;have :i=N:=P6
  subst this;exact⟨fun j o O u ho=>AA,q⟩
 | @op o rest σ σ' ns x rs ess bs d ho hn hg hd ht k U=>
   intro i z s q I J S;subst hd;have L:ops[i]? =some o:=qc
   have M:r i=x:=aEh
   have m:ev i=σ.ents:=aMF
   obtain⟨Y,Z⟩:=U (i+1) (fun k hk=>oh) Rx (by
    rw[BL.Yz];simp only[Ef,L,M,m];rw[←q]) (fun k y n=>UK)
    (fun k y n=>vX) (fun k y n=>vT)
   refine⟨fun j o' O u f=>?_,Z⟩;by_cases e:i=j
   ·subst e;rw[L]at f;obtain rfl:=Cm f;exact⟨.inl ⟨ns,by rw[M,m,←q];exact ho,q▸hn,ht,q▸hg⟩,fun _=>X5⟩
   exact Y j o' AA u f
 | @oe o rest σ σ' ns x es' rs ess bs d E ho hE hn hg hd ht k U=>
   intro i z s q I J S;subst hd;subst hE;have L:ops[i]? =some o:=qc
   have M:r i=x:=aEh
   have m:ev i=es':=by simpa using J 0 es' BU
   have hbr:bar i=true:=by simpa using S 0 true BU
   obtain⟨Y,Z⟩:=U (i+1) (fun k hk=>oh) Rx (by
    simp only[Ef,L,M,m];rw[←q]) (fun k y n=>UK)
    (fun k y n=>vX) (fun k y n=>vT)
   refine⟨fun j o' O u f=>?_,Z⟩;by_cases e:i=j
   ·subst e;rw[L]at f;obtain rfl:=Cm f;exact⟨.inl ⟨ns,by rw[M,m,←q];exact ho,q▸hn,ht,q▸hg⟩,fun hf=>by rw[hbr]at hf;cases hf⟩
   exact Y j o' AA u f
 | @any o rest σ σ' x rs ess bs d hs hd k U=>
   intro i z s q I J S;subst hd;have L:ops[i]? =some o:=qc
   have M:r i=x:=aEh
   have m:ev i=σ.ents:=aMF
   obtain⟨Y,Z⟩:=U (i+1) (fun k hk=>oh) Rx (by
    rw[BL.Yz];simp only[Ef,L,M,m];rw[←q]) (fun k y n=>UK)
    (fun k y n=>vX) (fun k y n=>vT)
   refine⟨fun j o' O u f=>?_,Z⟩;by_cases e:i=j
   ·subst e;rw[L]at f;obtain rfl:=Cm f;refine⟨?_,fun _=>X5⟩;rw[M,m,←q];exact hs.1
   exact Y j o' AA u f
 | @aeX o rest σ σ' x E br rs ess bs d hs hd k U=>
   intro i z s q I J S;subst hd;have L:ops[i]? =some o:=qc
   have M:r i=x:=aEh
   have m:ev i=E:=by simpa using J 0 E BU
   have hbr:bar i=br:=by simpa using S 0 br BU
   obtain⟨Y,Z⟩:=U (i+1) (fun k hk=>oh) Rx (by
    simp only[Ef,L,M,m];rw[←q]) (fun k y n=>UK)
    (fun k y n=>vX) (fun k y n=>vT)
   refine⟨fun j o' O u f=>?_,Z⟩;by_cases e:i=j
   ·subst e;rw[L]at f;obtain rfl:=Cm f;rw[M,m,hbr,←q];exact hs
   exact Y j o' AA u f
 | @skip o rest σ σ' rs ess bs d hg hd k U=>
   intro i z s q I J S;subst hd;have L:ops[i]? =some o:=qc
   have M:r i=.d (.lit undef):=by simpa using I 0 (.d (.lit undef)) BU
   have m:ev i=σ.ents:=aMF
   obtain⟨Y,Z⟩:=U (i+1) (fun k hk=>oh) Rx (by
    rw[BL.Yz];simp only[Ef,L,M,m];rw[←q]) (fun k y n=>UK)
    (fun k y n=>vX) (fun k y n=>vT)
   refine⟨fun j o' O u f=>?_,Z⟩;by_cases e:i=j
   ·subst e;rw[L]at f;obtain rfl:=Cm f;exact⟨.inr ⟨M,X5,q▸hg⟩,fun _=>X5⟩
   exact Y j o' AA u f
def AB.aDR {id:Nat} {σ σ':BL} {Q:Exit→BL→Prop} {rs:List Ag} {ess:List (List BQ)} {bs:List Bool} (N:Nat) (hNs:N+1=ops.size) (hm:P.follows .mixedOrders=true) (Y:(VJ ops&&WM ops&&UR ops σ.slots.length&&VT ops)=true) (hbl:bs.length=N) (J:Xo ops (bs++[true])=true)
 (h:FC P ops (ops.toList.take N) σ rs ess bs σ') (hL:∀(ro:Option Nat) (C:EI) (ok:Nat→Prop) (H:List Bo) (a:Act) (w:World),Holds C ok H σ' a w→wpOpIn (Io ro) 0 P ops (fun e a' w'=>∃ok' H' σ',Holds C ok' H' σ' a' w'∧Q e σ') N (fun a' w'=>∃ok' H' σ',Holds C ok' H' σ' a' w'∧Q .normal σ') a w):AB P (.region id ops true) σ Q:=by
 refine⟨fun ro _ C ok H a w hh=>?_⟩;simp only[DJ]at Y;obtain⟨⟨⟨he,hd⟩,hs⟩,hc⟩:=Y;have Px:=aJu he;have hinj:=aLh hd;have Y:=aHw hc
 have Hz:∀(i:Nat) (o:Oper) (d:Tmp),ops[i]? =some o→o.dst=some d→d<σ.slots.length:=by
  intro i o d h1 h2;unfold UR at hs;rw[ER]at hs;simpa using hs d (aLH h1 h2)
 let r:Nat→Ag:=fun i=>rs.getD i .junk
 let ev:Nat→List BQ:=fun i=>ess.getD i []
 let bar:Nat→Bool:=fun i=>(bs++[true]).getD i false
 have hbN:bar N=true:=by simp[bar,List.getD,←hbl]
 obtain⟨Iw,hend⟩:=h.aCN N σ r ev bar 0 (fun k hk=>by
  simp only[Fa]at hk
  rw[NI AA];simp) Dy rfl (fun k y hy=>aIC) (fun k y hy=>aHE) (fun k y hy=>by have :=(FV.1 hy).1;simp only[bar,List.getD,J4,GH this,hy];rfl)
 let U:Nat→BL:=Ef ops σ r ev
 have hU:∀i,i<ops.size→(U (i+1)).ents=ev i:=by
  intro i hi;have L:ops[i]? =some ops[i]:=QE
  show(Ef ops σ r ev (i+1)).ents=_;simp only[Ef,L];rfl
 have hconst:∀n lo,(∀b,lo≤b→b<lo+n→bar b=false)→lo+n≤N→(U (lo+n)).ents=(U lo).ents:=by
  intro n
  induction n with
  |zero=>intro lo _ _;rfl
  |succ n ih=>
   intro lo u hle;have h1:=ih lo (fun b h1 h2=>u b h1 AA) AA;have hi:lo+n<ops.size:=AA
   have L:ops[lo+n]? =some ops[lo+n]:=QE
   have h2:=(Iw (lo+n) _ AA AA L).2 (u (lo+n) AA AA);rw[←NP,hU _ hi,h2];exact h1
 have S:∀lo hi,lo≤hi→hi≤N→(∀b,lo≤b→b<hi→bar b=false)→(U hi).ents=(U lo).ents:=by
  intro lo hi h1 h2 h3;obtain⟨n,rfl⟩:=aIP h1;exact hconst n lo h3 h2
 refine aBz hm ?_
 let I:Array Bool→Act→World→Prop:=fun l a w=>l.size=ops.size∧l.getD N false=false∧∃ok H m,m≤N∧(∀b,bar b=true→b<ops.size→(l.getD b false=true↔b<m))∧D5 C ok H (U m).ents w∧a.tmps.size=σ.slots.length∧Marks C ok w a.defers∧
  (∀t,t<σ.slots.length→(∀(j:Nat) (o:Oper),ops[j]? =some o→o.dst=some t→l.getD j false=false)→R ok w H (σ.slots.getD t .junk) (a.tmps.getD t undef))∧
  (∀(i:Nat) (o:Oper) (d:Tmp),ops[i]? =some o→o.dst=some d→l.getD i false=true→R ok w H (r i) (a.tmps.getD d undef))∧
  (∀(j:Nat) (o:Oper),ops[j]? =some o→l.getD j false=true→∀i,G9 o i=true→l.getD i false=true)
 let I2:Array Bool→Act→World→Prop:=fun l a w=>I l a w∨(l.size=ops.size∧(Region.ready .any ops l=[]∧∃ok' H' σ',Holds C ok' H' σ' a w∧Q .normal σ'))
 refine Mid I2 (fun l a w h=>h.elim (fun h=>h.1) (fun h=>h.1)) ?_ ?_ ops.size _ _ _ ?_ ?_
 ·rintro l a w (⟨h1,hlN,ok,H,m,Lu,adK,hmem0,hsz,hdf,h5,h6,h7⟩|⟨h1,h2,_⟩) i hi
  rotate_left
  ·rw[h2]at hi;simp at hi
  unfold Region.ready at hi;rw[Gn]at hi;obtain⟨hi1,hi2⟩:=hi;have hi':i<ops.size:=aAy
  have L:ops[i]? =some ops[i]:=by simp[hi']
  simp only[DJ]at hi2;have Py:=hi2.2;rw[L]at Py;simp only[IB,MC]at Py;have ahd:=fun e he=>(QF.1 Py) e he
  have M:∀j,G9 ops[i] j=true→l.getD j false=true∧j<i:=by
   intro j s;unfold G9 at s;rw[Hd]at s;obtain⟨e,hee,s⟩:=s;simp only[DJ,Gi]at s;have :=ahd e aM2;simp only[s.2,EW,Ll]at this;rw[s.1]at this;exact⟨this,s.1▸Px i _ L e hee s.2⟩
  have O:l.getD i false=false:=by
   have h8:=hi2.1;have hil:i<l.size:=AA
   simp[Array.getD,hil]at h8 ⊢;exact h8
  have z:∀(j:Nat) (o:Oper),ops[j]? =some o→l.getD j false=true→∀m,G9 o m=true→l.getD m false=true:=fun j o s hl m hm=>h7 j o s hl m hm
  have hmem:D5 C ok H (U i).ents w:=by
   have hE:(U i).ents=(U m).ents:=by
    by_cases him:i≤m
    ·refine(S i m him Lu (fun b h2 h3=>?_)).symm;rw[←Kz];intro u;have hbl:=(adK b u AA).2 h3;by_cases e:b=i
     ·subst e;rw[O]at hbl;cases hbl
     have hob:ops[b]? =some (ops[b]' AA):=by simp[show b<ops.size by omega]
     have :=VQ J (show b<ops.size by omega) u (D:=fun j=>l.getD j false=true) z (fun o L m hm=>z b o L hbl m hm) i AA;rw[O]at this;cases this
    refine S m i AA AA (fun b h2 h3=>?_);rw[←Kz];intro u;have :=aC9 J (show b<ops.size by omega) u (D:=fun j=>l.getD j false=true) z i h3 _ L (fun m hm=>(M m hm).1);exact absurd ((adK b u AA).1 this) AA
   rw[hE];exact hmem0
  by_cases hiN:i=N
  ·subst hiN;have aAW:∀j,j<i→l.getD j false=true:=fun j s=>VQ J hi' hbN (D:=fun j=>l.getD j false=true) z (fun o Z m hm=>abX) j s
   have hH:Holds C ok H σ' a w:=by
    subst hend;refine⟨hmem,by rw[UM];exact hsz,hdf,aJn,fun t ht=>?_⟩;rw[UM]at ht;by_cases hw:∃(j:Nat) (o:Oper),ops[j]? =some o∧o.dst=some t
    ·obtain⟨j,o,s,q⟩:=hw;have hjn:j<ops.size:=(Fq.1 s).1;by_cases hji:j<i
     ·rw[Ug hinj s q ht i hji];exact h6 j o t s q (aAW j hji)
     have hje:j=i:=AA
     subst hje;rw[SA j (fun j' o' hj' Z hd'=>aQD)];exact h5 t ht (fun j' o' Z hd'=>by have :=hinj j j' o o' t s Z q hd';subst this;exact hlN)
    have hw':∀(j:Nat) (o:Oper),ops[j]? =some o→o.dst≠some t:=fun j o h1 h2=>hw ⟨j,o,h1,h2⟩;rw[SA i (fun j o _ s=>hw' j o s)];exact h5 t ht (fun j o s q=>absurd q (hw' j o s))
   refine wpOpIn_mono (fun a' w' hx=>.inr ⟨by simp[h1],?_,hx⟩) (hL ro C ok H a w hH);unfold Region.ready;rw[aF1];intro j s;have hjn:j<ops.size:=P6
   have hdn:(l.setIfInBounds i true).getD j true=true:=by
    by_cases hji:j=i
    ·subst hji;simp[Array.getD,h1,hi']
    have :=aAW j AA;simp only[Gu,Js (Ne.symm hji)];have hjl:j<l.size:=AA
    simp[Array.getD,hjl]at this;simp[hjl,this]
   rw[hdn];simp
  have hiN:i<N:=AA
  have hread:∀t,t∈tmpsOf ops[i]→R ok w H ((Ef ops σ r ev i).slots.getD t .junk) (a.tmps.getD t undef):=by
   intro t ht;by_cases hw:∃(j:Nat) (o:Oper),ops[j]? =some o∧o.dst=some t
   ·obtain⟨j,o,s,q⟩:=hw;rcases(Y i _ L).1 j o t s q ht with hce|hce
    ·obtain⟨hdj,hji⟩:=M j hce;rw[Ug hinj s q (Hz j o t s q) i hji];exact h6 j o t s q hdj
    have hij:i<j:=by
     unfold G9 at hce;rw[Hd]at hce;obtain⟨e,hee,hce⟩:=hce;simp only[DJ,Gi]at hce;exact hce.1▸Px j _ s e hee hce.2
    rw[SA i (fun j' o' hj' Z hd'=>aQD)];refine h5 t (Hz j o t s q) (fun j' o' Z hd'=>?_);have hjj:=hinj j j' o o' t s Z q hd';subst hjj;rw[←Kz];intro hd;rw[h7 j o s hd i hce]at O;cases O
   have hw':∀(j:Nat) (o:Oper),ops[j]? =some o→o.dst≠some t:=fun j o h1 h2=>hw ⟨j,o,h1,h2⟩;rw[SA i (fun j o _ s=>hw' j o s)];by_cases htn:t<σ.slots.length
   ·exact h5 t htn (fun j o s q=>absurd q (hw' j o s))
   rw[ku htn];exact .junk _
  have Vl:∀j d v,G9 ops[i] j=true→(ops[j]?).bind (·.dst)=some d→(Ef ops σ r ev i).slots.getD d .junk=.d (.lit v)→yielded ops a.tmps j=(match v with | .bool b=>some b|_=>none):=by
   intro j d v s q u;cases hoj:ops[j]? with
   |none=>rw[hoj]at q;simp at q
   |some oj=>
    rw[hoj]at q;simp only[Ac]at q;obtain⟨hdj,hji⟩:=M j s;have hdn:=Hz j oj d hoj q;rw[Ug hinj hoj q hdn i hji]at u;have hv:=(u▸h6 j oj d hoj q hdj).bool
    have hs:a.tmps[d]? =some v:=by
     have :d<a.tmps.size:=by rw[hsz];exact hdn
     simp[Array.getD,this]at hv;simp[this,hv]
    unfold yielded;rw[hoj];simp only[Ac,q,hs];cases v<;>rfl
  have hput:∀(x:Ag) (v:Value) (ok':Nat→Prop) (H':List Bo) (w':World),x=r i→EO ok w ok' w'→Names H H'→D5 C ok' H' (ev i) w'→R ok' w' H' x v→I2 (l.setIfInBounds i true) (a.put ops[i].dst v) w':=by
   intro x v ok' H' w' hx hgr hnm hmem' hR;subst hx
   have hother:∀(d t:Nat),ops[i].dst=some d→d≠t→(a.put ops[i].dst v).tmps.getD t undef=a.tmps.getD t undef:=by
    intro d t hd hne;rw[hd];exact aJq hne
   obtain⟨m',al5,adB,al6⟩:∃m',m'≤N∧(∀b,bar b=true→b<ops.size→((l.setIfInBounds i true).getD b false=true↔b<m'))∧D5 C ok' H' (U m').ents w':=by
    have hget:∀b,b≠i→(l.setIfInBounds i true).getD b false=l.getD b false:=fun b u=>by
     simp only[Gu,Js (Ne.symm u)]
    have al7:(l.setIfInBounds i true).getD i false=true:=aJz
    cases hbi:bar i with
    |false=>
     refine⟨m,Lu,fun b u hbs=>?_,?_⟩
     ·have hne:b≠i:=fun e=>by subst e;rw[hbi]at u;cases u
      rw[hget b hne];exact adK b u hbs
     have h2:=(Iw i _ AA hiN L).2 hbi;rw[h2]at hmem'
     have hE:(U i).ents=(U m).ents:=by
      by_cases him:i≤m
      ·refine(S i m him Lu (fun b h2 h3=>?_)).symm;rw[←Kz];intro u;have hbl:=(adK b u AA).2 h3;by_cases e:b=i
       ·subst e;rw[O]at hbl;cases hbl
       have :=VQ J (show b<ops.size by omega) u (D:=fun j=>l.getD j false=true) z (fun o L m hm=>z b o L hbl m hm) i AA;rw[O]at this;cases this
      refine S m i AA AA (fun b h2 h3=>?_);rw[←Kz];intro u;have :=aC9 J (show b<ops.size by omega) u (D:=fun j=>l.getD j false=true) z i h3 _ L (fun m hm=>(M m hm).1);exact absurd ((adK b u AA).1 this) AA
     rw[←hE];exact hmem'
    |true=>
     refine⟨i+1,AA,fun b u hbs=>?_,by rw[hU i hi'];exact hmem'⟩;by_cases e:b=i
     ·subst e;rw[al7];simp
     rw[hget b e];constructor
     ·intro hbl;apply Xu;intro hn;have :=VQ J hbs u (D:=fun j=>l.getD j false=true) z (fun o L m hm=>z b o L hbl m hm) i AA;rw[O]at this;cases this
     intro hlt;exact VQ J hi' hbi (D:=fun j=>l.getD j false=true) z (fun o Z m hm=>abX) b AA
   refine .inl ⟨by simp[h1],by simpa only[Gu,Js (show i≠N by omega)]using hlN,ok',H',m',al5,adB,al6,aJt,aL0,?_,?_,?_⟩
   ·intro t ht hno
    have hne:ops[i].dst≠some t:=by
     intro e;have :=hno i _ L e;simp[Array.getD,h1,hi']at this
    have hold:(a.put ops[i].dst v).tmps.getD t undef=a.tmps.getD t undef:=by
     cases hdi:ops[i].dst with
     |none=>rfl
     |some d=>exact hdi▸hother d t hdi (fun e=>hne (by rw[hdi,e]))
    rw[hold];refine(h5 t ht (fun j o s q=>?_)).mono hgr hnm;have hij:i≠j:=fun e=>by subst e;rw[L]at s;obtain rfl:=Cm s;exact hne q
    have :=hno j o s q;simpa only[Gu,Js hij]using this
   ·intro k o d hk hkd hl;by_cases hik:i=k
    ·subst hik;rw[L]at hk;obtain rfl:=Cm hk;rw[hkd,aNW (by rw[hsz];exact Hz i _ d L hkd)];exact hR
    have hl':l.getD k false=true:=by
     simp only[Gu,Js hik]at hl ⊢;exact hl
    have :=(h6 k o d hk hkd hl').mono hgr hnm;cases hdst:ops[i].dst with
    |none=>exact this
    |some d'=>
     have hne:d'≠d:=fun e=>hik (hinj i k _ _ d' L hk hdst (e▸hkd));rw[←hdst,hother d' d hdst hne];exact this
   intro j o s hl k hk;have hil:i<l.size:=AA
   by_cases hik:i=k
   ·subst hik;simp[Array.getD,hil]
   have hkk:l.getD k false=true:=by
    by_cases hij:i=j
    ·subst hij;rw[L]at s;obtain rfl:=Cm s;exact(M k hk).1
    have hl':l.getD j false=true:=by
     simp only[Gu,Js hij]at hl ⊢;exact hl
    exact h7 j o s hl' k hk
   simp only[Gu,Js hik]at hkk ⊢;exact hkk
  unfold wpOpIn;rw[L];show if Region.wanted ops[i] (yielded ops a.tmps)=true then _ else _
  rcases(Iw i ops[i] AA hiN L).1 with⟨ns,hop,aeY,hnt,hg⟩|⟨hx,hev,hg⟩
  ·have hwant:Region.wanted ops[i] (yielded ops a.tmps)=true:=by
    unfold Region.wanted;rcases hg with hg|⟨j,want,d,b,hg,s,u,rfl⟩
    ·rw[hg]
    rw[hg];show(yielded ops a.tmps j==some b)=true;rw[Vl j d _ ((Y i _ L).2 j b hg) s u];simp
   rw[D7 hwant];refine QD ?_ (hop.inR ro C ok H a w _ hmem (fun n hn=>?_))
   ·rintro a' w' ⟨v,ok',H',rfl,hgr,hnn,hm',hx⟩;exact hput _ v ok' H' w' rfl hgr hnn hm' hx
   have hnv:=Oa aeY n hn;obtain⟨x,y⟩:=n;simp only at hnv ⊢;subst hnv;cases x with
   |tmp t=>
    refine hread t ?_;rw[ER]at hnt
    have :t∈Me ns:=by
     unfold Me;rw[Rw];exact⟨_,hn,rfl⟩
    simpa using hnt t this
   |const v=>exact .d _ _ (.lit v)
   |global g=>exact .d _ _ (.lit _)
   |func f=>exact .d _ _ (.fn (.func f) [] [] #[] #[] rfl rfl (fun i hi=>Ns) (fun i hi=>Ns))
  have hwant:Region.wanted ops[i] (yielded ops a.tmps)=false:=by
   unfold Region.wanted;obtain⟨j,want,d,v,hg,s,u,hv⟩:=hg;rw[hg];show(yielded ops a.tmps j==some want)=false;rw[Vl j d _ ((Y i _ L).2 j want hg) s u];rcases hv with rfl|rfl
   ·simp
   rfl
  rw[DF (by rw[hwant];simp)];exact⟨fun _ _=>trivial,hput _ _ ok H w hx.symm (.refl _ _) (.refl _) (by rw[hev];exact hmem) (.d _ _ (.lit _))⟩
 ·rintro l a w (⟨h1,hlN,ok,H,m,Lu,adK,hmem,hsz,hdf,h5,h6,h7⟩|⟨h1,_,h2⟩) hr
  rotate_left
  ·exact h2
  have hall:∀n i,i<n→i<ops.size→l.getD i false=true:=by
   intro n
   induction n with
   |zero=>intro i hi;omega
   |succ n ih=>
    intro i hi hi2;by_cases hn:i<n
    ·exact ih i hn hi2
    have hin:i=n:=AA
    subst hin;rw[←aMG];intro hf;have L:ops[i]? =some ops[i]:=by simp[hi2]
    have hmem:i∈Region.ready .any ops l:=by
     unfold Region.ready;rw[Gn];refine⟨by simpa using hi2,?_⟩;have hil:i<l.size:=AA
     have hf':l.getD i true=false:=aCo
     rw[hf',L];simp only[IX,Fe,IB,MC];rw[QF];intro e he;cases hbe:Region.binds .any e with
     |false=>simp
     |true=>
      have hlt:=Px i _ L e sG hbe;rw[ih e.on AA AA];simp
    rw[hr]at hmem;simp at hmem
  have :=hall (N+1) N AA AA;rw[hlN]at this;cases this
 ·unfold toCome;simp
 refine .inl ⟨BU,aGD,ok,H,0,EY _,fun b u _=>aGD,?_,hh.size,hh.defers.mono (fun b u=>⟨u,rfl⟩),fun t ht _=>?_,fun i o d _ _ hl=>?_,fun j o _ hl=>?_⟩
 ·exact⟨⟨hh.mem.fr.os,hh.mem.fr.tape,hh.mem.fr.output,hh.mem.fr.size,hh.mem.fr.block⟩,hh.mem.yA,hh.mem.yB,hh.mem.kL,hh.mem.names,hh.mem.hlen,fun k e h h1 h2=>(hh.mem.ent k e h h1 h2).drew,hh.mem.blk,hh.mem.EJ⟩
 ·exact R.mono (w:=w) (ok:=ok) (w':={ w with drawn:=w.drawn+1 }) (fun b u=>⟨u,rfl⟩) (.refl _) (hh.slot t ht)
 ·simp[Array.getD]at hl
 simp[Array.getD]at hl
def AB.aAX {id:Nat} {σ σ':BL} {Q:Exit→BL→Prop} {rs:List Ag} {ess:List (List BQ)} {bs:List Bool} (N:Nat) (h:FC P ops (ops.toList.take N) σ rs ess bs σ') (u:DR P ops (ops.toList.drop N) σ' Q) (n:N+1=ops.size:=by kernel_rfl) (J:P.follows .mixedOrders=true:=by kernel_rfl) (f:(VJ ops&&WM ops&&UR ops σ.slots.length&&VT ops)=true:=by kernel_rfl) (q:bs.length=N:=by kernel_rfl) (j:Xo ops (bs++[true])=true:=by kernel_rfl):AB P (.region id ops true) σ Q:=by
 refine AB.aDR N n J f q j h fun ro C ok H a w L=>?_;have z:N<ops.size:=AA
 have hd:ops.toList.drop N=[ops[N]]:=by
  rw[LV bf];simp[←n]
 rw[hd]at u;have I:=u.run ro [] (fun e a' w'=>∃ok' H' σ',Holds C ok' H' σ' a' w'∧Q e σ') C ok H a w L ⟨fun σ' ok' H' a' w' s m=>⟨ok',H',σ',m,s⟩,fun v σ' ok' H' a' w' s m=>⟨ok',H',σ',m,s⟩⟩;unfold wpOpIn;have M:ops[N]? =some ops[N]:=by simp[z]
 rw[M];simp only[WT,IE,wpListIn]at I;exact I
end
section
variable {P : Program} {o : Oper} {es : List BQ}
def aBo {t:TypeId} (e s:Nat) (q:(P.info? t).bind (·.zero)=some (.slice none 0 0)) (u:o.op=.alloc t):Bq P o [] es (.ptr (es.length+1) 0) (es++[.arr e s [],.box [.aO es.length]]):=
 .eff fun C ok H a w h O=>by
  obtain⟨n,S⟩:=aM6 h e s;have f:(H++[(⟨.slice none 0 0,s⟩:Bo)]).length=(es++[BQ.arr e s []]).length:=n.hlen;have z:(H++[(⟨.slice none 0 0,s⟩:Bo)])[es.length]? =some ⟨.slice none 0 0,s⟩:=yK
  have I:Em ok (w.alloc (.cells #[.slice none 0 0] t)) ((H++[⟨.slice none 0 0,s⟩])++[⟨.pointer (some ⟨w.heap.size,0,none⟩),0⟩]) ⟨.pointer (some ⟨w.heap.size,0,none⟩),0⟩ (.box [.aO es.length]):=by
   refine⟨w.heap.size, #[.slice none 0 0],t,rfl,WU w _,rfl,fun i hi=>?_⟩
   match i,hi with
   |0,_=>exact⟨rfl,.aO _ none 0 0 s (by rw[GH (by simp[h.hlen])];exact z)⟩
  obtain⟨J,L⟩:=n.push (.cells #[.slice none 0 0] t) ⟨.pointer (some ⟨w.heap.size,0,none⟩),0⟩ _ (aCm w) I;have j:D5 C ok ((H++[⟨.slice none 0 0,s⟩])++[⟨.pointer (some ⟨w.heap.size,0,none⟩),0⟩]) (es++[.arr e s [],.box [.aO es.length]]) (w.alloc (.cells #[.slice none 0 0] t)):=by simpa[H7]using J
  refine⟨.pointer (some ⟨w.heap.size,0,none⟩),_,ok,_,.inl ?_,L,(Names.push _ _).trans (Names.push _ _),j,.ptr _ _ w.heap.size 0 ?_⟩
  ·obtain⟨i,hi,m⟩:=bY.1 q;have M:Value.cells (.slice none 0 0)= #[.slice none 0 0]:=rfl;simp[execOp,u,Instr.alloc,zeroValue,typeInfo,hi,m,newVar,newRow,M]
  rw[Jd (by rw[f];simp),f];simp
def zD {α:Type} {x y:Operand} {t e:TypeId} {k n:Nat} {kd:IntKind} {i:Int} (enc:α→D) {l:List α} {a:α} (h:Aq l i=some a) (hl:l.length=n) (I:P.underlying t=some (.array n e)) (J:EC P e false 1) (L:es[k]? =some (.box (Ai (MH enc l)))) (M:o.op=.indexAddr t x y):
 Bq P o [(x,.ptr k 0),(y,.d (.lit (.int kd i)))] es (.ptr k i.toNat) es:=
 .pure fun ok H O w f m u=>by
  obtain⟨S,U⟩:=Fb h;obtain⟨hd,hh,_⟩:=G7 f m L;have q:=(Ee u).1;have z:=(Ee u).2.lit;simp only at q z;have Y:=(FV.1 U).1;have Z:(underlying t).run P w=.ok (.array n e) w:=by simp[underlying,I]
  generalize hv:O.eval x=v at q;cases q with
  |ptr _ _ b s hH=>
   have hb:0≤i∧i<n:=⟨S,AA⟩
   refine⟨.pointer (some ⟨b,i.toNat,none⟩),?_,.ptr k _ b s hH⟩;have j:(⟨b,0,none⟩:Addr).add i.toNat=⟨b,i.toNat,none⟩:=by rw[addr_add,J4]
   simp[execOp,M,hv,z,Instr.indexAt,asIntOf,Z,Instr.sureAddr,hb,J.size w,j]
def agp {α:Type} {i:Int} {enc:α→D} {l:List α} {a:α} (h:Aq l i=some a):(Ai (MH enc l))[i.toNat]? =some (.d (enc a)):=by
 have f:=(Fb h).2;simp[Ai,MH,D.cells,f]
def aA7 {α:Type} {x:Operand} {t:TypeId} {k:Nat} {i:Int} (enc:α→D) {l:List α} {a:α} (h:Aq l i=some a) (f:es[k]? =some (.box (Ai (MH enc l)))) (j:EC P t false 1) (m:o.op=.load t x):Bq P o [(x,.ptr k i.toNat)] es (.d (enc a)) es:=aSC f (agp h) j m
def aaT {t:TypeId} {x:Operand} {y:D} (f:match P.underlying t with |some (.interface _)=>false|some _=>true|none=>false) (m:o.op=.makeInterface t x):Bq P o [(x,.d y)] es (.d (.Po t y)) es:=
 .pure fun ok H a w _ _ n=>by
  have q:Du ok w y (a.eval x):=by have :=n (x,.d y) BU;cases this with |d _ _ h=>exact h
  refine⟨.iface t (a.eval x),?_,.d _ _ (.Po t y _ q)⟩;cases j:P.underlying t with
  |none=>rw[j]at f;cases f
  |some d=>
   rw[j]at f;have s:(underlying t).run P w=.ok d w:=by simp[underlying,j]
   cases d<;>first|(cases f;done)|simp[execOp,m,Instr.makeInterface,s]
def ac4 {t:TypeId} {x:Operand} (us:List Value) (f:match P.underlying t with |some (.interface _)=>false|some _=>true|none=>false) (m:o.op=.makeInterface t x):Bq P o [(x,.d (.agg (us.map .lit)))] es (.d (.lit (.iface t (.agg us.toArray)))) es:=
 .pure fun ok H a w _ _ n=>by
  have j:=(n (x,.d (.agg (us.map .lit))) BU).ahi;simp only at j;refine⟨.iface t (.agg us.toArray),?_,.d _ _ (.lit _)⟩;cases h:P.underlying t with
  |none=>rw[h]at f;cases f
  |some d=>
   rw[h]at f;have q:(underlying t).run P w=.ok d w:=aJJ
   cases d<;>first|(cases f;done)|simp[execOp,m,Instr.makeInterface,q,j]
def wQ (P:Program) (t:TypeId) (h:String) (f:FuncId):Bool:=
 match P.info? t with
 |some i=>(match i.methods.find? (·.name==h)with
  |some m=>m.path.toList.isEmpty&&(match m.func with |some (g,p)=>decide (g=f)&& !p|none=>false)
  |none=>false)&&(match P.underlying t with |some (.pointer _)=>false|some _=>true|none=>false)
 |none=>false
def anO {t:TypeId} {j:String} {f:FuncId} (h:wQ P t j f=true) (n:Nat) (v:Value) (w:World):(method (n+1) t v j).run P w=.ok (f,v) w:=by
 unfold wQ at h;split at h
 ·rename_i i hi;rw[DJ]at h;obtain⟨q,s⟩:=h;split at q
  ·rename_i m I;rw[DJ]at q;obtain⟨J,u⟩:=q;split at u
   ·rename_i g p L;simp only[DJ,Gi,RZ]at u;obtain⟨rfl,rfl⟩:=u;have M:m.path.toList=[]:=List.isEmpty_iff.1 J;cases z:P.underlying t with
    |none=>rw[z]at s;cases s
    |some d=>
     rw[z]at s;have O:∀w,(underlying t).run P w=.ok d w:=fun w=>by simp[underlying,z]
     cases d<;>first|(cases s;done)|simp[method,typeInfo,hi,I,M,follow,L,receiverAt,O,Place.get]
   cases u
  cases q
 cases h
def ab7 {f:FuncId} {j:Operand} {s:String} {ops:Array Operand} {ats:Array TypeId} {t:TypeId} (x:D) (m:List D) {q:Ag} (hr:Ap P f ((x::m).map .d) [] q []) (hf:Dt P f=true) (z:wQ P t s f=true) (hl:ops.toList.length=m.length) (L:q.up [] es.length=q)
 (ho:o.op=.call { callee:=.invoke j s,args:=ops,argTypes:=ats }):Bq P o ((j,.d (.Po t x))::F5 ops.toList (m.map .d)) es q es:=by
 intro C ok H a w Q hm hn;have S:=hn (j,.d (.Po t x)) BU;simp only at S;have I:=vW (xs:=ops.toList) (vs:=m.map .d) (by simpa using hl) (fun n U=>hn n (Hr _ U));generalize hv:a.eval j=v at S;cases S with
 |d _ _ h=>
  cases h with
  |Po _ _ u h1=>
   unfold Oper.wp
   have he:(execOp a.eval o).run P w=.ok (.enter f (#[u]++ops.map a.eval)) w:=by
    have h2:=TP hf (#[u]++ops.map a.eval) w;have J:=anO z (P.types.size+99) u w;have Y:(#[Value.iface t u]++ops.map a.eval)[0]? =some (.iface t u):=by rw[Xi BU];rfl
    have Z:(#[Value.iface t u]++ops.map a.eval).extract 1 (#[Value.iface t u]++ops.map a.eval).size=ops.map a.eval:=by
     apply aJp;rw[Array.toList_extract];simp only[Array.size_append,Array.size_map,List.extract_eq_take_drop,Array.toList_append,iW,Om];simp;exact PW BU
    simp only[execOp,ho,resolve,hv,F7,Fr,FI,invoke,Y,Z,callMethod];have h6:(program).run P w=.ok P w:=rfl;simp only[h6,FI];have h7:P.types.size+Made.depth=P.types.size+99+1:=rfl;rw[h7,J];exact h2
   rw[he,Zm];have M:(ops.map a.eval).size=m.length:=by simpa using hl
   refine(aeI hm hr _ (by simp at M;simp[M];omega) (fun i hi=>?_) L).mono ?_
   ·cases i with
    |zero=>
     have e0:(#[u]++ops.map a.eval).getD 0 undef=u:=by simp[Gu,Xi]
     rw[e0];exact h1
    |succ i=>
     have O:i<m.length:=Fj
     have J:=I i aBO;have e1:(m.map Ag.d).getD i .junk=.d (m.getD i Dp):=by simp[List.getD,O]
     have hi2:i<ops.size:=aT9
     have e2:(#[u]++ops.map a.eval).getD (i+1) undef=(ops.toList.map a.eval).getD i undef:=by
      simp only[Gu,List.getD];rw[aHi BU];simp[hi2]
     rw[e2];rw[e1]at J;have e3:(x::m).getD (i+1) Dp=m.getD i Dp:=BU
     rw[e3];cases J with |d _ _ h=>exact h
   rintro e w' ⟨v,ok',H',rfl,J,Y,Z,h6⟩;exact⟨v,ok',H',rfl,J,Y,Z,h6⟩
end
section
variable {P : Program} {ops : Array Oper} {o : Oper} {rest l : List Oper} {σ : BL} {K : Exit → BL → Prop}
def DR.Dc {f:FuncId} {eH:List Ag} {u:Value} (S:adh P f eH u) (U:Dt P f=true) (h:K (vF u) σ) (s:UY σ o=some (f,eH):=by kernel_rfl) (hd:eH.all Ag.Ah=true:=by kernel_rfl) (Y:KJ ops σ o.guard=some true:=by kernel_rfl):DR P ops (o::rest) σ K:=by
 refine⟨fun ro Z Q C ok H a w j hk=>?_⟩;show wpListIn (Io ro) 0 P ops Q (o::(rest++Z)) a w;unfold wpListIn;rw[D7 (Ox j (Ln Y))];unfold UY at s;split at s
 ·rename_i c J;split at s
  ·rename_i f' q;cases s;obtain⟨callee,args,ats⟩:=c;simp only at q;subst q;have n:(execOp a.eval o).run P w=.ok (.enter f (args.map a.eval)) w:=by rw[tH J,TP U]
   unfold Oper.wpIn;rw[kE _ _ _ (by rw[J];intro c h;cases h),n]
   have I:D5 ⟨w,ok,[],[]⟩ ok [] [] w:=
    ⟨.refl _ _,fun _ h=>h,fun _ h=>.inl h,j.mem.kL,.refl _,rfl,fun k e h n=>bJ,fun k e h b n=>bJ,fun k k' e e' h h' b n=>bJ⟩
   have key:Calls P f (args.map a.eval) w fun e w'=>e=.panicked [{ v:=u,recovered:=false }]∧∃ok',Holds C ok' H σ a w':=by
    refine(S ok [] [] w _ I BU (fun i hi=>?_)).mono ?_
    ·have z:i<args.size:=Fj
     have e1:(args.toList.map σ.get).getD i .junk=σ.get args[i]:=by simp[List.getD,z]
     have e2:(args.map a.eval).getD i undef=a.eval args[i]:=by simp[Array.getD,z]
     have L:Ag.Ah (σ.get args[i])=true:=by
      rw[ER]at hd;exact hd _ (Fh.2 ⟨args[i],BU,rfl⟩)
     have M:=j.get args[i];rw[e1,e2];generalize σ.get args[i]=y at L M;cases y with
     |d y=>cases M with |d _ _ h=>exact .d _ _ h
     |_=>cases L
    rintro e w' ⟨ok',H',rfl,m⟩;obtain⟨h1,O⟩:=j.mem.change (ok':=ok) (H':=H) (es':=σ.ents) (w':=w') (fun _=>False) m.fr.os m.fr.tape m.fr.output m.fr.size (fun b hb _=>m.fr.block b hb BU) (fun _ h=>h.elim) (fun _ h=>h) (fun _ h=>.inl h) (.refl _) j.mem.hlen (fun k e h n j=>.inl ⟨n,j,fun _ _ _ h=>h⟩);exact⟨rfl,ok,h1,j.size,j.defers.mono O,j.base,fun t ht=>(j.slot t ht).mono O (.refl _)⟩
   refine⟨fun _ _=>trivial,fun h=>I4,aEX.2 (key.mono ?_)⟩;rintro e w' ⟨rfl,ok',h5⟩;exact hk.2 _ _ _ _ _ _ h h5
  cases s
 cases s
end
def L8 {α β:Type} (r:Except Value α) (f:α→Option (Except Value β)):Option (Except Value β):=
 match r with
 | .ok a=>f a
 | .error u=>some (.error u)
def atM (p:Addr) (w:World):
 CallsD Tryz.prog 120 #[.pointer (some p)] .returning w fun e f w'=>e=.returned (.tuple #[])∧f=.returning∧w'=w:=by
 refine aCG Tryz.func120 rfl fun h cs j=>?_;apply PL;apply PD;simp[wpOpsS,go_sem,recoverD,j,Tryz.ntmps120,Exit.thenS];apply PL;apply PD;simp[wpOpsS,go_sem,Exit.thenS];refine jc (t:=false) iZ ?_;simp only[RG,Jg];refine wpS_of_wp (wp_skip ?_);cases h
 simp_all [bodyPostS,results,Tryz.results120]
def arH (b:Nat) (x:Value) (n:Int) (w:World) (u:w.heap[b]? =some (.cells #[x] 68 (0,0))):
 CallsD Tryz.prog 120 #[.pointer (some ⟨b,0,none⟩)] (.panicking [{ v:=.iface 150 (.agg #[.int .i64 n]),recovered:=false }]) w fun e z w'=>
  e=.returned (.tuple #[])∧z=.panicking [{ v:=.iface 150 (.agg #[.int .i64 n]),recovered:=true }]∧w.grownBy w' (some b)∧w'.heap[b]? =some (.cells #[.int .i64 n] 68 (0,0)):=by
 have h:∀(I:TypeId) (w:World),(Instr.typeAssert (.iface 150 (.agg #[.int .i64 n])) I 150 true).run Tryz.prog w=.ok (.tuple #[.agg #[.int .i64 n],.bool true]) w:=fun _ _=>A8
 have J:∀w:World,(Instr.alloc 150 true (.tuple #[])).run Tryz.prog w=.ok (.pointer (some ⟨w.heap.size,0,none⟩)) (w.alloc (.cells #[.int .i64 0] 150)):=fun w=>by
  simp[Instr.alloc,go_sem]
 have hst:∀w:World,(Instr.storeAt 150 (.pointer (some ⟨w.heap.size,0,none⟩)) (.agg #[.int .i64 n])).run Tryz.prog (w.alloc (.cells #[.int .i64 0] 150))=.ok () (w.alloc (.cells #[.int .i64 n] 150)):=fun w=>by
  simp[Instr.storeAt,go_sem]
 refine aCG Tryz.func120 rfl fun O cs L=>?_;apply PL;apply PD;simp[wpOpsS,go_sem,recoverD,L,Tryz.ntmps120,Exit.thenS];apply PL;apply PD;simp[wpOpsS,go_sem,Exit.thenS];refine jc (t:=true) iZ ?_;simp only[JQ];apply PL;apply PD;simp[wpOpsS,execOp,h,J,hst,go_sem,Exit.thenS];apply PL;apply PL;apply PD;simp[wpOpsS,go_sem,Exit.thenS];refine jc (t:=false) iZ ?_;simp only[RG,Jg];refine wpS_of_wp (wp_skip ?_);simp only[Exit.thenS];have j:b<w.heap.size:=(Fq.1 u).1;have f:(w.alloc (.cells #[.int .i64 n] 150)).heap[b]? =some (.cells #[x] 68 (0,0)):=(JY _ _ _ j).trans u;have M:(w.alloc (.cells #[.int .i64 n] 150)).cell? ⟨b,0,none⟩=some x:=aBq
 have m:(w.alloc (.cells #[.int .i64 n] 150)).frozen? ⟨b,0,none⟩=false:=by simp[World.frozen?,f]
 apply PD;simp[wpOpsS,go_sem,Exit.thenS,M,m,bodyPostS,results,Tryz.results120]
 have key:(w.alloc (.cells #[.int .i64 n] 150)).setCell ⟨b,0,none⟩ (.int .i64 n)=(w.alloc (.cells #[.int .i64 n] 150)).putObj b (.cells #[.int .i64 n] 68 (0,0)):=by
  simp only[World.setCell,World.putObj];congr 1;apply uz;intro i;rw[OC,aM8];by_cases e:b=i
  ·subst e;rw[D7 rfl,D7 rfl,f,D7 (Fq.1 f).1];rfl
  rw[DF e,DF e]
 rw[key];have q:b<(w.alloc (.cells #[.int .i64 n] 150)).heap.size:=(Fq.1 f).1;refine⟨⟨rfl,rfl,rfl,BU,fun i hi s=>?_⟩,VP q⟩;rw[Xy (fun e=>s (by rw[e]))];exact JY _ _ _ hi
def S9 {T:Type}:Except Value T→Option Int
 | .ok _=>some 0
 | .error (.iface t (.agg cs))=>bif t==150 then(match cs.toList with | [.int .i64 n]=>some n|_=>none)else none
 | .error _=>none
def aSK (b:Nat) (n:Int) (w:World) (f:w.heap[b]? =some (.cells #[.int .i64 n] 68 (0,0))) (tmps:Array Value) (h:tmps.getD 2 undef=.pointer (some ⟨b,0,none⟩)):(results Tryz.f81 tmps).run Tryz.prog w=.ok (.int .i64 n) w:=by
 have j:w.cell? ⟨b,0,none⟩=some (.int .i64 n):=aBq
 have e:results Tryz.f81 tmps=(do let v ←loadVar 68 (←asAddr (tmps.getD 2 undef));pure v):=by simp[results,Tryz.results81]
 rw[e,h];simp[go_sem,j]
def ail {g:FuncId} {us:Array Value} {w:World} {n:Int} (he:∀(vs:Array Value) (w:World),(callFunc g vs).run Tryz.prog w=.ok (.enter g vs) w)
 (z:Calls Tryz.prog g us (w.alloc (.cells #[.int .i64 0] 68 (0,0))) fun e s=>(w.alloc (.cells #[.int .i64 0] 68 (0,0))).grownBy s none∧((∃v,e=.returned v∧n=0)∨e=.panicked [{ v:=.iface 150 (.agg #[.int .i64 n]),recovered:=false }])):
 Calls Tryz.prog 81 #[.func (.func g) #[] us] w fun e w'=>e=.returned (.int .i64 n)∧w.grownBy w' none:=by
 have S:∀(fn:Fn) (first cap:Array Value) (w:World),(Instr.makeFunc fn first cap).run Tryz.prog w=.ok (.func fn first cap) w:=fun _ _ _ _=>rfl;have q:w.grownBy (w.alloc (.cells #[.int .i64 0] 68 (0,0))) none:=⟨rfl,rfl,rfl,BU,fun i hi _=>JY _ _ _ hi⟩
 go_enter_defers Tryz.func81,Tryz.ntmps81
 apply wp_seq;apply aQ;refine .inl ?_;simp[Oper.wp,go_sem,wpList,Exit.then];apply wp_seq;apply aQ;refine .inl ?_;simp[Oper.wp,go_sem,S,wpList,Exit.then];refine .inl ?_;apply wp_seq;apply aQ;refine .inl ?_;simp[Oper.wp,go_sem,he,wpList,Exit.then];refine .inl (z.mono ?_);rintro e s ⟨J,h⟩;have L:s.heap[w.heap.size]? =some (.cells #[.int .i64 0] 68 (0,0)):=(J.block w.heap.size BU BU).trans (kN _ _);have M:w.heap.size<s.heap.size:=(Fq.1 L).1;have j:w.grownBy s none:=⟨J.os.trans q.os,J.tape.trans q.tape,J.output.trans q.output,Ej q.size J.size,fun i hi O=>(J.block i Dy O).trans (q.block i hi O)⟩
 have u:∀(U:World) (m:Int),s.grownBy U (some w.heap.size)→w.grownBy U none:=fun U m I=>⟨I.os.trans j.os,I.tape.trans j.tape,I.output.trans j.output,Ej j.size I.size,fun i hi O=>(I.block i (by have :=j.size;omega) Dy).trans (j.block i hi O)⟩
 rcases h with⟨v,rfl,rfl⟩|rfl
 ·have hc:s.cell? ⟨w.heap.size,0,none⟩=some (.int .i64 0):=by rw[World.cell?,L];rfl
  have Y:s.frozen? ⟨w.heap.size,0,none⟩=false:=by simp[World.frozen?,L]
  apply wp_seq;apply aQ;refine .inl ?_;simp[Oper.wp,go_sem,hc,Y,wpList,Exit.then];apply wp_ret
  have key:s.setCell ⟨w.heap.size,0,none⟩ (.int .i64 0)=s.putObj w.heap.size (.cells #[.int .i64 0] 68 (0,0)):=by
   simp only[World.setCell,World.putObj];congr 1;apply uz;intro i;rw[OC,aM8];by_cases e:w.heap.size=i
   ·subst e;rw[D7 rfl,D7 rfl,L,D7 M];rfl
   rw[DF e,DF e]
  rw[key];refine leaves_cons (f:=120) (args:= #[.pointer (some ⟨w.heap.size,0,none⟩)]) BU aCp ?_;refine(atM ⟨w.heap.size,0,none⟩ _).mono ?_;rintro e u' Z ⟨rfl,rfl,rfl⟩;refine⟨.int .i64 0,aSK w.heap.size 0 _ (VP M) _ rfl,rfl,u _ 0 ⟨rfl,rfl,rfl,BU,fun i hi hne=>Xy (fun e=>hne (by rw[e]))⟩⟩
 refine leaves_cons (f:=120) (args:= #[.pointer (some ⟨w.heap.size,0,none⟩)]) BU aCp ?_;refine(arH w.heap.size (.int .i64 0) n s L).mono ?_;rintro e u' Z ⟨rfl,rfl,I,h4⟩;exact⟨.int .i64 n,aSK w.heap.size n _ h4 _ rfl,rfl,u _ n I⟩
def aQI {T:Type} {res:T→Ag} (g:FuncId) (f:List D) (r:Except Value T) (hr:Ob Tryz.prog g (f.map .d) r res) (J:Dt Tryz.prog g=true) (n:Int) (q:S9 r=some n):
 BD 81 [.d (.fn (.func g) [] f)] [] (.d (AZ n)) []:=by
 intro ok X H w z hm hs ha;obtain rfl:H=[]:=Gt hm.hlen;have Z:=ha 0 BU
 obtain⟨fv,rfl⟩:∃fv,z= #[fv]:=by
  have h1:z.size=1:=hs;exact⟨z[0],by apply ZV (by simp[h1]);intro i h1 h2;simp at h2;subst h2;rfl⟩
 have Z:R ok w [] (.d (.fn (.func g) [] f)) fv:=Z;cases Z with
 |d _ _ Z=>
 cases Z with
 |fn _ _ _ vs us hl1 hl2 h1 h2=>
 obtain rfl:vs= #[]:=Zf (by simpa using hl1);obtain⟨s,O⟩:∃s,s=w.alloc (.cells #[.int .i64 0] 68 (0,0)):=⟨_,rfl⟩
 have hg1:EO ok w ok s:=fun b M=>⟨M,by rw[O];exact JY _ _ _ (hm.kL b M)⟩
 have hmc:D5 ⟨s,ok,[],[]⟩ ok [] [] s:=
  ⟨.refl _ _,fun _ h=>h,fun _ h=>.inl h,fun b M=>by rw[O];simp;exact Nat.lt_succ_of_lt (hm.kL b M),.refl _,rfl,fun k e h J=>Yu,fun k e h b J=>Yu,fun k k' e e' h h' b J=>Yu⟩
 have I:∀i,i<(f.map Ag.d).length→R ok s [] ((f.map Ag.d).getD i .junk) (us.getD i undef):=fun i hi=>by
  rw[D6]at hi;have e1:(f.map Ag.d).getD i .junk=.d (f.getD i Dp):=Le
  rw[e1];exact .d _ _ ((h2 i hi).mono hg1)
 have hgr:∀{S:Nat→Prop} {H2:List Bo} {Y:World},D5 ⟨s,ok,[],[]⟩ S H2 [] Y→s.grownBy Y none:=fun j=>⟨j.fr.os,j.fr.tape,j.fr.output,j.fr.size,fun b M _=>j.fr.block b M BU⟩
 have U:Calls Tryz.prog g us s fun e Y=>s.grownBy Y none∧((∃v,e=.returned v∧n=0)∨e=.panicked [{ v:=.iface 150 (.agg #[.int .i64 n]),recovered:=false }]):=by
  cases L:r with
  |ok x=>
   rw[L]at q;refine(hr.1 x L ok [] [] s us hmc (by simpa using hl2) I).mono ?_;rintro e Y ⟨v,S,H2,rfl,j,_⟩;exact⟨hgr j,.inl ⟨v,rfl,(Cm q).symm⟩⟩
  |error u=>
   rw[L]at q
   have hu:u=.iface 150 (.agg #[.int .i64 n]):=by
    unfold S9 at q;split at q
    ·rename_i h;cases h
    ·rename_i t cs h;cases h;cases ht:(t==150)with
     |false=>rw[ht]at q;cases q
     |true=>
      rw[ht]at q;simp only[Bg]at q;obtain rfl:t=150:=by simpa using ht
      split at q
      ·rename_i m hcs;obtain rfl:=Cm q;rw[←lD (xs:=cs),hcs]
      cases q
    cases q
   refine(hr.2 u L ok [] [] s us hmc (by simpa using hl2) I).mono ?_;rintro e Y ⟨S,H2,rfl,j⟩;exact⟨hgr j,.inr (by rw[hu])⟩
 subst O;refine(ail (fun vs w=>TP J vs w) U).mono ?_;rintro e w' ⟨rfl,hg⟩;obtain⟨m1,_⟩:=hm.change (ok':=ok) (H':=[]) (es':=[]) (w':=w') (fun _=>False) hg.os hg.tape hg.output hg.size (fun b M _=>hg.block b M BU) (fun _ h=>h.elim) (fun _ h=>h) (fun _ h=>.inl h) (.refl _) rfl (fun k e h J=>Yu);exact⟨_,ok,[],rfl,m1,.d _ _ (.lit _)⟩
def setCell_eq {w:World} {b:Nat} {x y:Value} {t:TypeId} (f:w.heap[b]? =some (.cells #[x] t (0,0))):w.setCell ⟨b,0,none⟩ y=w.putObj b (.cells #[y] t (0,0)):=by
 simp only[World.setCell,World.putObj];congr 1;apply uz;intro i;rw[OC,aM8];by_cases e:b=i
 ·subst e;rw[D7 rfl,D7 rfl,f,D7 (Fq.1 f).1];rfl
 rw[DF e,DF e]
def asW (p q:Addr) (w:World):
 CallsD Tryz.prog 369 #[.pointer (some p),.pointer (some q)] .returning w fun e f w'=>e=.returned (.tuple #[])∧f=.returning∧w'=w:=by
 refine aCG Tryz.func369 rfl fun h cs j=>?_;apply PL;apply PD;simp[wpOpsS,go_sem,recoverD,j,Tryz.ntmps369,Exit.thenS];apply PL;apply PD;simp[wpOpsS,go_sem,Exit.thenS];refine jc (t:=false) iZ ?_;simp only[RG,Jg];refine wpS_of_wp (wp_skip ?_);cases h
 simp_all [bodyPostS,results,Tryz.results369]
def aso (b c:Nat) (ad:Option Addr) (n cap:Nat) (x:Value) (w:World) (L:w.heap[b]? =some (.cells #[.slice ad n cap] 26 (0,0))) (M:w.heap[c]? =some (.cells #[x] 26 (0,0))):
 CallsD Tryz.prog 369 #[.pointer (some ⟨b,0,none⟩),.pointer (some ⟨c,0,none⟩)] (.panicking [{ v:=.iface 317 (.agg #[]),recovered:=false }]) w fun e O w'=>
  e=.returned (.tuple #[])∧O=.panicking [{ v:=.iface 317 (.agg #[]),recovered:=true }]∧w.grownBy w' (some c)∧w'.heap[c]? =some (.cells #[.slice ad n cap] 26 (0,0)):=by
 have h:∀(S:TypeId) (w:World),(Instr.typeAssert (.iface 317 (.agg #[])) S 317 true).run Tryz.prog w=.ok (.tuple #[.agg #[],.bool true]) w:=fun _ _=>A8
 refine aCG Tryz.func369 rfl fun Y cs U=>?_;apply PL;apply PD;simp[wpOpsS,go_sem,recoverD,U,Tryz.ntmps369,Exit.thenS];apply PL;apply PD;simp[wpOpsS,go_sem,Exit.thenS];refine jc (t:=true) iZ ?_;simp only[JQ];apply PL;apply PL;apply PD;simp[wpOpsS,execOp,h,go_sem,Exit.thenS];apply PL;apply PD;simp[wpOpsS,go_sem,Exit.thenS];refine jc (t:=false) iZ ?_;simp only[RG,Jg];refine wpS_of_wp (wp_skip ?_);simp only[Exit.thenS];have j:b<w.heap.size:=(Fq.1 L).1;have m:c<w.heap.size:=(Fq.1 M).1;have q:(w.alloc (.cells #[] 317)).heap[b]? =some (.cells #[.slice ad n cap] 26 (0,0)):=(JY _ _ _ j).trans L;have f:(w.alloc (.cells #[] 317)).heap[c]? =some (.cells #[x] 26 (0,0)):=(JY _ _ _ m).trans M;have s:(w.alloc (.cells #[] 317)).cell? ⟨b,0,none⟩=some (.slice ad n cap):=by rw[World.cell?,q];rfl
 have u:(w.alloc (.cells #[] 317)).cell? ⟨c,0,none⟩=some x:=aBq
 have z:(w.alloc (.cells #[] 317)).frozen? ⟨c,0,none⟩=false:=by simp[World.frozen?,f]
 apply PD;simp[wpOpsS,go_sem,Exit.thenS,s,u,z,bodyPostS,results,Tryz.results369];rw[setCell_eq f];have I:c<(w.alloc (.cells #[] 317)).heap.size:=(Fq.1 f).1;refine⟨⟨rfl,rfl,rfl,BU,fun i hi J=>?_⟩,VP I⟩;rw[Xy (fun e=>J (by rw[e]))];exact JY _ _ _ hi
def step_fin (b:Nat) (v:Value) (w:World) (f:w.heap[b]? =some (.cells #[v] 26 (0,0))) (tmps:Array Value) (h:tmps.getD 6 undef=.pointer (some ⟨b,0,none⟩)):(results Tryz.f304 tmps).run Tryz.prog w=.ok v w:=by
 have j:w.cell? ⟨b,0,none⟩=some v:=aBq
 have e:results Tryz.f304 tmps=(do let v ←loadVar 26 (←asAddr (tmps.getD 6 undef));pure v):=by simp[results,Tryz.results304]
 rw[e,h];simp[go_sem,j]
def apX {l id:Value} {ad:Option Addr} {n cap:Nat} {w:World} {Rv:Value→World→Prop} {bad:Prop}
 (u:Calls Tryz.prog 370 #[l,.slice ad n cap,id] ((w.alloc (.cells #[.slice ad n cap] 26 (0,0))).alloc (.cells #[.slice none 0 0] 26 (0,0))) fun e j=>((w.alloc (.cells #[.slice ad n cap] 26 (0,0))).alloc (.cells #[.slice none 0 0] 26 (0,0))).grownBy j none∧((∃I Z m,e=.returned (.slice I Z m)∧Rv (.slice I Z m) j)∨(e=.panicked [{ v:=.iface 317 (.agg #[]),recovered:=false }]∧bad))):
 Calls Tryz.prog 304 #[l,.slice ad n cap,id] w fun e w'=>w.grownBy w' none∧((∃v j,e=.returned v∧Rv v j∧w.grownBy j none∧w.heap.size+1<j.heap.size∧j.grownBy w' (some (w.heap.size+1)))∨(e=.returned (.slice ad n cap)∧bad)):=by
 have hmf:∀(fn:Fn) (first cap:Array Value) (w:World),(Instr.makeFunc fn first cap).run Tryz.prog w=.ok (.func fn first cap) w:=fun _ _ _ _=>rfl;obtain⟨M,q⟩:∃M,M=(w.alloc (.cells #[.slice ad n cap] 26 (0,0))).alloc (.cells #[.slice none 0 0] 26 (0,0)):=⟨_,rfl⟩
 have hs1:M.heap.size=w.heap.size+2:=by rw[q];simp
 have S:M.heap[w.heap.size]? =some (.cells #[.slice ad n cap] 26 (0,0)):=by rw[q];exact(JY _ _ _ BU).trans (kN w _)
 have h1c:M.heap[w.heap.size+1]? =some (.cells #[.slice none 0 0] 26 (0,0)):=by
  have :=kN (w.alloc (.cells #[.slice ad n cap] 26 (0,0))) (.cells #[.slice none 0 0] 26 (0,0));rw[aIB]at this;rw[q];exact this
 have z:w.grownBy M none:=by
  rw[q];exact⟨rfl,rfl,rfl,Dy,fun i hi _=>(JY _ _ _ Dy).trans (JY _ _ _ hi)⟩
 have hcb:M.cell? ⟨w.heap.size,0,none⟩=some (.slice ad n cap):=by rw[World.cell?,S];rfl
 rw[←q]at u
 go_enter_defers Tryz.func304,Tryz.ntmps304
 apply wp_seq;apply aQ;refine .inl ?_;simp[Oper.wp,go_sem,wpList,Exit.then];rw[←q];have he:∀(vs:Array Value) (w:World),(callFunc 370 vs).run Tryz.prog w=.ok (.enter 370 vs) w:=fun vs w=>TP (P:=Tryz.prog) (f:=370) A8 vs w;refine .inl ?_;apply wp_seq;apply aQ;refine .inl ?_;simp[Oper.wp,go_sem,hmf,wpList,Exit.then];refine .inl ?_;apply wp_seq;apply aQ;refine .inl ?_;simp[Oper.wp,go_sem,wpList,Exit.then,hcb,he];refine .inl (.inl (.inl (u.mono ?_)));rintro e j ⟨O,h⟩;have hb:j.heap[w.heap.size]? =some (.cells #[.slice ad n cap] 26 (0,0)):=(O.block _ AA BU).trans S;have U:j.heap[w.heap.size+1]? =some (.cells #[.slice none 0 0] 26 (0,0)):=(O.block _ AA BU).trans h1c;have Y:w.heap.size+1<j.heap.size:=(Fq.1 U).1;have s:w.grownBy j none:=⟨O.os.trans z.os,O.tape.trans z.tape,O.output.trans z.output,Ej z.size O.size,fun i hi hn=>(O.block i AA hn).trans (z.block i hi hn)⟩
 have L:∀(w3:World),j.grownBy w3 (some (w.heap.size+1))→w.grownBy w3 none:=fun w3 J=>⟨J.os.trans s.os,J.tape.trans s.tape,J.output.trans s.output,Ej s.size J.size,fun i hi hn=>(J.block i AA Dy).trans (s.block i hi hn)⟩
 rcases h with⟨I,Z,m,rfl,hv⟩|⟨rfl,hbad⟩
 ·have hcc:j.cell? ⟨w.heap.size+1,0,none⟩=some (.slice none 0 0):=by rw[World.cell?,U];rfl
  have hfz:j.frozen? ⟨w.heap.size+1,0,none⟩=false:=by simp[World.frozen?,U]
  simp[hcc,hfz,go_sem,wpList,Exit.then];refine .inl (wp_ret ?_);rw[setCell_eq U];refine leaves_cons (f:=369) (args:= #[.pointer (some ⟨w.heap.size,0,none⟩),.pointer (some ⟨w.heap.size+1,0,none⟩)]) BU aCp ?_;refine(asW ⟨w.heap.size,0,none⟩ ⟨w.heap.size+1,0,none⟩ _).mono ?_;rintro e u' w'' ⟨rfl,rfl,rfl⟩;have J:j.grownBy (j.putObj (w.heap.size+1) (.cells #[.slice I Z m] 26 (0,0))) (some (w.heap.size+1)):=⟨rfl,rfl,rfl,BU,fun i hi hne=>Xy (fun e=>hne (by rw[e]))⟩
  exact⟨.slice I Z m,step_fin (w.heap.size+1) _ _ (VP Y) _ rfl,L _ J,.inl ⟨_,rfl,j,hv,s,Y,J⟩⟩
 refine leaves_cons (f:=369) (args:= #[.pointer (some ⟨w.heap.size,0,none⟩),.pointer (some ⟨w.heap.size+1,0,none⟩)]) BU aCp ?_;refine(aso w.heap.size (w.heap.size+1) ad n cap (.slice none 0 0) j hb U).mono ?_;rintro e u' w'' ⟨rfl,rfl,J,h4⟩;exact⟨.slice ad n cap,step_fin (w.heap.size+1) _ _ h4 _ rfl,L _ J,.inr ⟨rfl,hbad⟩⟩
def aDg {T:Type} (s:T):Except Value T→Option T
 | .ok x=>some x
 | .error (.iface t (.agg cs))=>bif t==317&&cs.toList.isEmpty then some s else none
 | .error _=>none
def ahU {T:Type} (enc:T→List D) (dl di:D) (s:T) (r:Except Value T) (hr:Ob Tryz.prog 370 [.d dl,.d (.sl (enc s)),.d di] r (fun x=>.d (.sl (enc x)))) (L:T) (S:aDg s r=some L):
 BD 304 [.d dl,.d (.sl (enc s)),.d di] [] (.d (.sl (enc L))) []:=by
 intro ok X H w q Z hs ha;obtain rfl:H=[]:=Gt Z.hlen;have hsz:q.size=3:=hs
 obtain⟨l,sv,id,rfl⟩:∃l sv id,q= #[l,sv,id]:=⟨q[0],q[1],q[2],by
  apply ZV (by simp[hsz]);intro i h1 h2
  match i,h2 with
  |0,_=>rfl
  |1,_=>rfl
  |2,_=>rfl⟩
 have a0:R ok w [] (.d dl) l:=ha 0 BU;have a1:R ok w [] (.d (.sl (enc s))) sv:=ha 1 BU;have a2:R ok w [] (.d di) id:=ha 2 BU
 have slv:∀{ok:Nat→Prop} {w:World} {H:List Bo} {xs:List D} {v:Value},R ok w H (.d (.sl xs)) v→∃ad n cap,v=.slice ad n cap:=fun h=>by
  cases h with
  |d _ _ h=>cases h with
   |sl0 ad cap=>exact⟨_,_,_,rfl⟩
   |sl=>exact⟨_,_,_,rfl⟩
 obtain⟨ad,n,cap,rfl⟩:=slv a1;obtain⟨z,U⟩:∃z,z=(w.alloc (.cells #[.slice ad n cap] 26 (0,0))).alloc (.cells #[.slice none 0 0] 26 (0,0)):=⟨_,rfl⟩
 have hs1:z.heap.size=w.heap.size+2:=by rw[U];simp
 have hg1:EO ok w ok z:=fun b m=>⟨m,by rw[U];exact(JY _ _ _ (by have h:=Z.kL b m;rw[aIB];omega)).trans (JY _ _ _ (Z.kL b m))⟩
 have hmc:D5 ⟨z,ok,[],[]⟩ ok [] [] z:=
  ⟨.refl _ _,fun _ h=>h,fun _ h=>.inl h,fun b m=>by have h:=Z.kL b m;rw[hs1];omega,.refl _,rfl,fun k e h he=>by simp at he,fun k e h b he=>by simp at he,fun k k' e e' h h' b he=>by simp at he⟩
 have M:∀i,i<3→R ok z [] ([Ag.d dl,.d (.sl (enc s)),.d di].getD i .junk) ((#[l,.slice ad n cap,id]:Array Value).getD i undef):=fun i hi=>by
  match i,hi with
  |0,_=>exact a0.mono hg1 (.refl _)
  |1,_=>exact a1.mono hg1 (.refl _)
  |2,_=>exact a2.mono hg1 (.refl _)
 have hgr:∀{f:Nat→Prop} {H2:List Bo} {J:World},D5 ⟨z,ok,[],[]⟩ f H2 [] J→z.grownBy J none:=fun j=>⟨j.fr.os,j.fr.tape,j.fr.output,j.fr.size,fun b m _=>j.fr.block b m BU⟩
 have O:Calls Tryz.prog 370 #[l,.slice ad n cap,id] z fun e J=>z.grownBy J none∧((∃Y n' I,e=.returned (.slice Y n' I)∧∃x f,r=.ok x∧D5 ⟨z,ok,[],[]⟩ f [] [] J∧Du f J (.sl (enc x)) (.slice Y n' I))∨(e=.panicked [{ v:=.iface 317 (.agg #[]),recovered:=false }]∧L=s)):=by
  cases hrr:r with
  |ok x=>
   refine(hr.1 x hrr ok [] [] z _ hmc rfl M).mono ?_;rintro e J ⟨v,f,H2,rfl,j,hR⟩;obtain⟨Y,n',I,rfl⟩:=slv hR;obtain rfl:H2=[]:=Gt j.hlen;exact⟨hgr j,.inl ⟨Y,n',I,rfl,x,f,rfl,j,by cases hR with |d _ _ h=>exact h⟩⟩
  |error u=>
   rw[hrr]at S
   have hu:u=.iface 317 (.agg #[])∧L=s:=by
    unfold aDg at S;split at S
    ·rename_i h;cases h
    ·rename_i t cs h;cases h;cases ht:(t==317&&cs.toList.isEmpty)with
     |false=>rw[ht]at S;cases S
     |true=>
      rw[ht]at S;simp only[DJ]at ht;obtain rfl:t=317:=by simpa using ht.1
      have :cs= #[]:=by rw[←lD (xs:=cs),List.isEmpty_iff.1 ht.2]
      subst this;exact⟨rfl,(Cm S).symm⟩
    cases S
   refine(hr.2 u hrr ok [] [] z _ hmc rfl M).mono ?_;rintro e J ⟨f,H2,rfl,j⟩;exact⟨hgr j,.inr ⟨by rw[hu.1],hu.2⟩⟩
 rw[U]at O;refine(apX O (Rv:=fun v J=>∃x f,r=.ok x∧D5 ⟨_,ok,[],[]⟩ f [] [] J∧Du f J (.sl (enc x)) v) (bad:=L=s)).mono ?_;rw[←U];rintro e w' ⟨hg,h⟩
 have mk:∀(f:Nat→Prop),(∀b,ok b→f b)→(∀b,f b→ok b∨(w.heap.size≤b∧b<w'.heap.size))→D5 ⟨w,ok,X,[]⟩ f [] [] w':=fun f h1 h2=>
  (Z.change (ok':=f) (H':=[]) (es':=[]) (w':=w') (fun _=>False) hg.os hg.tape hg.output hg.size (fun b m _=>hg.block b m BU) (fun _ h=>h.elim) h1 h2 (.refl _) rfl (fun k e h he=>by simp at he)).1
 rcases h with⟨v,J,rfl,⟨x,f,hx,j,hD⟩,hg2,hlt,h3⟩|⟨rfl,rfl⟩
 ·rw[hx]at S;obtain rfl:=Cm S
  have hgg:EO f J f w':=fun b m=>⟨m,h3.block b (j.kL b m) (fun e=>by
   obtain rfl:=Cm e;rcases j.yB _ m with h|h|h
   ·have :=Z.kL _ h;omega
   ·simp only at h;omega
   simp at h)⟩
  refine⟨v,f,[],rfl,mk f j.yA (fun b m=>?_),.d _ _ (hD.mono hgg)⟩;rcases j.yB b m with h|h|h
  ·exact .inl h
  ·simp only at h;exact .inr ⟨AA,Uz (j.kL b m) h3.size⟩
  simp at h
 have hgg:EO ok w ok w':=fun b m=>⟨m,hg.block b (Z.kL b m) BU⟩
 exact⟨_,ok,[],rfl,mk ok (fun _ h=>h) (fun _ h=>.inl h),a1.mono hgg (.refl _)⟩
end Go.Proofs.YtolgdkhlelfpoaaGreat
end
section
namespace Go.Proofs
open Go.Proofs.YtolgdkhlelfpoaaGreat
open Go.Shelf
def Tryz.YW:Go.Shelf.Ren:=⟨fun |6=>421|15=>149|14=>425|28=>204|29=>205|20=>426|21=>427|22=>428|23=>429|24=>430|25=>431|26=>432|27=>433|46=>434|47=>257|48=>258|49=>435|50=>436|57=>437|n=>n,fun |22=>349|24=>351|25=>354|3=>3|39=>89|0=>0|53=>226|55=>228|4=>4|46=>220|45=>219|50=>97|5=>5|9=>9|66=>254|70=>258|76=>300|77=>301|n=>n,fun |n=>n⟩
def Tryz.arw:SlLaysF0.n6 Tryz.prog Tryz.YW:={
 mixed:=A8
 f6:=⟨Tryz.f421.name,Bd,Tryz.func421.trans (BX some A8)⟩
 f14:=⟨Tryz.f425.name,Bd,Tryz.func425.trans (BX some A8)⟩
 f15:=Tryz.func149.trans (BX some A8)
 f20:=⟨Tryz.f426.name,Bd,Tryz.func426.trans (BX some A8)⟩
 f21:=⟨Tryz.f427.name,Bd,Tryz.func427.trans (BX some A8)⟩
 f22:=⟨Tryz.f428.name,Bd,Tryz.func428.trans (BX some A8)⟩
 f23:=⟨Tryz.f429.name,Bd,Tryz.func429.trans (BX some A8)⟩
 f24:=⟨Tryz.f430.name,Bd,Tryz.func430.trans (BX some A8)⟩
 f25:=⟨Tryz.f431.name,Bd,Tryz.func431.trans (BX some A8)⟩
 f26:=⟨Tryz.f432.name,Bd,Tryz.func432.trans (BX some A8)⟩
 f27:=⟨Tryz.f433.name,Bd,Tryz.func433.trans (BX some A8)⟩
 f28:=Tryz.func204.trans (BX some A8)
 f29:=Tryz.func205.trans (BX some A8)
 f46:=⟨Tryz.f434.name,Bd,Tryz.func434.trans (BX some A8)⟩
 f47:=Tryz.func257.trans (BX some A8)
 f48:=Tryz.func258.trans (BX some A8)
 f49:=⟨Tryz.f435.name,Bd,Tryz.func435.trans (BX some A8)⟩
 f50:=⟨Tryz.f436.name,Bd,Tryz.func436.trans (BX some A8)⟩
 f57:=⟨Tryz.f437.name,Bd,Tryz.func437.trans (BX some A8)⟩
 t0:=Tryz.underlying0
 a0:=Tryz.isAgg0
 z0:=Tryz.sizeOf0
 v0:=Tryz.zeroValue0
 t3:=FB
 a3:=YP
 z3:=Yv
 v3:=Zy
 t4:=Qr
 a4:=iw
 z4:=fV
 v4:=dw
 t5:=uy
 a5:=mM
 z5:=wO
 v5:=mD
 t9:=JV
 a9:=vM
 z9:=rF
 v9:=vV
 t22:=Tryz.underlying349
 a22:=Tryz.isAgg349
 z22:=Tryz.sizeOf349
 v22:=Tryz.zeroValue349
 t25:=Tryz.underlying354
 a25:=Tryz.isAgg354
 z25:=Tryz.sizeOf354
 v25:=Tryz.zeroValue354
 t39:=zU
 a39:=Tryz.isAgg89
 z39:=Tryz.sizeOf89
 v39:=yh
 t45:=Tryz.underlying219
 a45:=Tryz.isAgg219
 z45:=Tryz.sizeOf219
 v45:=Tryz.zeroValue219
 t46:=Tryz.underlying220
 a46:=Tryz.isAgg220
 z46:=Tryz.sizeOf220
 v46:=Tryz.zeroValue220
 t50:=Tryz.underlying97
 a50:=Tryz.isAgg97
 z50:=Tryz.sizeOf97
 v50:=Tryz.zeroValue97
 t53:=aFV
 a53:=Tryz.isAgg226
 z53:=aBV
 v53:=aE5
 t55:=Tryz.underlying228
 a55:=Tryz.isAgg228
 z55:=Tryz.sizeOf228
 v55:=Tryz.zeroValue228
 t66:=Tryz.underlying254
 a66:=Tryz.isAgg254
 z66:=Tryz.sizeOf254
 v66:=Tryz.zeroValue254
 t70:=Tryz.underlying258
 a70:=Tryz.isAgg258
 z70:=Tryz.sizeOf258
 v70:=Tryz.zeroValue258
 t76:=Tryz.underlying300
 a76:=Tryz.isAgg300
 z76:=Tryz.sizeOf300
 v76:=Tryz.zeroValue300
 t77:=Tryz.underlying301
 a77:=Tryz.isAgg301
 z77:=Tryz.sizeOf301
 v77:=Tryz.zeroValue301 }
end Go.Proofs
end
