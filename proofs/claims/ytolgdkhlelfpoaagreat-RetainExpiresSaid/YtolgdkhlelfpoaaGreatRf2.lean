/- Part 2 of what the laws' proofs lean on: states of the walk, typed functions of the program and their laws (short forms written by wip/shrink.py; no condition). -/
import Derived.Test.YtolgdkhlelfpoaaGreatRf1
set_option linter.defProp false
set_option linter.unusedVariables false
set_option linter.unusedSimpArgs false
section
namespace Go.Proofs.YtolgdkhlelfpoaaGreat
open Go.RowKit
section
variable {P : Program} {o : Oper} {es : List BN}
def ni {ns:List (Operand×Ag)} {v:Ag} {es':List BN} (e:TypeId) (size:Nat) (h:Bl P o ((.const (.slice none 0 0),.aO es.length)::ns) (es++[.arr e size []]) v es'):Bl P o ns es v es':=by
 intro C ok H a w Q q s;obtain⟨u,z⟩:=aJ7 q e size;refine Oper.wp_mono ?_ (h C ok _ a w Q u (fun n f=>?_))
 ·rintro a' w' ⟨v',ok',H',I,J,j,m,L⟩;exact⟨v',ok',H',I,J,(Names.push _ _).trans j,m,L⟩
 rcases F9.1 f with rfl|f
 ·exact z
 exact(s n f).mono (.refl _ _) (Names.push _ _)
def R.ahT {ok:Nat→Prop} {w:World} {H:List Bj} {us:List Value} {v:Value} (h:R ok w H (.d (.agg (us.map .lit))) v):v=.agg us.toArray:=by
 cases h with
 |d _ _ h=>
  cases h with
  |agg _ vs m _ h=>
   congr 1;apply lG
   ·simpa using m
   intro i n z;have hi:i<(us.map D.lit).length:=AA
   have f:=h i hi;have j:i<us.length:=Fp
   have q:(us.map D.lit).getD i Dn=.lit (us[i]):=o7
   have s:vs.getD i undef=vs[i]:=by simp[Array.getD,n]
   rw[q,s]at f;generalize vs[i]=u at f;cases f;simp
structure Vw (P:Program) (n:Nat) (t:TypeId) (us vs:List Value) (b:Bool):Prop where
 run:∀(d:Nat) (w:World),(Op.equalIn (d+n) t (.agg us.toArray) (.agg vs.toArray)).run P w=.ok b w
def G5 {t:TypeId} {cs:Array Value} {off:Nat} {v:Value} {size:Nat} (f:EF P t false size) (h:cs[off]? =some v) (w:World):(part t cs off).run P w=.ok v w:=by
 simp[part,f.agg,h]
def WT (d:Nat) (xs ys:Array Value):List (TypeId×Nat)→Sem Bool
 | []=>pure true
 |f::h=>do
  let a ←part f.1 xs f.2
  let b ←part f.1 ys f.2
  let r ←Op.equalIn d f.1 a b
  if(!r)=true then pure false else WT d xs ys h
def aSQ (d:Nat) (xs ys:Array Value):∀(j:List Field),j.all (fun f=>f.name != "_")=true→Op.eqFields d xs ys j=WT d xs ys (j.map fun f=>(f.type,f.offset))
 | [],_=>rfl
 |f::j,h=>by
  simp only[List.all_cons,DL,bne_iff_ne,ne_eq]at h;simp only[Op.eqFields,Ld,WT,ne_eq,h.1,not_false_eq_true,Jj,aSQ d xs ys j h.2]
def Zb {d:Nat} {t:TypeId} {xs ys:Array Value} {l:List (TypeId×Nat)} {b:Bool} {w:World} (j:P.underlying t=some (.struct (P.fieldsOf t))) (m:P.stoodInHeld t=false) (n:(P.fieldsOf t).toList.all (fun f=>f.name != "_")=true)
 (q:(P.fieldsOf t).toList.map (fun f=>(f.type,f.offset))=l) (h:(WT d xs ys l).run P w=.ok b w):(Op.equalIn (d+1) t (.agg xs) (.agg ys)).run P w=.ok b w:=by
 rw[run_equalIn_struct w d t xs ys j m,aSQ _ _ _ _ n,q,h]
def Zw (d:Nat) (xs ys:Array Value) (w:World):(WT d xs ys []).run P w=.ok true w:=by simp[WT]
def Le {d:Nat} {xs ys:Array Value} {t:TypeId} {off:Nat} {f:List (TypeId×Nat)} {a b:Value} {r rs:Bool} {w:World} (ha:(part t xs off).run P w=.ok a w) (h:(part t ys off).run P w=.ok b w)
 (j:(Op.equalIn d t a b).run P w=.ok r w) (m:(WT d xs ys f).run P w=.ok rs w):(WT d xs ys ((t,off)::f)).run P w=.ok (r&&rs) w:=by
 unfold WT;simp only[FB,ha,h,j,FK];cases r<;>simp[m]
def an9 {t t':TypeId} {x y:Operand} {n:Nat} (us vs:List Value) {b:Bool} (h:Vw P n t us vs b) (hd:n≤10000) (s:P.eqGuardType P.depth t=false) (u:o.op=.binOp .eql t x y t'):
 Bl P o [(x,.d (.agg (us.map .lit))),(y,.d (.agg (vs.map .lit)))] es (.d (D7 b)) es:=
 .pure fun _ _ a w _ _ j=>⟨.bool b,by
  have m:=(El j).1.ahT;have q:=(El j).2.ahT;simp only at m q;have f:(eqGuard .eql t x y (.agg us.toArray) (.agg vs.toArray)).run P w=.ok () w:=by simp[eqGuard,s]
  simp only[execOp,u,m,q,FB,f,FK,G6,run_eql_struct,(by have :=h.run (10000-n) w;rwa [Nat.sub_add_cancel hd]at this:(Op.equalIn 10000 t (.agg us.toArray) (.agg vs.toArray)).run P w=.ok b w)],.d _ _ (.lit _)⟩
def eF {t t':TypeId} {x y:Operand} {n:Nat} (us vs:List Value) {b:Bool} (h:Vw P n t us vs b) (hd:n≤10000) (s:P.eqGuardType P.depth t=false) (u:o.op=.binOp .neq t x y t'):
 Bl P o [(x,.d (.agg (us.map .lit))),(y,.d (.agg (vs.map .lit)))] es (.d (D7 (!b))) es:=
 .pure fun _ _ a w _ _ j=>⟨.bool (!b),by
  have m:=(El j).1.ahT;have q:=(El j).2.ahT;simp only at m q;have f:(eqGuard .neq t x y (.agg us.toArray) (.agg vs.toArray)).run P w=.ok () w:=by simp[eqGuard,s]
  simp only[execOp,u,m,q,FB,f,FK,G6,run_neq_struct,(by have :=h.run (10000-n) w;rwa [Nat.sub_add_cancel hd]at this:(Op.equalIn 10000 t (.agg us.toArray) (.agg vs.toArray)).run P w=.ok b w)],.d _ _ (.lit _)⟩
def Pn (l:List Int):ByteArray:=l.foldl (fun r n=>r.push (UInt8.ofNat n.toNat)) ByteArray.empty
def ale {ok:Nat→Prop} {w:World} {H:List Bj} {l:List Int} {f:List Value} (h:Gf ok w H (flat (l.map DC)) f):f=l.map (.int .u8):=by
 rw[aCh]at h;apply eY
 ·simpa using h.1
 intro i q s;have hi:i<(l.map fun n=>Ag.d (DC n)).length:=Pg
 have m:=(h.2 i hi).2;have j:i<l.length:=Fp
 have u:(l.map fun n=>Ag.d (DC n)).getD i .junk=.d (DC l[i]):=o7
 have z:f.getD i undef=f[i]:=aC1
 rw[u,z]at m;have :=m.lit;simpa using this
def ao2 {w:World} {v:Value} {m:Nat} {l:List Int} (h:Xz w v m 1 (l.map (.int .u8))):(Conv.bytesToString v).run P w=.ok (.string (Pn l)) w:=by
 rcases h.at_ with⟨ad,c,rfl,j⟩|⟨c,rfl,n⟩
 ·refine run_bytesToString w ad m c l ?_;have f:=h.len;have :=run_loadCells_list (P:=P) w ad (l.map (Value.int .u8)) j;rw[D8,Zo]at f;rw[D8,f]at this;exact this
 have f:=h.len;rw[n,Nat.zero_mul,D8]at f;rw[H9 f];simp[Conv.bytesToString,Pn]
def Value.isSlice:Value→Bool
 | .slice _ _ _=>true
 |_=>false
def ahg {w:World} {v:Value} {m size:Nat} {f:List Value} (h:Xz w v m size f):Value.isSlice v=true:=by
 rcases h.at_ with⟨_,_,rfl,_⟩|⟨_,rfl,_⟩<;>rfl
def as7 {s t e:TypeId} {v:Value} {w:World} {r:ByteArray} (f:P.underlying s=some (.slice e)) (j:P.underlying e=some (.int .u8)) (m:P.underlying t=some .string) (n:Value.isSlice v=true)
 (h:(Conv.bytesToString v).run P w=.ok (.string r) w):(convert s t v).run P w=.ok (.string r) w:=by
 cases v<;>simp[Value.isSlice]at n
 simp[convert,underlying,f,j,m,h]
def adV {s t e:TypeId} {x:Operand} {l:List Int} (z:P.underlying s=some (.slice e)) (I:P.underlying e=some (.int .u8)) (J:P.underlying t=some .string) (L:o.op=.convert s t x):
 Bl P o [(x,.d (BD DC l))] es (.d (Cm (Pn l))) es:=
 .pure fun ok H a w _ _ M=>by
  have j:=Kt M;simp only at j;generalize O:a.eval x=v at j;refine⟨.string (Pn l),?_,.d _ _ (.lit _)⟩;cases j with
  |d _ _ h=>
   obtain⟨u,f,m⟩:=Yp H h (size:=1) (fun y S=>by obtain⟨n,_,rfl⟩:=GV.1 S;rfl);obtain rfl:=ale m;have q:=ahg f;simp[execOp,L,O,as7 z I J q (ao2 f)]
def Pq {fn:Fn} {firsts f:Array Operand} {fi ca:List Ag} (j:firsts.toList.length=fi.length) (s:f.toList.length=ca.length) (z:o.op=.makeFunc fn firsts f):
 Bl P o (F8 firsts.toList fi++F8 f.toList ca) es (.fn fn fi ca) es:=
 .pure fun ok H a w _ _ m=>by
  have key:∀(xs:Array Operand) (vs:List Ag),xs.toList.length=vs.length→(∀n∈F8 xs.toList vs,R ok w H n.2 (a.eval n.1))→∀i,i<vs.length→R ok w H (vs.getD i .junk) ((xs.map a.eval).getD i undef):=by
   intro xs vs j m i hi;have u:=qo j m i hi
   have q:i<xs.size:=by have :xs.size=vs.length:=Oh
                        omega
   have I:(xs.toList.map a.eval).getD i undef=(xs.map a.eval).getD i undef:=by simp[List.getD,Array.getD,q]
   rw[I]at u;exact u
  refine⟨.func fn (firsts.map a.eval) (f.map a.eval),by simp[execOp,z,Instr.makeFunc],.fn fn fi ca _ _ Oh Pg (key _ _ j fun n h=>m n wB) (key _ _ s fun n h=>m n wB)⟩
def aKU :∀{xs:List Operand} {vs:List Ag} {ys:List Operand} {us:List Ag},xs.length=vs.length→F8 (xs++ys) (vs++us)=F8 xs vs++F8 ys us
 | [],[],_,_,_=>rfl
 | [],_::_,_,_,h=>Hr
 |_::_,[],_,_,h=>Hr
 |x::xs,v::vs,ys,us,h=>by simp[F8,aKU (xs:=xs) (vs:=vs) Jc]
def aHV {ok:Nat→Prop} {w:World} {H:List Bj} {a:Act}:∀{us:List Value} {vs:List Ag},us.length=vs.length→(∀i,i<vs.length→R ok w H (vs.getD i .junk) (us.getD i undef))→∀n∈F8 (us.map Operand.const) vs,R ok w H n.2 (a.eval n.1)
 | [],[],_,_,n,f=>by simp[F8]at f
 | [],_::_,h,_,_,_=>Hr
 |_::_,[],h,_,_,_=>Hr
 |u::us,v::vs,j,h,n,f=>by
  simp only[Ld,F8,F9]at f;rcases f with rfl|f
  ·have :=h 0 BP;simp at this;exact this
  exact aHV (us:=us) (vs:=vs) Oh (fun i hi=>by simpa using h (i+1) Fp) n f
def ab9 {f:FuncId} {x:Operand} {ops:Array Operand} {ats:Array TypeId} (srcs:List Dy) {fi ca eU fV:List Ag} {E E':List BN} {m:Ag} (I:Ak P f fV E m E') (J:Dw P f=true) (L:RP srcs es E E'=true) (hE:sW srcs es E)
 (ha:NH srcs (fi++eU++ca) fV) (s:ops.toList.length=eU.length) (M:o.op=.call { callee:=.value x,args:=ops,argTypes:=ats }):
 Bl P o ((x,.fn (.func f) fi ca)::F8 ops.toList eU) es (m.up srcs es.length) (MF srcs es E'):=by
 intro C ok H a w Q O z;have u:=z (x,.fn (.func f) fi ca) BP;simp only at u;generalize S:a.eval x=v at u;cases u with
 |fn _ _ _ vs us j q U Y=>
  unfold Oper.wp
  have Z:(execOp a.eval o).run P w=.ok (.enter f ((vs++ops.map a.eval)++us)) w:=by
   have :=TF J (vs++ops.map a.eval++us) w;rw[Array.append_assoc]at this;simp[execOp,M,resolve,S,Deferred.ofValue,invoke,this]
  rw[Z,ZQ]
  have e:vs++ops.map a.eval++us=((vs.toList.map Operand.const++ops.toList++us.toList.map Operand.const).map a.eval).toArray:=by
   apply aN3;simp[pK,Act.eval]
  rw[e];have l1:(vs.toList.map Operand.const).length=fi.length:=Oh
  refine(aQs O srcs I L hE ha (by simp at s;simp[j,q,s]) (a:=a) ?_).mono ?_
  ·rw[aKU (by simp at s;simp[j,s]),aKU l1];intro n h;simp only[Ia]at h;rcases h with(h|h)|h
   ·exact aHV Oh (fun i hi=>by have :=U i hi;simpa[List.getD,Gx]using this) n h
   ·exact z n (IY _ h)
   exact aHV V3 (fun i hi=>by have :=Y i hi;simpa[List.getD,Gx]using this) n h
  rintro e w' ⟨v,ok',H',rfl,h3,h4,h5,h6⟩;exact⟨v,ok',H',rfl,h3,h4,h5,h6⟩
def R.dfn {ok:Nat→Prop} {w:World} {H:List Bj} {f:Fn} {fi ca:List D} {v:Value} (h:R ok w H (.d (.fn f fi ca)) v):R ok w H (.fn f (fi.map .d) (ca.map .d)) v:=by
 cases h with
 |d _ _ h=>
  cases h with
  |fn _ _ _ vs us n q s u=>
   refine .fn f _ _ vs us Nk V3 (fun i hi=>?_) (fun i hi=>?_)
   ·have j:i<fi.length:=Fp
    have m:(fi.map Ag.d).getD i .junk=.d (fi.getD i Dn):=o7
    rw[m];exact .d _ _ (s i j)
   have j:i<ca.length:=Fp
   have m:(ca.map Ag.d).getD i .junk=.d (ca.getD i Dn):=o7
   rw[m];exact .d _ _ (u i j)
def agz {f:FuncId} {x:Operand} {ops:Array Operand} {ats:Array TypeId} (srcs:List Dy) {fi ca:List D} {eU fV:List Ag} {E E':List BN} {j:Ag} (q:Ak P f fV E j E') (s:Dw P f=true) (u:RP srcs es E E'=true) (hE:sW srcs es E)
 (ha:NH srcs (fi.map .d++eU++ca.map .d) fV) (z:ops.toList.length=eU.length) (I:o.op=.call { callee:=.value x,args:=ops,argTypes:=ats }):
 Bl P o ((x,.d (.fn (.func f) fi ca))::F8 ops.toList eU) es (j.up srcs es.length) (MF srcs es E'):=by
 intro C ok H a w Q J m;refine ab9 (fi:=fi.map .d) (ca:=ca.map .d) srcs q s u hE ha z I C ok H a w Q J (fun n h=>?_);rcases F9.1 h with rfl|h
 ·exact R.dfn (m (x,.d (.fn (.func f) fi ca)) BP)
 exact m n (IY _ h)
def QO (S:List Dy) (es:List BN):List Dy→List BN→Prop
 |s::srcs,e::E=>(match s with | .ent k=>es[k]? =some (e.up S es.length)| .nil sz=>∃t,e=.arr t sz [])∧QO S es srcs E
 | [],_=>True
 |_::_,[]=>False
def QN {S:List Dy} {es:List BN} {k:Nat} {e:BN} {srcs:List Dy} {E:List BN} (h:es[k]? =some (e.up S es.length)) (f:QO S es srcs E):QO S es (.ent k::srcs) (e::E):=⟨h,f⟩
def ar5 {S:List Dy} {es:List BN} {sz t:Nat} {srcs:List Dy} {E:List BN} (f:QO S es srcs E):QO S es (.nil sz::srcs) (.arr t sz []::E):=⟨⟨t,rfl⟩,f⟩
def aax {S:List Dy} {es:List BN}:∀{srcs:List Dy} {E:List BN},QO S es srcs E→∀(i:Nat) (s:Dy),srcs[i]? =some s→match s with | .ent k=>(E[i]?).map (BN.up S es.length)=es[k]? | .nil sz=>∃e,E[i]? =some (.arr e sz [])
 | [],_,_,i,s,f=>UJ
 |_::_,[],h,_,_,_=>h.elim
 |s::srcs,e::E,h,0,j,f=>by
  simp at f;subst f;have m:=h.1;cases s with
  |ent k=>simp only at m;simp[m]
  |nil sz=>obtain⟨t,rfl⟩:=m;exact⟨t,rfl⟩
 |s::srcs,e::E,h,i+1,j,f=>by
  have :=aax h.2 i j LJ;cases j with
  |ent k=>simpa using this
  |nil sz=>simpa using this
def aL2 {es:List BN} {srcs:List Dy} {E:List BN} (h:QO srcs es srcs E):sW srcs es E:=aax h
def aeV {f:FuncId} {ops:Array Operand} {ats:Array TypeId} (srcs:List Dy) {eU fV:List Ag} {E E':List BN} {j h:Ag} (m:Ak P f fV E j E') (n:Dw P f=true) (q:RP srcs es E E'=true) (hE:QO srcs es srcs E) (ha:NH srcs eU fV) (s:ops.toList.length=eU.length)
 (u:h=j.up srcs es.length) (z:o.op=.call { callee:=.value (.func f),args:=ops,argTypes:=ats }):Bl P o (F8 ops.toList eU) es h (MF srcs es E'):=u▸ad8 srcs m n q (aL2 hE) ha s z
def alH {f:FuncId} {x:Operand} {ops:Array Operand} {ats:Array TypeId} (srcs:List Dy) (fi ca:List Ag) {eU fV:List Ag} {E E':List BN} {j h:Ag} (m:Ak P f fV E j E') (n:Dw P f=true) (q:RP srcs es E E'=true) (hE:QO srcs es srcs E)
 (ha:NH srcs (fi++eU++ca) fV) (s:ops.toList.length=eU.length) (u:h=j.up srcs es.length) (z:o.op=.call { callee:=.value x,args:=ops,argTypes:=ats }):
 Bl P o ((x,.fn (.func f) fi ca)::F8 ops.toList eU) es h (MF srcs es E'):=u▸ab9 srcs m n q (aL2 hE) ha s z
def ae9 {f:FuncId} {x:Operand} {ops:Array Operand} {ats:Array TypeId} (srcs:List Dy) (fi ca:List D) {eU fV:List Ag} {E E':List BN} {j h:Ag} (m:Ak P f fV E j E') (n:Dw P f=true) (q:RP srcs es E E'=true) (hE:QO srcs es srcs E)
 (ha:NH srcs (fi.map .d++eU++ca.map .d) fV) (s:ops.toList.length=eU.length) (u:h=j.up srcs es.length) (z:o.op=.call { callee:=.value x,args:=ops,argTypes:=ats }):
 Bl P o ((x,.d (.fn (.func f) fi ca))::F8 ops.toList eU) es h (MF srcs es E'):=u▸agz srcs m n q (aL2 hE) ha s z
end
structure Turns (v:Value) (w w':World):Prop where
 os:w'.os=w.os
 tape:w'.tape=w.tape
 output:w'.output=w.output
 size:w.heap.size≤w'.heap.size
 block:∀c,c<w.heap.size→Dq v≠some c→w'.heap[c]? =w.heap[c]?
def Turns.refl (v:Value) (w:World):Turns v w w:=⟨rfl,rfl,rfl,EG _,fun _ _ _=>rfl⟩
def Turns.aAr {g o n c:Nat} {s:Option Nat} {w w':World} (h:w.grownBy w' (some g)):Turns (.slice (some ⟨g,o,s⟩) n c) w w':=
 ⟨h.os,h.tape,h.output,h.size,fun k j f=>h.block k j (fun e=>f (by cases e;rfl))⟩
def Dz.am9 {ok:Nat→Prop} {w:World} {u v:Value} (h:Dz ok w (.lit u) v):v=u:=by cases h;rfl
def aOs :∀(l:List Int),flat (l.map AY)=l.map fun n=>.d (AY n)
 | []=>rfl
 |n::l=>by rw[Ld,je,aOs l];rfl
def aEg {ok:Nat→Prop} {w:World} {H:List Bj} {h:Bj} {e:TypeId} {l:List Int}:Eo ok w H h (.arr e 1 (List.map AY l))↔h.size=1∧qF w e 1 h.v l.length (l.map (.int .i64)):=by
 constructor
 ·rintro⟨m,_,xs,j,q,s⟩;refine⟨m,?_⟩;rw[D8]at j
  have :xs=l.map (.int .i64):=by
   rw[aOs]at q s;rw[D8]at q;refine eY (by simp[q]) fun i hi I=>?_;have f:i<l.length:=AA
   have u:=(s i LJ).2;simp only[List.getD,JZ,Dx f,Ie,OH,Dx hi]at u;cases u with |d _ _ h=>rw[Dz.am9 h];simp
  rw[←this];exact j
 rintro⟨m,j⟩;refine⟨m,fun x z=>?_,l.map (.int .i64),by rw[D8];exact j,?_⟩
 ·obtain⟨n,_,rfl⟩:=GV.1 z;rfl
 rw[aOs];refine⟨BP,fun i hi=>?_⟩;have f:i<l.length:=Fp
 simp only[List.getD,JZ,Dx f,Ie,OH];exact⟨rfl,.d _ _ (.lit _)⟩
def aPh {f:Array Value} (h:f.size=1):f= #[f.getD 0 undef]:=by
 refine lG wB fun i m j=>?_;simp at j;subst j;simp[Array.getD,h]
def Ak.aCv {P:Program} {f:FuncId} {e:TypeId} {l r:List Int}
 (h:∀(v:Value) (w:World),qF w e 1 v l.length (l.map (.int .i64))→Calls P f #[v] w fun x w'=>x=.returned (.tuple #[])∧qF w' e 1 v r.length (r.map (.int .i64))∧Turns v w w'):
 Ak P f [.aO 0] [.arr e 1 (List.map AY l)] (.gy []) [.arr e 1 (List.map AY r)]:=by
 intro ok X H w S s Y ha;have Z:=ha 0 BQ;rw[aPh Y];obtain⟨hd,J,L⟩:=GU s.ent s.hlen (k:=0) rfl;obtain hv:=Qi Z J;rw[hv];obtain⟨hz,M⟩:=aEg.1 L;refine(h hd.v w M).mono ?_;rintro x w' ⟨rfl,u,q⟩;have m:=fun b z=>s.blk 0 _ hd b rfl rfl J z
 have hg:=s.change (ok':=ok) (H':=H) (w':=w') (es':=[.arr e 1 (List.map AY r)]) (fun c=>Dq hd.v=some c) q.os q.tape q.output q.size q.block (fun c U _=>⟨(m c U).1,(m c U).2.2⟩) (fun _ h=>h) (fun _ h=>.inl h) (.refl _) s.hlen (by
  intro k e' h' j I
  match k,j with
  |0,j=>
   simp at j;subst j;rw[J]at I;obtain rfl:=Cx I;refine .inr ⟨aEg.2 ⟨hz,u⟩,fun _ b z=>⟨(m b z).1,VP (m b z).2.1 q.size,(m b z).2.2,fun k' e'' h'' O n=>?_⟩⟩
   match k',n with
   |0,_=>exact absurd rfl O
   |k'+1,n=>simp at n
  |k+1,j=>simp at j)
 exact⟨_,ok,H,rfl,hg.1,.gy [] #[] rfl (fun i hi=>Nl)⟩
def Ak.turned {P:Program} {f:FuncId} {e:TypeId} {l r:List Int}
 (h:∀(v:Value) (w:World),qF w e 1 v l.length (l.map (.int .i64))→Calls P f #[v] w fun x w'=>∃v',x=.returned v'∧qF w' e 1 v' r.length (r.map (.int .i64))∧Turns v w w'∧∀g,Dq v'=some g→Dq v=some g∨w.heap.size≤g):
 Ak P f [.aO 0] [.arr e 1 (List.map AY l)] (.aO 1) [.dead,.arr e 1 (List.map AY r)]:=by
 intro ok X H w I q M ha;have O:=ha 0 BQ;rw[aPh M];obtain⟨hd,J,u⟩:=GU q.ent q.hlen (k:=0) rfl;obtain S:=Qi O J;rw[S];obtain⟨Z,z⟩:=aEg.1 u;refine(h hd.v w z).mono ?_;rintro x w' ⟨v',rfl,j,m,n⟩;have s:=q.turn (e:=.arr e 1 (List.map AY r)) (h':=⟨v',1⟩) (w':=w') (k:=0) rfl rfl J m.os m.tape m.output m.size m.block (fun g s=>⟨zQ j s,n g s⟩) (fun _=>aEg.2 ⟨rfl,j⟩);refine⟨v',ok,H++[⟨v',1⟩],rfl,s.1,?_⟩;have U:H.length=1:=q.hlen;have L:(H++[(⟨v',1⟩:Bj)])[1]? =some ⟨v',1⟩:=by rw[←U];simp
 rcases j.2 with⟨rfl,_⟩|⟨g,cap,Y,rfl,_⟩
 ·exact .aO 1 _ _ _ 1 L
 exact .aO 1 _ _ _ 1 L
def Ak.plain {P:Program} {f:FuncId} {vs:List Value} {j:Ag} {v:Value} (J:∀ok w H,R ok w H j v)
 (h:∀w,Calls P f vs.toArray w fun x w'=>x=.returned v∧Below w.heap.size w w'):Ak P f (vs.map fun u=>.d (.lit u)) [] j []:=by
 intro ok X H w m z L ha
 have e:m=vs.toArray:=by
  refine lG aAH fun i M O=>?_;have n:i<vs.length:=aEw
  have I:=ha i Nk;simp only[List.getD,JZ,Dx n,Ie,OH]at I;cases I with |d _ _ h=>have :=Dz.am9 h;simpa[Array.getD,M]using this
 rw[e];refine(h w).mono ?_;rintro x w' ⟨rfl,q⟩
 have S:=z.change (ok':=ok) (H':=H) (w':=w') (es':=[]) (fun _=>False) q.os q.tape q.output q.size (fun c U _=>q.block c U) (fun _ h=>h.elim) (fun _ h=>h) (fun _ h=>.inl h) (.refl _) z.hlen (by
  intro k e' h' s Y
  simp at s)
 exact⟨v,ok,H,rfl,S.1,J _ _ _⟩
def Chain.ayU {P:Program} {ops:Array Oper} {l J:List Oper} {σ σ':BI} (h:Chain P ops l σ σ') {ro:Option Nat} {C:EW} {H0:List Bj} {Q:Exit→Act→World→Prop}:
 ∀{ok:Nat→Prop} {H:List Bj} {a:Act} {w:World},Holds C ok H σ a w→Names H0 H→(∀ok' H' a' w',Holds C ok' H' σ' a' w'→Names H0 H'→wpListIn (J6 ro) 0 P ops Q J a' w')→wpListIn (J6 ro) 0 P ops Q (l++J) a w:=by
 induction h with
 |nil σ=>intro ok H a w f L q;exact q ok H a w f L
 | @op o rest σ σ' ns x d M L z hd k I=>
   intro ok H a w f j q;subst hd;rw[aN];unfold wpListIn;rw[D9 (Pv f z)];refine Qa ?_ (M.inR ro C ok H a w Q f.mem (fun n s=>PG L n s▸f.get n.1));rintro a' w' ⟨v,ok',H',rfl,u,m,O,S⟩;exact I (f.put o.dst u m O S) (j.trans m) q
 | @oe o rest σ σ' ns x es' d E M Z L z hd k I=>
   intro ok H a w f j q;subst hd;subst Z;rw[aN];unfold wpListIn;rw[D9 (Pv f z)];refine Qa ?_ (M.inR ro C ok H a w Q f.mem (fun n s=>PG L n s▸f.get n.1));rintro a' w' ⟨v,ok',H',rfl,u,m,O,S⟩;exact I (f.put o.dst u m O S) (j.trans m) q
 | @skip o rest σ σ' d z hd k I=>
   intro ok H a w f j q;subst hd;rw[aN];unfold wpListIn;rw[DN mD];exact⟨fun _ _=>trivial,I (f.put o.dst (.refl _ _) (.refl _) f.mem (.d _ _ (.lit _))) j q⟩
 | @any o rest σ σ' x d U hd k I=>
   intro ok H a w f j q;subst hd;rw[aN];unfold wpListIn;rcases U.1 with⟨ns,M,L,_,z⟩|⟨rfl,_,z⟩
   ·rw[D9 (Pv f z)];refine Qa ?_ (M.inR ro C ok H a w Q f.mem (fun n s=>PG L n s▸f.get n.1));rintro a' w' ⟨v,ok',H',rfl,u,m,O,S⟩;exact I (f.put o.dst u m O S) (j.trans m) q
   rw[DN mD];exact⟨fun _ _=>trivial,I (f.put o.dst (.refl _ _) (.refl _) f.mem (.d _ _ (.lit _))) j q⟩
 | @afD o rest σ σ' x E bar d U hd k I=>
   intro ok H a w f j q;subst hd;rw[aN];unfold wpListIn;rcases U.1 with⟨ns,M,L,_,z⟩|⟨rfl,rfl,z⟩
   ·rw[D9 (Pv f z)];refine Qa ?_ (M.inR ro C ok H a w Q f.mem (fun n s=>PG L n s▸f.get n.1));rintro a' w' ⟨v,ok',H',rfl,u,m,O,S⟩;exact I (f.put o.dst u m O S) (j.trans m) q
   rw[DN mD];exact⟨fun _ _=>trivial,I (f.put o.dst (.refl _ _) (.refl _) f.mem (.d _ _ (.lit _))) j q⟩
 |conv σ2 hc k I=>
  intro ok H a w f j q;obtain⟨ok',Y⟩:=hc C ok H a w f;exact I Y j q
def AB.axd {P:Program} {σ s:BI} {Q:Exit→BI→Prop} {id:Nat} {ops:Array Oper} {q:Oper} {x:Operand} {t t' e d:Nat} {es:List D} (k:Nat) (f:ops.toList.drop k=[q]) (h:Chain P ops (ops.toList.take k) σ s)
 (J:q.op=.binOp .eql t x (.const (.slice none 0 0)) t') (hd:q.dst=some d) (L:q.guard=none) (M:P.underlying t=some (.slice e)) (O:s.get x=.d (.sl es)) (S:∀b,(es≠[]→b=false)→Q .normal (s.sF (some d) (.d (.lit (.bool b))))):AB P (.region id ops false) σ Q:=by
 refine⟨fun ro _ C ok H a w U=>aK9 ?_⟩;rw[←dG k ops.toList,f];refine h.ayU U (.refl H) fun ok' H' a' w' u _=>?_;have m:=O▸u.get x
 obtain⟨b,Y,Z⟩:∃b,(es≠[]→b=false)∧(execOp a'.eval q).run P w'=.ok (.value (.bool b)) w':=by
  cases m with
  |d _ _ m=>
   generalize j:a'.eval x=v at m
   have key:∀(ad:Option Addr) (n c:Nat),v=.slice ad n c→(execOp a'.eval q).run P w'=.ok (.value (.bool ad.isNone)) w':=fun ad n c z=>by
    have I:(eqGuard .eql t x (.const (.slice none 0 0)) (.slice ad n c) (.slice none 0 0)).run P w'=.ok () w':=by simp[eqGuard]
    have e0:a'.eval (.const (.slice none 0 0))=.slice none 0 0:=rfl;rw[z]at j;simp only[execOp,J,j,e0,FB,I,FK,Lib.run_eql_slice_nil w' t e ad n c 0 0 M,G6]
   cases m with
   |sl0 ad cap=>exact⟨ad.isNone,fun h=>absurd rfl h,key _ _ _ rfl⟩
   |sl es b off cap size=>exact⟨false,fun _=>rfl,key _ _ _ rfl⟩
 unfold wpListIn;rw[D9 (by unfold Region.wanted;rw[L])];unfold Oper.wpIn;rw[eB _ _ _ (by rw[J];intro c h;cases h),Z,Oper.uponIn_value];refine⟨fun _ _=>trivial,?_⟩;unfold wpListIn;exact⟨ok',H',_,by rw[hd];exact u.put (some d) (.refl _ _) (.refl _) u.mem (.d _ _ (.lit _)),S b Y⟩
def aCc {P:Program} {σ j:BI} {Q:Exit→BI→Prop} {id:Nat} {ops:Array Oper} {y:Code} {q:Oper} {x:Operand} {t t' e d:Nat} {es:List D} (k:Nat) (f:ops.toList.drop k=[q]) (h:Chain P ops (ops.toList.take k) σ j)
 (n:q.op=.binOp .eql t x (.const (.slice none 0 0)) t') (hd:q.dst=some d) (u:q.guard=none) (z:P.underlying t=some (.slice e)) (I:j.get x=.d (.sl es)) (J:∀b,(es≠[]→b=false)→AB P y (j.sF (some d) (.d (.lit (.bool b)))) Q):AB P (.seq (.region id ops false) y) σ Q:=
 AB.seq (fun s=>∃b,(es≠[]→b=false)∧s=j.sF (some d) (.d (.lit (.bool b)))) (AB.axd k f h n hd u z I fun b m=>⟨b,m,rfl⟩) (by rintro _ ⟨b,m,rfl⟩;exact J b m)
def aCu {α:Type} {l:List α} {e:α→D} (h:List.map e l≠[]→true=false):l=[]:=by
 cases l with
 |nil=>rfl
 |cons a l=>exact absurd (h BP) BQ
def aQN {α:Type} {p:Nat→α→Prop}:∀n,(∀i,i<n→∃x,p i x)→∃l:List α,l.length=n∧∀i (h:i<l.length),p i l[i]
 |0,_=>⟨[],rfl,fun i h=>Hr⟩
 |n+1,h=>by
  obtain⟨l,f,j⟩:=aQN n (fun i hi=>h i AA);obtain⟨x,m⟩:=h n AA;refine⟨l++[x],Wh,fun i hi=>?_⟩;simp at hi;by_cases e:i<l.length
  ·rw[aOJ e];exact j i e
  have :i=n:=AA
  subst this;rw[aSj AA];simpa[f]using m
def pieces :List Nat→Nat→List Value→List Value
 | [],_,_=>[]
 |n::r,o,cs=>(cs.drop o).take n++pieces r (o+n) cs
def pieces_eq :∀(ns:List Nat) (o:Nat) (cs:List Value),cs.length=o+ns.sum→pieces ns o cs=cs.drop o
 | [],o,cs,h=>by simp at h;simp[pieces,h]
 |n::r,o,cs,h=>by
  simp only[List.sum_cons]at h;unfold pieces;rw[pieces_eq r (o+n) cs AA,←aOV,dG]
def Bz (w:World) (f:List D) (cs:List Value):Prop:=cs.length=f.length∧∀j,j<f.length→(f.getD j Dn).leaf=true∧Dz (fun b=>b<w.heap.size) w (f.getD j Dn) (cs.getD j undef)
def Bz.nil (w:World):Bz w [] []:=⟨rfl,fun j h=>Hr⟩
def Bz.append {w:World} {f es:List D} {cs us:List Value} (h:Bz w f cs) (k:Bz w es us):Bz w (f++es) (cs++us):=by
 refine⟨by simp[h.1,k.1],fun j s=>?_⟩;by_cases e:j<f.length
 ·have m:(f++es).getD j Dn=f.getD j Dn:=aLy
  have n:(cs++us).getD j undef=cs.getD j undef:=by simp[List.getD,GZ (show j<cs.length by rw[h.1];exact e)]
  rw[m,n];exact h.2 j e
 have q:j-f.length<es.length:=Tf
 have m:(f++es).getD j Dn=es.getD (j-f.length) Dn:=by simp[List.getD,Jh (Tz e)]
 have n:(cs++us).getD j undef=us.getD (j-f.length) undef:=by
  have u:=h.1;simp only[List.getD,Jh (show cs.length≤j by omega),u]
 rw[m,n];exact k.2 _ q
section
variable {H : Type} {enc : TypeId × Value → H} {w : World} {base : Nat} {spare : Nat → Bool} {held : Bool} {P : Program} {t : TypeId}
def IU {α:Type} (enc:TypeId×Value→H) (P:Program) (w:World) (base:Nat) (spare:Nat→Bool) (held:Bool) (t:TypeId) (e:α→D) (V:α→Prop):Prop:=
 ∀Ap cs x,DataW.trod enc P w base spare held Ap t cs=some x→∃a:α,V a∧Bz w (e a).cells cs
def Bz.one {w:World} {x:D} {v:Value} (f:x.cells=[x]) (m:x.leaf=true) (h:Dz (fun b=>b<w.heap.size) w x v):Bz w x.cells [v]:=by
 rw[f];refine⟨rfl,fun j n=>?_⟩
 match j,n with
 |0,_=>exact⟨m,h⟩
def Iu {α:Type} {e:TypeId} {sz:Nat} {O:α→D} {V:α→Prop} (ht:P.underlying t=some (.slice e)) (hc:P.cellsOf e=sz) (U:0<sz) (hsz:∀a,(O a).cells.length=sz) (hR:IU enc P w base spare held e O V):
 IU enc P w base spare held t (BD O) (fun l=>l.length≤maxLen∧∀x∈l,V x):=by
 intro Ap cs x h;rcases Go.Deep.open_slice ht h with⟨rfl, -⟩|⟨a,len,cap,m,n,D,Pl,rfl, -,hl,hm,hmm, -,hx⟩
 ·exact⟨[],⟨Eh _,fun x h=>Hr⟩,.one rfl rfl (.sl0 none 0)⟩
 have hlm:len≤m:=by rw[hmm];split<;>omega
 rw[hc]at hx
 have hex:∀i,i<len→∃y:α,V y∧∃q:List Value,w.cells? base (a.add (i*sz)) sz=some q∧Bz w (O y).cells q:=by
  intro i hi;obtain⟨q,S,h2⟩:=hx i AA;obtain⟨y,h3,z⟩:=hR _ _ _ h2;exact⟨y,h3,q,S,z⟩
 obtain⟨l,hlen,Y⟩:=aQN len hex;subst hlen;refine⟨l,⟨AA,fun x hx=>?_⟩,?_⟩
 ·obtain⟨i,hi,rfl⟩:=JJ hx;exact(Y i hi).1
 rcases XO l.length with h0|hlp
 ·have :l=[]:=H9 h0;subst this;exact .one rfl rfl (.sl0 _ _)
 have f:∀i,(hi:i<l.length)→∀j,j<sz→∃u,w.cell? ((a.add (i*sz)).add j)=some u∧((O l[i]).cells.getD j Dn).leaf=true∧Dz (fun b=>b<w.heap.size) w ((O l[i]).cells.getD j Dn) u:=by
  intro i hi j Z;obtain⟨-,q,S,h2⟩:=Y i hi;obtain⟨-,h6,h5⟩:=World.cells?_some S;have hcl:q.length=sz:=by rw[h2.1,hsz]
  have h7:=h5 j Z;rw[Dx AA]at h7;refine⟨_,h7,?_⟩;have h8:=h2.2 j (by rw[hsz];exact Z);simpa[List.getD,show j<q.length by omega]using h8
 have J:a.spot=none:=by
  obtain⟨u,z, -⟩:=f 0 hlp 0 U;have e0:(a.add (0*sz)).add 0=a:=by simp[Addr.add]
  rw[e0]at z;unfold World.cell? at z;cases hsp:a.spot with
  |none=>rfl
  |some s=>
   rw[hsp]at z;cases hh:w.heap[a.block]? with
   |none=>rw[hh]at z;simp at z
   |some o=>rw[hh]at z;cases o<;>simp at z
 have hblk:a.block<w.heap.size:=by
  obtain⟨u,z, -⟩:=f 0 hlp 0 U;have e0:(a.add (0*sz)).add 0=a:=by simp[Addr.add]
  rw[e0]at z;unfold World.cell? at z;apply Xq;intro hn;rw[Array.getElem?_eq_none (Tz hn)]at z;simp at z
 obtain⟨b,o,s⟩:=a;simp only at J hblk;subst J;have I:(List.map O l).length=l.length:=D8 _;have L:∀i,(hi:i<l.length)→(List.map O l).getD i Dn=O l[i]:=fun i hi=>MX
 have M:∀i j,((⟨b,o,none⟩:Addr).add (i*sz)).add j=⟨b,o+(i*sz+j),none⟩:=fun i j=>by simp only[Addr.add];split<;>split<;>simp_all<;>omega
 refine .one rfl rfl ?_
 have :=Dz.sl (ok:=fun b=>b<w.heap.size) (w:=w) (List.map O l) b o cap sz (by rw[I];exact hl) (fun _ _=>hblk) (fun i hi=>by rw[I]at hi;rw[L i hi];exact hsz _)
  (fun i hi j Z=>by rw[I]at hi;obtain⟨u,_,h2,_⟩:=f i hi j Z;rw[L i hi];exact h2)
  (fun i hi j Z=>by rw[I]at hi;obtain⟨u,S,_,_⟩:=f i hi j Z;rw[M]at S;rw[S];rfl)
  (fun i hi j Z=>by rw[I]at hi;obtain⟨u,S,_,h3⟩:=f i hi j Z;rw[M]at S;rw[L i hi];unfold cellAt;rw[S];exact h3)
 rw[I]at this;exact this
def EI {k:IntKind} (f:P.underlying t=some (.int k)):IU enc P w base spare held t (fun n=>D.lit (.int k n)) (fun n:Int=>k.min≤n∧n≤k.max):=by
 intro Ap cs x h;obtain⟨n,rfl, -,j⟩:=DataW.trod_int f h;exact⟨n,by simpa[Lit.wf]using j,.one rfl rfl (.lit _)⟩
def J4 (f:P.underlying t=some .string):IU enc P w base spare held t Cm (fun s=>s.size≤maxLen):=by
 intro Ap cs x h;obtain⟨n,rfl, -,j⟩:=DataW.trod_string f h;exact⟨n,j,.one rfl rfl (.lit _)⟩
def lU (f:P.underlying t=some .bool):IU enc P w base spare held t D7 (fun _=>True):=by
 intro Ap cs x h;obtain⟨n,rfl, -⟩:=DataW.trod_bool f h;exact⟨n,trivial,.one rfl rfl (.lit _)⟩
def Ci {α:Type} {s:Array Field} {Ap:Nat} {cs:List Value} {x:DataW H×List MemPlace} (J:P.underlying t=some (.struct s)) (h:DataW.trod enc P w base spare held Ap t cs=some x) (i:Nat) (u o n:Nat) (m:(s[i]?).map (fun f=>(f.type,f.offset,P.cellsOf f.type))=some (u,o,n))
 {z:α→D} {V:α→Prop} (L:IU enc P w base spare held u z V):∃a:α,V a∧Bz w (z a).cells ((cs.drop o).take n):=by
 obtain⟨xs,k, -, -, -,hlen,q⟩:=DataW.trod_struct J h;cases j:s[i]? with
 |none=>rw[j]at m;simp at m
 |some f=>
  rw[j]at m;simp only[Ie,MI,Rs]at m;obtain⟨rfl,rfl,rfl⟩:=m;have I:=q i f j;have hi:i<s.size:=(Fv.1 j).1;rw[Dx AA]at I;exact L _ _ _ I
def Jr {f:Array Field} {Ap:Nat} {cs:List Value} {x:DataW H×List MemPlace} (j:P.underlying t=some (.struct f)) (h:DataW.trod enc P w base spare held Ap t cs=some x) (n:Nat) (m:P.cellsOf t=n):cs.length=n:=by
 obtain⟨xs,k, -, -,hlen, -⟩:=DataW.trod_struct j h;rw[hlen,m]
def Jw {cs:List Value} {f:List D} (ns:List Nat) (j:cs.length=ns.sum) (h:Bz w f (pieces ns 0 cs)):Bz w f cs:=by
 rw[pieces_eq ns 0 cs AA]at h;simpa using h
end
def aQU {w:World} {x:D} {f:List D} {cs:Array Value} (j:x=.agg f) (h:Bz w x.cells (Value.agg cs).cells.toList):Dz (fun b=>b<w.heap.size) w x (.agg cs):=by
 subst j;have h':Bz w f cs.toList:=h
 exact .agg f cs (by simpa using h'.1) (fun i hi=>(h'.2 i hi).1) fun i hi=>by
  have :=(h'.2 i hi).2;simpa[Gx,List.getD]using this
def acu {w:World} {x:D} {v:Value} (f:x.cells=[x]) (j:v.cells= #[v]) (h:Bz w x.cells v.cells.toList):Dz (fun b=>b<w.heap.size) w x v:=by
 rw[f,j]at h;exact(h.2 0 BP).2
def Ak.start {P:Program} {f:FuncId} {xs:List D} {j:Array Value} {W:World} {x:D} (h:Ak P f (xs.map .d) [] (.d x) []) (s:j.size=xs.length) (ha:∀i,i<xs.length→Dz (fun b=>b<W.heap.size) W (xs.getD i Dn) (j.getD i undef)):
 Calls P f j W fun e W'=>∃v ok,e=.returned v∧Dz ok W' x v∧Below W.heap.size W W':=by
 refine(h (fun b=>b<W.heap.size) [] [] W j ⟨.refl _ _,fun _ h=>h,fun _ h=>.inl h,fun _ h=>h,.refl _,rfl,fun k e h m=>by simp at m,fun k e h b m=>by simp at m,fun k k' e e' h h' b m=>by simp at m⟩ Pg (fun i hi=>?_)).mono ?_
 ·have n:i<xs.length:=Fp
  have :(xs.map Ag.d).getD i .junk=.d (xs.getD i Dn):=by simp[List.getD,n]
  rw[this];exact .d _ _ (ha i n)
 rintro e W' ⟨v,ok',H',rfl,u,q⟩;cases q with
 |d _ _ q=>exact⟨v,ok',rfl,q,u.fr.below⟩
def Ak.law {P:Program} {f:FuncId} {xs:List D} {j:Array Value} {W:World} (h:Ak P f (xs.map .d) [] (.d (D7 true)) []) (m:j.size=xs.length) (ha:∀i,i<xs.length→Dz (fun b=>b<W.heap.size) W (xs.getD i Dn) (j.getD i undef)):
 Calls P f j W fun e W'=>e=.returned (.bool true)∧Below W.heap.size W W':=by
 refine(h.start m ha).mono ?_;rintro e W' ⟨v,ok,rfl,n,q⟩;exact⟨by rw[Dz.am9 n],q⟩
end Go.Proofs.YtolgdkhlelfpoaaGreat
end
section
namespace Go.Proofs.YtolgdkhlelfpoaaGreat
def Dj (l:List Int) (x:Int):Bool:=l.contains x
def KZ {l:List Int} {x:Int}:Dj l x=true↔x∈l:=by unfold Dj;simp
def OY {l:List Int} {x:Int}:Dj l x=false↔x∉l:=by unfold Dj;simp
def put (l:List Int) (x:Int):List Int:=if Dj l x then l else l.takeWhile (decide<| · <x)++x::l.dropWhile (decide<| · <x)
def ER (l:List Int):List Int:=l.foldl put []
def I5 (a b:List Int):List Int:=b.foldl put (ER a)
def Og (a b:List Int):List Int:=(ER a).filter (fun x=> !Dj b x)
abbrev Inc (l:List Int):Prop:=l.Pairwise (· < ·)
def aeA {l:List Int} {x:Int}:∀y∈l.takeWhile (decide<| · <x),y<x:=by
 intro y f;have :=List.all_takeWhile (l:=l) (p:=(decide<| · <x));rw[EZ]at this;simpa using this y f
def aSa :∀{l:List Int} {x:Int},Inc l→∀y∈l.dropWhile (decide<| · <x),x≤y
 | [],x,_,y,f=>UJ
 |a::l,x,h,y,f=>by
  have h':=PY.1 h;by_cases ha:a<x
  ·rw[ac4 (by simpa using ha)]at f;exact aSa h'.2 y f
  rw[aUt (by simpa using ha)]at f;rcases F9.1 f with rfl|f
  ·omega
  have :=h'.1 y f;omega
def VW {l:List Int} {x y:Int}:y∈put l x↔y∈l∨y=x:=by
 unfold put;split
 ·rename_i h;have f:x∈l:=KZ.1 h;constructor
  ·exact .inl
  rintro(h|rfl)
  ·exact h
  exact f
 have e:l.takeWhile (decide<| · <x)++l.dropWhile (decide<| · <x)=l:=vP
 have :y∈l↔y∈l.takeWhile (decide<| · <x)∨y∈l.dropWhile (decide<| · <x):=by
  conv=>lhs;rw[←e]
  exact Ia
 rw[this,Ia,F9];constructor
 ·rintro(h|h|h)
  ·exact .inl (.inl h)
  ·exact .inr h
  exact .inl (.inr h)
 rintro((h|h)|h)
 ·exact .inl h
 ·exact .inr (.inr h)
 exact .inr (.inl h)
def Qm {l:List Int} {x:Int} (h:Inc l):Inc (put l x):=by
 unfold put;split
 ·exact h
 rename_i q;have f:x∉l:=fun h=>q (KZ.2 h)
 have hd:∀y∈l.dropWhile (decide<| · <x),x<y:=by
  intro y m;have n:=aSa h y m;have s:y∈l:=(aHa _).mem m;have :y≠x:=fun e=>f (e▸s);omega
 refine aC5.2 ⟨h.sublist (List.takeWhile_sublist _),PY.2 ⟨hd,h.sublist (aHa _)⟩,?_⟩;intro a ha b j;have n:=aeA a ha;rcases F9.1 j with rfl|j
 ·exact n
 have :=hd b j;omega
def aLh {l:List Int}:∀{f:List Int} {y:Int},y∈l.foldl put f↔y∈f∨y∈l:=by
 induction l with
 |nil=>intro f y;simp
 |cons a l h=>intro f y;rw[Fb,h,VW,F9,or_assoc]
def aDI {l:List Int}:∀{f:List Int},Inc f→Inc (l.foldl put f):=by
 induction l with
 |nil=>intro f h;exact h
 |cons a l j=>intro f h;exact j (Qm h)
def NC {l:List Int} {y:Int}:y∈ER l↔y∈l:=by unfold ER;rw[aLh];simp
def Lm (l:List Int):Inc (ER l):=aDI List.Pairwise.nil
def G9 :∀{a b:List Int},Inc a→Inc b→(∀x,x∈a↔x∈b)→a=b
 | [],[],_,_,_=>rfl
 | [],b::bs,_,_,h=>by have :=(h b).2 BP;simp at this
 |a::aGI,[],_,_,h=>by have :=(h a).1 BP;simp at this
 |a::aGI,b::bs,ha,s,h=>by
  have j:=PY.1 ha;have m:=PY.1 s
  have e:a=b:=by
   rcases F9.1 ((h a).1 BP)with f|f
   ·exact f
   rcases F9.1 ((h b).2 BP)with n|n
   ·exact n.symm
   have :=j.1 b n;have :=m.1 a f;omega
  subst e;congr 1;refine G9 j.2 m.2 fun x=>?_;have q:=h x;rw[F9,F9]at q;constructor
  ·intro f;rcases q.1 (.inr f)with rfl|n
   ·exact absurd (j.1 x f) AA
   exact n
  intro f;rcases q.2 (.inr f)with rfl|n
  ·exact absurd (m.1 x f) AA
  exact n
def ah9 {l:List Int} (h:Inc l):ER l=l:=G9 (Lm l) h fun _=>NC
def og (a b:List Int):I5 a b=ER (a++b):=by unfold I5 ER;rw[Uc]
def dK {a b:List Int} {x:Int}:x∈I5 a b↔x∈a∨x∈b:=by rw[og,NC,Ia]
def yZ (a b:List Int):Inc (I5 a b):=by rw[og];exact Lm _
def aSe {a b:List Int} {x:Int}:x∈Og a b↔x∈a∧x∉b:=by unfold Og;rw[Hf,NC];simp[Dj]
def aLA (a b:List Int):Inc (Og a b):=(Lm a).sublist SH
def aeF (f:List Int):∀m,m≤f.length→∀x,x∈Lib.compactUpTo f.toArray m↔x∈f.take m:=by
 intro m
 induction m with
 |zero=>intro _ x;simp[Lib.compactUpTo]
 |succ m q=>
  intro I x;rw[Lib.compactUpTo_succ,Ia,q AA,P5 AA,Ia];have s:f.toArray[m]! =f[m]' AA:=by simp[show m<f.length by omega]
  by_cases n:Lib.keeps f.toArray m=true
  ·rw[D9 n,s]
  rw[DN n];have j:Lib.keeps f.toArray m=false:=Nk
  have u:m≠0:=by intro e;subst e;simp[Lib.keeps]at j
  have z:f[m]' AA=f[m-1]' AA:=by
   simp[Lib.keeps,u]at j;simpa[show m<f.length by omega,show m-1<f.length by omega]using j
  constructor
  ·intro h;rcases h with h|h
   ·exact .inl h
   simp at h
  rintro(h|h)
  ·exact .inl h
  refine .inl ?_;simp at h;subst h;rw[z];rw[List.mem_take_iff_getElem];exact⟨m-1,AA,rfl⟩
def asn (f:List Int) (z:f.Pairwise (· ≤ ·)):∀m,m≤f.length→Inc (Lib.compactUpTo f.toArray m)∧∀x∈Lib.compactUpTo f.toArray m,∃i,∃_:i<m,∃n:i<f.length,x=f[i]:=by
 intro m
 induction m with
 |zero=>intro _;refine⟨by simp[Lib.compactUpTo],fun x h=>by simp[Lib.compactUpTo]at h⟩
 |succ m L=>
  intro U;obtain⟨I,n⟩:=L AA;have M:f.toArray[m]! =f[m]' AA:=by simp[show m<f.length by omega]
  rw[Lib.compactUpTo_succ];by_cases q:Lib.keeps f.toArray m=true
  ·rw[D9 q,M];refine⟨aC5.2 ⟨I,BP,?_⟩,?_⟩
   ·intro a ha b J;simp at J;subst J;obtain⟨i,hi,O,rfl⟩:=n a ha
    have s:∀j,(S:j<m)→f[j]' AA≤f[m-1]' AA:=by
     intro j S;by_cases e:j=m-1
     ·subst e;omega
     exact Ky.1 z j (m-1) AA AA AA
    have Y:=s i hi;have Z:=Ky.1 z (m-1) m AA AA AA
    have h5:f[m]' AA≠f[m-1]' AA:=by
     have u:m≠0:=AA
     simp[Lib.keeps,u]at q;simpa[show m<f.length by omega,show m-1<f.length by omega]using q
    omega
   intro x h;rcases Ia.1 h with h|h
   ·obtain⟨i,a,b,c⟩:=n x h;exact⟨i,AA,b,c⟩
   simp at h;exact⟨m,AA,AA,h⟩
  rw[DN q,RZ];refine⟨I,fun x h=>?_⟩;obtain⟨i,a,b,c⟩:=n x h;exact⟨i,AA,b,c⟩
def aKI (l:List Int):Lib.compact (l.mergeSort fun x y=>decide (x≤y))=ER l:=by
 have f:(l.mergeSort fun x y=>decide (x≤y)).Pairwise (· ≤ ·):=by
  have :=List.pairwise_mergeSort (le:=fun x y:Int=>decide (x≤y)) (by intro a b c;simp;omega) (by intro a b;simp;omega) l;exact this.imp (by intro a b h;simpa using h)
 refine G9 (asn _ f _ (EG _)).1 (Lm l) fun x=>?_;rw[NC];unfold Lib.compact;rw[aeF _ _ (EG _),Gi];exact List.mem_mergeSort
def fE {R:Type} (o:Option R) (Q:R→Prop):Prop:=∃r,o=some r∧Q r
section
variable {R A B α : Type} {Q : R → Prop}
def fE.ret {r:R} (h:Q r):fE (some r) Q:=⟨r,rfl,h⟩
def fE.bind {o:Option A} {f:A→Option R} {P:A→Prop} (h:fE o P) (k:∀x,P x→fE (f x) Q):fE (o.bind f) Q:=by
 obtain⟨x,rfl,j⟩:=h;exact k x j
def fE.mono {o:Option R} {P:R→Prop} (h:fE o P) (k:∀r,P r→Q r):fE o Q:=by
 obtain⟨x,rfl,f⟩:=h;exact⟨x,rfl,k x f⟩
def fE.bif {b:Bool} {x y:Option R} (f:b=true→fE x Q) (h:b=false→fE y Q):fE (bif b then x else y) Q:=by
 cases b with
 |true=>exact f rfl
 |false=>exact h rfl
def fE.eq {o:Option R} {r:R} (h:fE o (· =r)):o=some r:=by obtain⟨x,rfl,rfl⟩:=h;rfl
def fE.of {o:Option R} {r:R} (h:o=some r):fE o (· =r):=⟨r,h,rfl⟩
def jq (l:List α) (i:Nat):Aj l (i:Int)=l[i]? :=by unfold Aj;rw[D9 (aKL i)];simp
def CB {l:List α} {i:Nat} (h:i<l.length):Aj l (i:Int)=some l[i]:=by rw[jq];simp[h]
def Di {b:Nat} {l m:List α} (h:(l.length+m.length)*b≤140737488355328):CY b l m=some (l++m):=by unfold CY;rw[D9 h]
def lu {l:List α} {lo hi:Nat} (f:lo≤hi) (h:hi≤l.length):HY l (lo:Int) (hi:Int)=some ((l.drop lo).take (hi-lo)):=by
 unfold HY;rw[D9 ⟨AA,AA,AA⟩];simp
def wrap_succ (i:Nat) (h:i<9223372036854775807):Aw ((i:Int)+1)=((i+1:Nat):Int):=by
 rw[Zy];omega
def OI {x:Int} (f: -9223372036854775808≤x) (h:x≤9223372036854775807):Aw x=x:=by
 rw[Zy];omega
def aaO {body:(A→Option R)→A→Option R} (I:Nat→A→Prop) (q:∀m a k,I m a→(∀f a',f<m→I f a'→fE (k a') Q)→fE (body k a) Q):
 ∀n m a,m<n→I m a→fE (bn body n a) Q
 |0,m,a,h,_=>AA
 |n+1,m,a,h,hi=>q m a _ hi fun f a' h' j=>aaO I q n f a' AA j
def Xi {body:(A→B→Option R)→A→B→Option R} (I:Nat→A→B→Prop) (s:∀m a b k,I m a b→(∀f a' j,f<m→I f a' j→fE (k a' j) Q)→fE (body k a b) Q):
 ∀n m a b,m<n→I m a b→fE (aS body n a b) Q
 |0,m,a,b,h,_=>AA
 |n+1,m,a,b,h,hi=>s m a b _ hi fun f a' j h' q=>Xi I s n f a' j AA q
def dH {body:(Int→Option R)→Int→Option R} (N:Nat) (f:N<Ap) (I:Nat→Prop) (j:I 0)
 (n:∀i k,i<N→I i→(I (i+1)→fE (k ((i+1:Nat):Int)) Q)→fE (body k (i:Int)) Q) (q:∀k,I N→fE (body k (N:Int)) Q):fE (bn body Ap 0) Q:=by
 refine aaO (body:=body) (Q:=Q) (fun m a=>∃i:Nat,a=i∧i+m=N∧I i) ?_ Ap N 0 f ⟨0,rfl,AA,j⟩;rintro m a k ⟨i,rfl,u,hi⟩ s;by_cases e:i<N
 ·exact n i k e hi fun h=>s (m-1) _ AA ⟨i+1,rfl,AA,h⟩
 have :i=N:=AA
 subst this;exact q k hi
def KC {body:(A→Int→Option R)→A→Int→Option R} (N:Nat) (f:N<Ap) (I:Nat→A→Prop) {a0:A} (j:I 0 a0)
 (n:∀i a k,i<N→I i a→(∀a',I (i+1) a'→fE (k a' ((i+1:Nat):Int)) Q)→fE (body k a (i:Int)) Q) (q:∀a k,I N a→fE (body k a (N:Int)) Q):fE (aS body Ap a0 0) Q:=by
 refine Xi (body:=body) (Q:=Q) (fun m a b=>∃i:Nat,b=i∧i+m=N∧I i a) ?_ Ap N a0 0 f ⟨0,rfl,AA,j⟩;rintro m a b k ⟨i,rfl,u,hi⟩ s;by_cases e:i<N
 ·exact n i a k e hi fun a' h=>s (m-1) _ _ AA ⟨i+1,rfl,AA,h⟩
 have :i=N:=AA
 subst this;exact q a k hi
end
end Go.Proofs.YtolgdkhlelfpoaaGreat
end
section
namespace Go.Proofs
open Go.Proofs.YtolgdkhlelfpoaaGreat
open Go.Shelf
def Tryz.auQ:Go.Shelf.Ren:=⟨fun |137=>171|217=>234|266=>308|n=>n,fun |9=>9|5=>5|3=>3|n=>n,fun |n=>n⟩
def Tryz.lays137:Go.Proofs.Lays.n137 Tryz.prog Tryz.auQ:={
 mixed:=A8
 f137:=Tryz.func171.trans (BR some A8)
 f217:=Tryz.func234.trans (BR some A8)
 f266:=Tryz.func308.trans (BR some A8)
 t3:=EH
 a3:=Zj
 z3:=dA
 v3:=aX
 t5:=tV
 a5:=xq
 z5:=nK
 v5:=qp
 t9:=Hl
 a9:=uM
 z9:=qV
 v9:=yE }
open Go.RowKit in
def Tryz.strings_IndexByte (s:ByteArray) (c:Int) (w:World):
 Calls Tryz.prog 171 #[.string s,.int .u8 c] w fun e w'=>e=.returned (.int .i64 (Lib.indexByte s.data.toList c.toNat.toUInt8))∧w'=w:=Any.strings_IndexByte Tryz.lays137 s c w
def Tryz.auR:Go.Shelf.Ren:=⟨fun |215=>261|n=>n,fun |3=>3|4=>4|n=>n,fun |n=>n⟩
def Tryz.lays215:Go.Proofs.Lays.n215 Tryz.prog Tryz.auR:={
 mixed:=A8
 f215:=Tryz.func261.trans (BR some A8)
 t3:=EH
 a3:=Zj
 z3:=dA
 v3:=aX
 t4:=PS
 a4:=gq
 z4:=jc
 v4:=iY }
open Go.RowKit in
def Tryz.cmp_isNaN_int (x:Int) (w:World):
 Calls Tryz.prog 261 #[.int .i64 x] w fun e w'=>e=.returned (.bool false)∧w'=w:=Any.cmp_isNaN_int Tryz.lays215 x w
def Tryz.auS:Go.Shelf.Ren:=⟨fun |219=>309|217=>234|225=>371|224=>372|267=>373|266=>308|314=>393|n=>n,fun |9=>9|3=>3|4=>4|5=>5|46=>89|146=>326|51=>226|n=>n,fun |1=>0|n=>n⟩
def Tryz.lays219:Go.Proofs.Lays.n219 Tryz.prog Tryz.auS:={
 mixed:=A8
 f217:=Tryz.func234.trans (BR some A8)
 f219:=Tryz.func309.trans (BR some A8)
 f224:=Tryz.func372.trans (BR some A8)
 f225:=Tryz.func371.trans (BR some A8)
 f266:=Tryz.func308.trans (BR some A8)
 f267:=Tryz.func373.trans (BR some A8)
 f314:=Tryz.func393.trans (BR some A8)
 t3:=EH
 a3:=Zj
 z3:=dA
 v3:=aX
 t4:=PS
 a4:=gq
 z4:=jc
 v4:=iY
 t5:=tV
 a5:=xq
 z5:=nK
 v5:=qp
 t9:=Hl
 a9:=uM
 z9:=qV
 v9:=yE
 t46:=aHE
 a46:=Tryz.isAgg89
 z46:=Tryz.sizeOf89
 v46:=aC3
 t51:=aD4
 a51:=Tryz.isAgg226
 z51:=aB1
 v51:=aDS
 t146:=Tryz.underlying326
 a146:=Tryz.isAgg326
 z146:=Tryz.sizeOf326
 v146:=Tryz.zeroValue326
 g1:=by kernel_rfl }
open Go.RowKit Go.Lib in
def Tryz.stringslite_Index_one (s:ByteArray) (c:UInt8) (w:World):
 Calls Tryz.prog 309 #[.string s,.string ⟨#[c]⟩] w fun e w'=>e=.returned (.int .i64 (Lib.indexByte s.data.toList c))∧w'=w:=Any.stringslite_Index_one Tryz.lays219 s c w
def Tryz.auT:Go.Shelf.Ren:=⟨fun |145=>172|220=>235|219=>309|217=>234|225=>371|224=>372|267=>373|266=>308|314=>393|n=>n,fun |9=>9|4=>4|59=>152|3=>3|5=>5|46=>89|146=>326|51=>226|n=>n,fun |1=>0|n=>n⟩
def Tryz.lays145:Go.Proofs.Lays.n145 Tryz.prog Tryz.auT:={
 mixed:=A8
 f145:=Tryz.func172.trans (BR some A8)
 f217:=Tryz.func234.trans (BR some A8)
 f219:=Tryz.func309.trans (BR some A8)
 f220:=Tryz.func235.trans (BR some A8)
 f224:=Tryz.func372.trans (BR some A8)
 f225:=Tryz.func371.trans (BR some A8)
 f266:=Tryz.func308.trans (BR some A8)
 f267:=Tryz.func373.trans (BR some A8)
 f314:=Tryz.func393.trans (BR some A8)
 t3:=EH
 a3:=Zj
 z3:=dA
 v3:=aX
 t4:=PS
 a4:=gq
 z4:=jc
 v4:=iY
 t5:=tV
 a5:=xq
 z5:=nK
 v5:=qp
 t9:=Hl
 a9:=uM
 z9:=qV
 v9:=yE
 t46:=aHE
 a46:=Tryz.isAgg89
 z46:=Tryz.sizeOf89
 v46:=aC3
 t51:=aD4
 a51:=Tryz.isAgg226
 z51:=aB1
 v51:=aDS
 t59:=Tryz.underlying152
 a59:=Tryz.isAgg152
 z59:=Tryz.sizeOf152
 v59:=Tryz.zeroValue152
 t146:=Tryz.underlying326
 a146:=Tryz.isAgg326
 z146:=Tryz.sizeOf326
 v146:=Tryz.zeroValue326
 g1:=by kernel_rfl }
open Go.RowKit Go.Lib in
def Tryz.strings_Cut (s sep:ByteArray) (m:Int) (w:World) (hs:s.size<4294967281) (hm:w.cell? ⟨0,0,none⟩=some (.int .i64 m)):
 Calls Tryz.prog 172 #[.string s,.string sep] w fun e w'=>e=.returned (.tuple #[.string ⟨(Lib.cut s.data.toList sep.data.toList).1.toArray⟩,.string ⟨(Lib.cut s.data.toList sep.data.toList).2.1.toArray⟩,.bool (Lib.cut s.data.toList sep.data.toList).2.2])∧∃n,w'=w.drewN n:=Any.strings_Cut Tryz.lays145 s sep m w hs hm
def Tryz.auU:Go.Shelf.Ren:=⟨fun |189=>103|125=>149|257=>148|128=>204|129=>205|294=>195|295=>196|296=>197|297=>198|298=>199|299=>200|216=>201|300=>202|301=>203|328=>256|329=>257|330=>258|331=>259|332=>260|215=>261|343=>337|n=>n,fun |28=>24|3=>3|46=>89|0=>0|51=>226|53=>228|4=>4|183=>220|182=>219|131=>97|5=>5|9=>9|218=>254|222=>258|228=>300|229=>301|n=>n,fun |n=>n⟩
def Tryz.lays189:Go.Proofs.Lays.n189 Tryz.prog Tryz.auU:={
 mixed:=A8
 f125:=Tryz.func149.trans (BR some A8)
 f128:=Tryz.func204.trans (BR some A8)
 f129:=Tryz.func205.trans (BR some A8)
 f189:=Tryz.func103.trans (BR some A8)
 f215:=Tryz.func261.trans (BR some A8)
 f216:=Tryz.func201.trans (BR some A8)
 f257:=Tryz.func148.trans (BR some A8)
 f294:=Tryz.func195.trans (BR some A8)
 f295:=Tryz.func196.trans (BR some A8)
 f296:=Tryz.func197.trans (BR some A8)
 f297:=Tryz.func198.trans (BR some A8)
 f298:=Tryz.func199.trans (BR some A8)
 f299:=Tryz.func200.trans (BR some A8)
 f300:=Tryz.func202.trans (BR some A8)
 f301:=Tryz.func203.trans (BR some A8)
 f328:=Tryz.func256.trans (BR some A8)
 f329:=Tryz.func257.trans (BR some A8)
 f330:=Tryz.func258.trans (BR some A8)
 f331:=Tryz.func259.trans (BR some A8)
 f332:=Tryz.func260.trans (BR some A8)
 f343:=Tryz.func337.trans (BR some A8)
 t0:=Tryz.underlying0
 a0:=Tryz.isAgg0
 z0:=Tryz.sizeOf0
 v0:=Tryz.zeroValue0
 t3:=EH
 a3:=Zj
 z3:=dA
 v3:=aX
 t4:=PS
 a4:=gq
 z4:=jc
 v4:=iY
 t5:=tV
 a5:=xq
 z5:=nK
 v5:=qp
 t9:=Hl
 a9:=uM
 z9:=qV
 v9:=yE
 t28:=YX
 a28:=Tryz.isAgg24
 z28:=Tryz.sizeOf24
 v28:=Tryz.zeroValue24
 t46:=aHE
 a46:=Tryz.isAgg89
 z46:=Tryz.sizeOf89
 v46:=aC3
 t51:=aD4
 a51:=Tryz.isAgg226
 z51:=aB1
 v51:=aDS
 t53:=Tryz.underlying228
 a53:=Tryz.isAgg228
 z53:=Tryz.sizeOf228
 v53:=Tryz.zeroValue228
 t131:=Tryz.underlying97
 a131:=Tryz.isAgg97
 z131:=Tryz.sizeOf97
 v131:=Tryz.zeroValue97
 t182:=Tryz.underlying219
 a182:=Tryz.isAgg219
 z182:=Tryz.sizeOf219
 v182:=Tryz.zeroValue219
 t183:=Tryz.underlying220
 a183:=Tryz.isAgg220
 z183:=Tryz.sizeOf220
 v183:=Tryz.zeroValue220
 t218:=Tryz.underlying254
 a218:=Tryz.isAgg254
 z218:=Tryz.sizeOf254
 v218:=Tryz.zeroValue254
 t222:=Tryz.underlying258
 a222:=Tryz.isAgg258
 z222:=Tryz.sizeOf258
 v222:=Tryz.zeroValue258
 t228:=Tryz.underlying300
 a228:=Tryz.isAgg300
 z228:=Tryz.sizeOf300
 v228:=Tryz.zeroValue300
 t229:=Tryz.underlying301
 a229:=Tryz.isAgg301
 z229:=Tryz.sizeOf301
 v229:=Tryz.zeroValue301 }
open Go.Sort Go.RowKit in
def Tryz.slices_Sort_int (blk off cap:Nat) (zs:List Int) (w:World) (hH:Holds BO w blk off zs.toArray) (hblk:blk<w.heap.size) (hsz:zs.length<4611686018427387904):
 Calls Tryz.prog 103 #[.slice (some ⟨blk,off,none⟩) zs.length cap] w fun e w'=>
  e=.returned (.tuple #[])∧∃n os,w'=grow (putRow BO (Sort.ahead w n) blk off (zs.mergeSort fun x y=>decide (x≤y)).toArray) os:=Any.slices_Sort_int Tryz.lays189 blk off cap zs w hH hblk hsz
def Tryz.aqT:Go.Shelf.Ren:=⟨fun |20=>104|n=>n,fun |22=>24|3=>3|4=>4|0=>0|n=>n,fun |n=>n⟩
def Tryz.aqd:Go.Proofs.Lays2.n20 Tryz.prog Tryz.aqT:={
 mixed:=A8
 f20:=Tryz.func104.trans (BR some A8)
 t0:=Tryz.underlying0
 a0:=Tryz.isAgg0
 z0:=Tryz.sizeOf0
 v0:=Tryz.zeroValue0
 t3:=EH
 a3:=Zj
 z3:=dA
 v3:=aX
 t4:=PS
 a4:=gq
 z4:=jc
 v4:=iY
 t22:=YX
 a22:=Tryz.isAgg24
 z22:=Tryz.sizeOf24
 v22:=Tryz.zeroValue24
 i3:=by kernel_rfl }
open Go.RowKit Go.Lib Go.Sort in
def Tryz.slices_Compact_int (blk off cap:Nat) (zs:List Int) (w:World) (hH:Holds BO w blk off zs.toArray) (hsz:zs.length≤9223372036854775807) (hcap:zs.length≤cap):
 Calls Tryz.prog 104 #[.slice (some ⟨blk,off,none⟩) zs.length cap] w fun e w'=>e=.returned (.slice (some ⟨blk,off,none⟩) (Lib.compact zs).length cap)∧∃q,w'=putRow BO (Sort.ahead w q) blk off (Lib.compact zs++List.replicate (zs.length-(Lib.compact zs).length) 0).toArray:=Any.slices_Compact_int Tryz.aqd blk off cap zs w hH hsz hcap
open Go.RowKit Go.Lib Go.Sort in
def Tryz.slices_Compact_int_empty (a:Option Addr) (cap:Nat) (w:World):
 Calls Tryz.prog 104 #[.slice a 0 cap] w fun e w'=>e=.returned (.slice a 0 cap)∧w'=w:=Any.slices_Compact_int_empty Tryz.aqd a cap w
open Go.RowKit Go.Sort in
def Tryz.slices_Sort_int_none (p:Option Addr) (cap:Nat) (w:World):
 Calls Tryz.prog 103 #[.slice p 0 cap] w fun e w'=>e=.returned (.tuple #[])∧w'=w:=Any.slices_Sort_int_none Tryz.lays189 p cap w
end Go.Proofs
end
section
namespace Go.Proofs.YtolgdkhlelfpoaaGreat
open Go.RowKit
def dQ (x:Int):List Int→List Int
 | []=>[x]
 |y::l=>bif decide (x≤y)then x::y::l else y::dQ x l
def Rq (l:List Int):List Int:=l.foldr dQ []
def aLJ (x:Int):∀l,(dQ x l).Perm (x::l)
 | []=>.refl _
 |y::l=>by
  unfold dQ;cases h:decide (x≤y)with
  |true=>exact .refl _
  |false=>exact((aLJ x l).cons y).trans (.swap x y l)
def WB :∀l,(Rq l).Perm l
 | []=>.refl _
 |x::l=>(aLJ x (Rq l)).trans ((WB l).cons x)
def aST (x:Int):∀l,l.Pairwise (· ≤ ·)→(dQ x l).Pairwise (· ≤ ·)
 | [],_=>by simp[dQ]
 |y::l,h=>by
  have h':=PY.1 h;unfold dQ;cases m:decide (x≤y)with
  |true=>
   have j:x≤y:=TK m;refine PY.2 ⟨fun z f=>?_,h⟩;rcases F9.1 f with rfl|f
   ·exact j
   have :=h'.1 z f;omega
  |false=>
   have j:¬x≤y:=Jk m;refine PY.2 ⟨fun z f=>?_,aST x l h'.2⟩;rcases F9.1 ((aLJ x l).mem_iff.1 f)with rfl|f
   ·omega
   exact h'.1 z f
def aFE :∀l,(Rq l).Pairwise (· ≤ ·)
 | []=>.nil
 |x::l=>aST x _ (aFE l)
def aMe (l:List Int):Rq l=l.mergeSort fun x y=>decide (x≤y):=by
 have f:(l.mergeSort fun x y=>decide (x≤y)).Pairwise (· ≤ ·):=by
  have :=List.pairwise_mergeSort (le:=fun x y:Int=>decide (x≤y)) (by intro a b c;simp;omega) (by intro a b;simp;omega) l;exact this.imp (by intro a b h;simpa using h)
 exact((WB l).trans (List.mergeSort_perm l _).symm).eq_of_pairwise (fun a b _ _ h k=>AA) (aFE l) f
abbrev AP:=List Int
def PL (l:List Int):Option AP:=if l.length≤1099511627776 then some (Rq l)else none
def Vp (l:List Int):Option AP:=if l.length≤1099511627776 then some (Lib.compact l)else none
def qF.nil (w:World) (e size:Nat):qF w e size (.slice none 0 0) 0 []:=.of (aGc w 0 e size)
def ahV {w:World} {g cap n:Nat} {e:TypeId} {os:Array Obj} {f:Array Value} {h j:List Int} (m:j.length=h.length) (q:w.heap[g]? =some (.cells f e (0,0)))
 (s:h.length≤cap) (u:cap≤maxLen) (z:cap*1≤f.size):
 qF (Go.Sort.grow (Go.Sort.putRow BO (Go.Sort.ahead w n) g 0 j.toArray) os) e 1 (.slice (some ⟨g,0,none⟩) h.length cap) h.length (j.map BO):=
 ⟨by simp[m],.inr ⟨g,cap,_,rfl,Eh _,heap_sortedI _ q,s,u,by simpa[Go.Sort.putCells]using z,by rw[Zo,←m];exact take_putCellsI f j AA⟩⟩
def aqG {w:World} {e:TypeId} {g n cap q k:Nat} {s ys:List Int} (h:qF w e 1 (.slice (some ⟨g,0,none⟩) n cap) n (s.map BO)) (L:ys.length=n) (M:k≤n):
 qF (Go.Sort.putRow BO (Go.Sort.ahead w q) g 0 ys.toArray) e 1 (.slice (some ⟨g,0,none⟩) k cap) k ((ys.take k).map BO):=by
 rcases h.2 with⟨j,_⟩|⟨O,m,f,j,u,z,S,I,J,U⟩
 ·cases j
 injection j with e1 _ e3
 injection e1 with e1
 injection e1 with e1
 subst e1;subst e3;refine⟨E5,.inr ⟨g,cap,Go.Sort.putCells BO 0 ys.toArray f,rfl,u,?_,AA,I,by simpa[Go.Sort.putCells]using J,?_⟩⟩
 ·simp[Go.Sort.putRow,Go.Sort.mapBlock,Go.Sort.ahead,QJ,z,Go.Sort.onCells]
 have :=take_putCellsI f ys AA;rw[Zo,cD,←this,List.take_take,aO8 AA]
def aeD {l m:List Int} (h:l.Perm m):Rq l=Rq m:=by
 have f:∀(l:List Int),(Rq l).Pairwise (· ≤ ·):=aFE;exact((WB l).trans (h.trans (WB m).symm)).eq_of_pairwise (fun a b _ _ j n=>AA) (f l) (f m)
def aqv {l m:List Int} (h:l.Perm m):PL l=PL m:=by
 unfold PL;rw[h.length_eq,aeD h]
abbrev BA:=Ak Tryz.prog
def Sub (l r:List Int) (h:PL l=some r):BA 103 [.aO 0] [.arr 3 1 (List.map AY l)] (.gy []) [.arr 3 1 (List.map AY r)]:=by
 unfold PL at h;split at h
 ·rename_i O;obtain rfl:=Cx h;refine Ak.aCv fun v w j=>?_;rcases j.2 with⟨rfl,J⟩|⟨g,cap,L,rfl,m,q,s,u,z,f⟩
  ·have M:l=[]:=H9 J;subst M;refine(Tryz.slices_Sort_int_none _ _ _).mono ?_;rintro e w' ⟨rfl,h⟩;subst h;exact⟨rfl,qF.nil _ _ _,Turns.refl _ _⟩
  have I:(l.mergeSort fun x y=>decide (x≤y)).length=l.length:=List.length_mergeSort _;refine(Tryz.slices_Sort_int g 0 cap l w (holds_of_blockI q LJ) (Fv.1 q).1 AA).mono ?_;rintro e w' ⟨rfl,n,os,rfl⟩;rw[aMe];refine⟨rfl,?_,Turns.aAr (grownBy_sortedI _)⟩;rw[I];exact ahV (os:=os) (n:=n) I q s u z
 cases h
def aLg (l r:List Int) (h:Vp l=some r):BA 104 [.aO 0] [.arr 3 1 (List.map AY l)] (.aO 1) [.dead,.arr 3 1 (List.map AY r)]:=by
 unfold Vp at h;split at h
 ·rename_i U;obtain rfl:=Cx h;refine Ak.turned fun v w j=>?_;rcases j.2 with⟨rfl,I⟩|⟨g,cap,J,rfl,n,m,s,L,M,f⟩
  ·have O:l=[]:=H9 I;subst O;refine(Tryz.slices_Compact_int_empty _ _ _).mono ?_;rintro e w' ⟨rfl,h⟩;subst h;exact⟨_,rfl,qF.nil _ _ _,Turns.refl _ _,fun g m=>by simp[Dq]at m⟩
  refine(Tryz.slices_Compact_int g 0 cap l w (holds_of_blockI m LJ) AA s).mono ?_;rintro e w' ⟨rfl,q,rfl⟩;have u:=Lib.compact_length_le l;have S:(Lib.compact l++List.replicate (l.length-(Lib.compact l).length) 0).length=l.length:=E5
  refine⟨_,rfl,?_,?_,fun g m=>.inl m⟩
  ·have :=aqG (q:=q) j S u;rw[List.take_left' rfl]at this;exact this
  exact⟨rfl,rfl,rfl,by simp[Sort.putRow,Sort.mapBlock,Sort.ahead],fun k Y z=>by
   have :g≠k:=fun e=>z (by rw[e];rfl)
   simp[Sort.putRow,Sort.mapBlock,Sort.ahead,QJ,this]⟩
 cases h
def strings_IndexByte (s:ByteArray) (c:Int):Option Int:=some (Lib.indexByte s.data.toList c.toNat.toUInt8)
def asb (s:ByteArray) (c:Int) (r:Int) (h:strings_IndexByte s c=some r):BA 171 [.d (Cm s),.d (DC c)] [] (.d (AY r)) []:=by
 rw[←Cx h];exact Ak.plain (vs:=[.string s,.int .u8 c]) (v:=.int .i64 (Lib.indexByte s.data.toList c.toNat.toUInt8)) (fun _ _ _=>.d _ _ (.lit _)) fun w=>(Tryz.strings_IndexByte s c w).mono fun e w' ⟨f,j⟩=>⟨f,by rw[j];exact⟨rfl,rfl,rfl,EG _,fun _ _=>rfl⟩⟩
def aER (s t:ByteArray):Option Int:=match t.data.toList with
 | [c]=>some (Lib.indexByte s.data.toList c)
 |_=>none
def alM (s t:ByteArray) (r:Int) (h:aER s t=some r):BA 309 [.d (Cm s),.d (Cm t)] [] (.d (AY r)) []:=by
 unfold aER at h;split at h
 ·rename_i c f;rw[←Cx h];obtain⟨⟨l⟩⟩:=t;simp only at f;subst f;exact Ak.plain (vs:=[.string s,.string ⟨#[c]⟩]) (v:=.int .i64 (Lib.indexByte s.data.toList c)) (fun _ _ _=>.d _ _ (.lit _)) fun w=>(Tryz.stringslite_Index_one s c w).mono fun e w' ⟨j,m⟩=>⟨j,by rw[m];exact⟨rfl,rfl,rfl,EG _,fun _ _=>rfl⟩⟩
 cases h
structure dM (P:Program) (t:TypeId) (s:Nat) (z:Value):Prop where
 und:∃n e,P.underlying t=some (.array n e)∧∃i,P.info? e=some i∧i.size=s
 zero:(P.info? t).bind (·.zero)=some z
 one:z.cells.all (·.oneCell')=true
def aa4 (P:Program) (t:TypeId) (s:Nat):Bool:=
 match P.underlying t with
 |some (.array _ e)=>match P.info? e with
  |some i=>decide (i.size=s)
  |none=>false
 |_=>false
def aD3 {P:Program} {t:TypeId} {s:Nat} {z:Value} (h:aa4 P t s=true) (f:(P.info? t).bind (·.zero)=some z) (j:z.cells.all (·.oneCell')=true):dM P t s z:=by
 unfold aa4 at h;split at h
 ·rename_i n e m;split at h
  ·rename_i i hi;exact⟨⟨n,e,m,i,hi,TK h⟩,f,j⟩
  cases h
 cases h
section
variable {P : Program} {o : Oper} {es : List BN} {α : Type}
def agZ {t:TypeId} {f:Array (Nat×Operand)} {s:Nat} {z:Value} (Y:dM P t s z) (vs:List Ag) (Z:NI (fun i=>some (i*s,s)) (FP z).length f.toList vs=true)
 (hd:(Jz (fun i=>some (i*s,s)) (FP z) f.toList vs).all Ag.Ar=true) (ho:o.op=.build t f):
 Bl P o (NU f.toList vs) es (.d (.agg (J3 (Jz (fun i=>some (i*s,s)) (FP z) f.toList vs)))) es:=
 .pure fun ok H a w _ _ hn=>by
  obtain⟨⟨n,e,hu,i,hi,hs⟩,hz,h1⟩:=Y;have m:=aCa (P:=P) hz w;have q:(underlying t).run P w=.ok (.array n e) w:=by simp[underlying,hu]
  have u:(sizeOf e).run P w=.ok s w:=aPD
  obtain⟨j,hc,I⟩:=wI (place:=fun i=>some (i*s,s)) f.toList vs (FP z) z.cells (aMj (ok:=ok) (w:=w) (H:=H) h1) Z hn;refine⟨.agg j,?_,.d _ _ ?_⟩
  ·have e:(f.map fun(i,x)=>(i,a.eval x)).toList=f.toList.map fun p=>(p.1,a.eval p.2):=BP
   simp only[execOp,ho,Instr.build,FB,m,q,u,FK];rw[e,hc];rfl
  rw[abN hd]at I;generalize J3 (Jz (fun i=>some (i*s,s)) (FP z) f.toList vs)=xs at I ⊢;obtain⟨S,J⟩:=I;simp only[D8]at S J
  have U:∀i,i<xs.length→(xs.map Ag.d).getD i .junk=.d (xs.getD i Dn):=by
   intro i hi;simp[List.getD,hi]
  have L:j.size=xs.length:=ZF
  refine .agg xs j L ?_ ?_<;>intro i hi
  ·have :=(J i hi).1;rw[U i hi]at this;exact this
  have M:=(J i hi).2;rw[U i hi]at M;have O:i<j.size:=AA
  have e:j.toList.getD i undef=j.getD i undef:=by simp[List.getD,Array.getD,O]
  rw[e]at M;cases M with |d _ _ h=>exact h
def Md (enc:α→D) (l:List α):D:=.agg (l.map enc)
def aBI {x y:Operand} {t e:TypeId} {n:Nat} {k:IntKind} {i:Int} (enc:α→D) {l:List α} {a:α} (h:Aj l i=some a) (L:P.underlying t=some (.array n e)) (s:EF P e false 1) (hl:l.length=n) (M:o.op=.index t x y):
 Bl P o [(x,.d (Md enc l)),(y,.d (.lit (.int k i)))] es (.d (enc a)) es:=
 .pure fun ok H O w _ _ u=>by
  obtain⟨S,z⟩:=FT h;have j:=(El u).1;have I:=(El u).2.lit;simp only at j I;have m:=(FN.1 z).1;have U:(underlying t).run P w=.ok (.array n e) w:=by simp[underlying,L]
  generalize Y:O.eval x=v at j;cases j with
  |d _ _ j=>
   cases j with
   |agg _ vs q Z J=>
    rw[D8]at q Z J;have f:i.toNat<vs.size:=AA
    refine⟨vs[i.toNat],?_,?_⟩
    ·have hb:0≤i∧i<n:=⟨S,AA⟩
     simp only[execOp,M,Y,I,Instr.index,asIntOf,FB,G6,U,FK,hb,and_self,Jj,s.size w,part,s.agg w];simp[f]
    have :=J i.toNat m;simp only[Array.getD,f,dif_pos]at this;have e2:(l.map enc).getD i.toNat Dn=enc a:=by simp[List.getD,z]
    rw[e2]at this;exact .d _ _ this
def arV {x:Operand} {k off:Nat} (j:o.op=.nilCheck x):Bl P o [(x,.ptr k off)] es (.ptr k off) es:=
 .pure fun ok H a w _ _ m=>by
  have f:=Kt m;simp only at f;generalize n:a.eval x=u at f;cases f with
  |ptr _ _ b s h=>exact⟨_,by simp[execOp,j,n],.ptr _ _ b s h⟩
def aiQ {x:Operand} {k i off:Nat} (j:o.op=.nilCheck x):Bl P o [(x,.lQ k i off)] es (.lQ k i off) es:=
 .pure fun ok H a w _ _ m=>by
  have f:=Kt m;simp only at f;generalize q:a.eval x=u at f;cases f with
  |lQ _ _ _ b n cap s h=>exact⟨_,by simp[execOp,j,q],.lQ _ _ _ b n cap s h⟩
def arM {x:Operand} {cs:List D} {off:Nat} (m:o.op=.nilCheck x):Bl P o [(x,.d (.ref cs off))] es (.d (.ref cs off)) es:=
 .pure fun ok H a w _ _ n=>by
  have f:=Kt n;simp only at f;generalize q:a.eval x=u at f;cases f with
  |d _ _ h=>cases h with
   |ref _ _ b p j s z I=>exact⟨_,by simp[execOp,m,q],.d _ _ (.ref _ _ b p j s z I)⟩
def aTW (n:Nat):D:=.fn (.func n) [] []
end
def QB {α:Type} (p:α→Prop):List α→Prop
 | []=>True
 |x::l=>p x∧QB p l
def QB.mem {α:Type} {p:α→Prop}:∀{l:List α},QB p l→∀x∈l,p x
 | [],_,x,h=>Hr
 |y::l,f,x,h=>by
  rcases F9.1 h with rfl|h
  ·exact f.1
  exact f.2.mem x h
class Kn (P:Program) where
 und:List (Nat×TypeDesc)
 al0:QB (fun p:Nat×TypeDesc=>P.underlying p.1=some p.2) und
 ty:List (Nat×Bool×Nat)
 hty:QB (fun p:Nat×Bool×Nat=>EF P p.1 p.2.1 p.2.2) ty
 fld:List ((Nat×Nat)×Nat)
 hfld:QB (fun p:(Nat×Nat)×Nat=>Dk P p.1.1 p.1.2 p.2) fld
 part:List ((Nat×Nat)×Nat×Bool×Nat)
 hpart:QB (fun p:(Nat×Nat)×Nat×Bool×Nat=>kn P p.1.1 p.1.2 p.2.1 p.2.2.1 p.2.2.2=true) part
 zero:List (Nat×Value)
 hzero:QB (fun p:Nat×Value=>(P.info? p.1).bind (·.zero)=some p.2∧p.2.cells.all (·.oneCell')=true) zero
 st:List (Nat×List (Nat×Nat)×Value)
 hst:QB (fun p:Nat×List (Nat×Nat)×Value=>Iy P p.1 p.2.1 p.2.2) st
 arr:List (Nat×Nat×Value)
 harr:QB (fun p:Nat×Nat×Value=>dM P p.1 p.2.1 p.2.2) arr
def QH {β:Type} (t:Nat):List (Nat×β)→Option β
 | []=>none
 |(u,b)::l=>match Nat.beq t u with |true=>some b|false=>QH t l
def Nw {β:Type} {t:Nat} {b:β}:∀{l:List (Nat×β)},QH t l=some b→(t,b)∈l
 | [],h=>He
 |(u,c)::l,h=>by
  unfold QH at h;split at h
  ·rename_i e;cases h;rw[aJc e];exact Hy
  exact IY _ (Nw h)
def uj {β:Type} (t f:Nat):List ((Nat×Nat)×β)→Option β
 | []=>none
 |((u,g),b)::l=>match Nat.beq t u&&Nat.beq f g with |true=>some b|false=>uj t f l
def oW {β:Type} {t f:Nat} {b:β}:∀{l:List ((Nat×Nat)×β)},uj t f l=some b→((t,f),b)∈l
 | [],h=>He
 |((u,g),c)::l,h=>by
  unfold uj at h;split at h
  ·rename_i e;cases h;rw[DL]at e;rw[aJc e.1,aJc e.2];exact Hy
  exact IY _ (oW h)
structure Px where
 ns:List (Operand×Ag)
 x:Ag
 E:List BN
 bar:Bool
def aHU (op:BinOp) (k:IntKind) (a b:Int):Option Value:=
 match op with
 | .add=>some (.int k (k.wrap (a+b)))
 | .sub=>some (.int k (k.wrap (a-b)))
 | .mul=>some (.int k (k.wrap (a*b)))
 | .eql=>some (.bool (a==b))
 | .neq=>some (.bool (a != b))
 | .lss=>some (.bool (decide (a<b)))
 | .leq=>some (.bool (decide (a≤b)))
 | .gtr=>some (.bool (decide (a>b)))
 | .geq=>some (.bool (decide (a≥b)))
 |_=>none
def aot {op:BinOp} {k:IntKind} {a b:Int} {r:Value} {t:TypeId} {P:Program} (h:aHU op k a b=some r) (w:World):(binOp op t (.int k a) (.int k b)).run P w=.ok r w:=by
 unfold aHU at h;cases op<;>first|(cases h;done)|(cases h;simp[binOp,Op.intArith,Op.intCmp];done)|(cases h;cases k<;>rfl)
def aP2 (op:BinOp) (a b:ByteArray):Option Value:=
 match op with
 | .eql=>some (.bool (a.toList==b.toList))
 | .neq=>some (.bool (!(a.toList==b.toList)))
 | .lss=>some (.bool (Op.bytesLess a.toList b.toList))
 | .leq=>some (.bool (Op.bytesLess a.toList b.toList||a.toList==b.toList))
 | .gtr=>some (.bool (!(Op.bytesLess a.toList b.toList||a.toList==b.toList)))
 | .geq=>some (.bool (!Op.bytesLess a.toList b.toList))
 |_=>none
def aoK {op:BinOp} {a b:ByteArray} {r:Value} {t:TypeId} {P:Program} (h:aP2 op a b=some r) (w:World):(binOp op t (.string a) (.string b)).run P w=.ok r w:=by
 unfold aP2 at h;cases op<;>first|(cases h;done)|(cases h;rfl)
def Bl.aDT {P:Program} {o:Oper} {ns f:List (Operand×Ag)} {es es':List BN} {x:Ag} (h:Bl P o ns es x es') (j:∀n∈ns,n∈f∨n=(.const (.slice none 0 0),.d (.sl []))):Bl P o f es x es':=by
 intro C ok H a w Q q s;refine h C ok H a w Q q (fun n m=>?_);rcases j n m with u|rfl
 ·exact s n u
 exact .d _ _ (.sl0 none 0)
def aMc {P:Program} (K:Kn P) (σ:BI) (o:Oper):Option Px:=
 match o.op with
 | .move x=>match x with
   | .const (.slice none 0 0)=>some ⟨[],.d (.sl []),σ.ents,false⟩
   |x=>some ⟨[(x,σ.get x)],σ.get x,σ.ents,false⟩
 | .assign x=>match x with
   | .const (.slice none 0 0)=>some ⟨[],.d (.sl []),σ.ents,false⟩
   |x=>some ⟨[(x,σ.get x)],σ.get x,σ.ents,false⟩
 | .pick c x y=>match σ.get c with
   | .d (.lit (.bool true))=>some ⟨[(c,.d (.lit (.bool true))),(x,σ.get x)],σ.get x,σ.ents,false⟩
   | .d (.lit (.bool false))=>some ⟨[(c,.d (.lit (.bool false))),(y,σ.get y)],σ.get y,σ.ents,false⟩
   |_=>none
 | .binOp op t x y _=>match σ.get x,σ.get y with
   | .d (.lit (.int k a)),.d (.lit (.int k' b))=>if k=k' then(aHU op k a b).map fun r=>⟨[(x,.d (.lit (.int k a))),(y,.d (.lit (.int k b)))],.d (.lit r),σ.ents,false⟩else none
   | .d (.lit (.string a)),.d (.lit (.string b))=>(aP2 op a b).map fun r=>⟨[(x,.d (.lit (.string a))),(y,.d (.lit (.string b)))],.d (.lit r),σ.ents,false⟩
   | .d (.lit (.bool a)),.d (.lit (.bool b))=>match QH t K.und with
     |some .bool=>match op with
      | .eql=>some ⟨[(x,.d (D7 a)),(y,.d (D7 b))],.d (D7 (a==b)),σ.ents,false⟩
      | .neq=>some ⟨[(x,.d (D7 a)),(y,.d (D7 b))],.d (D7 (!(a==b))),σ.ents,false⟩
      |_=>none
     |_=>none
   |_,_=>none
 | .unOp op _ x=>match σ.get x with
   | .d (.lit (.bool b))=>match op with
     | .not=>some ⟨[(x,.d (.lit (.bool b)))],.d (.lit (.bool !b)),σ.ents,false⟩
     |_=>none
   | .d (.lit (.int k n))=>match op with
     | .neg=>some ⟨[(x,.d (.lit (.int k n)))],.d (.lit (.int k (k.wrap (0-n)))),σ.ents,false⟩
     |_=>none
   |_=>none
 | .convert s t x=>match QH s K.und,QH t K.und,σ.get x with
   |some (.int q),some (.int k),.d (.lit (.int I n))=>if q=I then some ⟨[(x,.d (.lit (.int q n)))],.d (.lit (.int k (k.wrap n))),σ.ents,false⟩else none
   |some .string,some .string,.d (.lit (.string u))=>some ⟨[(x,.d (Cm u))],.d (Cm u),σ.ents,false⟩
   |_,_,_=>none
 | .extract x i=>match σ.get x with
   | .gy xs=>match xs[i]? with
     |some v=>some ⟨[(x,.gy xs)],v,σ.ents,false⟩
     |none=>none
   |_=>none
 | .fieldAddr t x f=>match uj t f K.fld,σ.get x with
   |some off,.ptr k m=>some ⟨[(x,.ptr k m)],.ptr k (m+off),σ.ents,false⟩
   |some off,.lQ k i m=>some ⟨[(x,.lQ k i m)],.lQ k i (m+off),σ.ents,false⟩
   |some off,.d (.ref cs m)=>some ⟨[(x,.d (.ref cs m))],.d (.ref cs (m+off)),σ.ents,false⟩
   |_,_=>none
 | .nilCheck x=>match σ.get x with
   | .ptr k m=>some ⟨[(x,.ptr k m)],.ptr k m,σ.ents,false⟩
   | .lQ k i m=>some ⟨[(x,.lQ k i m)],.lQ k i m,σ.ents,false⟩
   | .d (.ref cs m)=>some ⟨[(x,.d (.ref cs m))],.d (.ref cs m),σ.ents,false⟩
   |_=>none
 | .field t x f=>match uj t f K.part,σ.get x with
   |some (off,agg,n),.d (.agg cs)=>if off+n≤cs.length∧(agg=false→n=1)then some ⟨[(x,.d (.agg cs))],.d (PN agg cs off n),σ.ents,false⟩else none
   |_,_=>none
 | .load t x=>match QH t K.ty,σ.get x with
   |some (agg,n),.d (.ref cs off)=>if off+n≤cs.length∧(agg=false→n=1)then some ⟨[(x,.d (.ref cs off))],.d (PN agg cs off n),σ.ents,false⟩else none
   |some (agg,n),.ptr k off=>match σ.ents[k]? with
    |some (.box cs)=>if(off+n≤cs.length∧(agg=false→n=1))∧cs.all Ag.Ar=true then some ⟨[(x,.ptr k off)],.d (PN agg (J3 cs) off n),σ.ents,false⟩else match agg,n,cs[off]? with
     |false,1,some v=>some ⟨[(x,.ptr k off)],v,σ.ents,false⟩
     |_,_,_=>none
    |_=>none
   |_,_=>none
 | .box _ x=>if(σ.get x).cells.all Ag.leaf=true then some ⟨[(x,σ.get x)],.ptr σ.ents.length 0,σ.ents++[.box (σ.get x).cells],true⟩else none
 | .alloc t=>match QH t K.zero with
   |some z=>some ⟨[],.ptr σ.ents.length 0,σ.ents++[.box (FP z)],true⟩
   |none=>none
 | .store t x y=>match QH t K.ty,σ.get x with
   |some (_,n),.ptr k off=>match σ.ents[k]? with
    |some (.box cs)=>match y with
     | .const (.slice none 0 0)=>if n=1∧off+1≤cs.length then some ⟨[(x,.ptr k off)],.junk,σ.ents.set k (.box (setAt cs off [.d (.sl [])])),true⟩else none
     |y=>if((σ.get y).cells.all Ag.leaf=true∧(σ.get y).cells.length=n)∧off+n≤cs.length then some ⟨[(x,.ptr k off),(y,σ.get y)],.junk,σ.ents.set k (.box (setAt cs off (σ.get y).cells)),true⟩else none
    |_=>none
   |_,_=>none
 | .build t h=>match QH t K.st with
   |some (j,z)=>
    if NI (fun(i:Nat)=>j[i]?) (FP z).length h.toList (h.toList.map fun p=>σ.get p.2)=true∧(Jz (fun(i:Nat)=>j[i]?) (FP z) h.toList (h.toList.map fun p=>σ.get p.2)).all Ag.Ar=true
    then some ⟨NU h.toList (h.toList.map fun p=>σ.get p.2),.d (.agg (J3 (Jz (fun(i:Nat)=>j[i]?) (FP z) h.toList (h.toList.map fun p=>σ.get p.2)))),σ.ents,false⟩
    else none
   |none=>match QH t K.arr with
    |some (s,z)=>
     if NI (fun i=>some (i*s,s)) (FP z).length h.toList (h.toList.map fun p=>σ.get p.2)=true∧(Jz (fun i=>some (i*s,s)) (FP z) h.toList (h.toList.map fun p=>σ.get p.2)).all Ag.Ar=true
     then some ⟨NU h.toList (h.toList.map fun p=>σ.get p.2),.d (.agg (J3 (Jz (fun i=>some (i*s,s)) (FP z) h.toList (h.toList.map fun p=>σ.get p.2)))),σ.ents,false⟩
     else none
    |none=>none
 | .call c=>match c.callee,c.args.toList,c.argTypes.toList with
   | .builtin .len,[x],[t]=>match QH t K.und,σ.get x with
     |some .string,.d (.lit (.string s))=>some ⟨[(x,.d (Cm s))],.d (AY s.size),σ.ents,false⟩
     |_,_=>none
   |_,_,_=>none
 |_=>none
def aKw (σ:BI):∀(l:List (Nat×Operand)),needs σ (NU l (l.map fun p=>σ.get p.2))
 | []=>trivial
 |(_,x)::l=>⟨rfl,aKw σ l⟩
def apH {P:Program} (K:Kn P) {σ:BI} {o:Oper} {r:Px} (h:aMc K σ o=some r):Bl P o r.ns σ.ents r.x r.E∧needs σ r.ns∧(r.bar=false→r.E=σ.ents):=by
 unfold aMc at h;split at h
 ·rename_i x j;split at h
  ·cases h;exact⟨agQ j,trivial,fun _=>rfl⟩
  cases h;exact⟨ajG j,⟨rfl,trivial⟩,fun _=>rfl⟩
 ·rename_i x j;split at h
  ·cases h;exact⟨aiR j,trivial,fun _=>rfl⟩
  cases h;exact⟨aee j,⟨rfl,trivial⟩,fun _=>rfl⟩
 ·rename_i c x y j;split at h
  ·rename_i e;cases h;exact⟨akr true rfl j,⟨e,rfl,trivial⟩,fun _=>rfl⟩
  ·rename_i e;cases h;exact⟨alI false rfl j,⟨e,rfl,trivial⟩,fun _=>rfl⟩
  cases h
 ·rename_i op t x y t' j;split at h
  ·rename_i k a k' b O S;split at h
   ·rename_i I;subst I;rw[UU]at h;obtain⟨v,L,rfl⟩:=h;exact⟨Gv j (aot L) ⟨rfl,rfl⟩,⟨O,S,trivial⟩,fun _=>rfl⟩
   cases h
  ·rename_i a b O S;rw[UU]at h;obtain⟨v,L,rfl⟩:=h;exact⟨Gv j (aoK L) ⟨rfl,rfl⟩,⟨O,S,trivial⟩,fun _=>rfl⟩
  ·rename_i a b O S;split at h
   ·rename_i U;have U:=K.al0.mem _ (Nw U);split at h
    ·cases h;exact⟨aqm U j,⟨O,S,trivial⟩,fun _=>rfl⟩
    ·cases h;exact⟨af2 U j,⟨O,S,trivial⟩,fun _=>rfl⟩
    cases h
   cases h
  cases h
 ·rename_i op t x j;split at h
  ·rename_i b e;split at h
   ·cases h;exact⟨aMK j (fun _=>rfl),⟨e,trivial⟩,fun _=>rfl⟩
   cases h
  ·rename_i k n e;split at h
   ·cases h;exact⟨aMK j (fun _=>rfl),⟨e,trivial⟩,fun _=>rfl⟩
   cases h
  cases h
 ·rename_i s t x j;split at h
  ·rename_i k0 k k1 n q Z e;split at h
   ·rename_i I;subst I;cases h;exact⟨agR (K.al0.mem _ (Nw q)) (K.al0.mem _ (Nw Z)) j,⟨e,trivial⟩,fun _=>rfl⟩
   cases h
  ·rename_i u q Z e;cases h;exact⟨atX (K.al0.mem _ (Nw q)) (K.al0.mem _ (Nw Z)) j,⟨e,trivial⟩,fun _=>rfl⟩
  cases h
 ·rename_i x i j;split at h
  ·rename_i xs e;split at h
   ·rename_i v L;cases h;exact⟨arD j L,⟨e,trivial⟩,fun _=>rfl⟩
   cases h
  cases h
 ·rename_i t x f j;split at h
  ·rename_i off k o' q e;cases h;exact⟨akY (K.hfld.mem _ (oW q)) j,⟨e,trivial⟩,fun _=>rfl⟩
  ·rename_i off k i o' q e;cases h;exact⟨aoz (K.hfld.mem _ (oW q)) j,⟨e,trivial⟩,fun _=>rfl⟩
  ·rename_i off cs o' q e;cases h;exact⟨ana (K.hfld.mem _ (oW q)) j,⟨e,trivial⟩,fun _=>rfl⟩
  cases h
 ·rename_i x j;split at h
  ·rename_i e;cases h;exact⟨arV j,⟨e,trivial⟩,fun _=>rfl⟩
  ·rename_i e;cases h;exact⟨aiQ j,⟨e,trivial⟩,fun _=>rfl⟩
  ·rename_i e;cases h;exact⟨arM j,⟨e,trivial⟩,fun _=>rfl⟩
  cases h
 ·rename_i t x f j;split at h
  ·rename_i off agg n cs q e;split at h
   ·rename_i m;cases h;exact⟨agY rfl (K.hpart.mem _ (oW q)) m.1 m.2 j,⟨e,trivial⟩,fun _=>rfl⟩
   cases h
  cases h
 ·rename_i t x j;split at h
  ·rename_i agg n cs off q e;split at h
   ·rename_i m;cases h;exact⟨am6 rfl (K.hty.mem _ (Nw q)) m.1 m.2 j,⟨e,trivial⟩,fun _=>rfl⟩
   cases h
  ·rename_i agg n k off q e;split at h
   ·rename_i cs I;split at h
    ·rename_i m;cases h;exact⟨afn rfl I m.2 (K.hty.mem _ (Nw q)) m.1.1 m.1.2 j,⟨e,trivial⟩,fun _=>rfl⟩
    split at h
    ·rename_i v L _;cases h;exact⟨aVc I L (K.hty.mem _ (Nw q)) j,⟨e,trivial⟩,fun _=>rfl⟩
    cases h
   cases h
  cases h
 ·rename_i t x j;split at h
  ·rename_i m;cases h;exact⟨aix m j,⟨rfl,trivial⟩,fun M=>by cases M⟩
  cases h
 ·rename_i t j;split at h
  ·rename_i z hz;cases h;exact⟨aoC (K.hzero.mem _ (Nw hz)).1 (K.hzero.mem _ (Nw hz)).2 j,trivial,fun M=>by cases M⟩
  cases h
 ·rename_i t x y j;split at h
  ·rename_i agg n k off q e;split at h
   ·rename_i cs I;split at h
    ·split at h
     ·rename_i m;cases h;refine⟨Bl.aDT (aPM (v:=.d (.sl [])) I rfl (by have h9:=(K.hty.mem _ (Nw q)).size;rw[m.1]at h9;exact h9) rfl m.2 j) (fun n hn=>?_),⟨e,trivial⟩,fun M=>by cases M⟩;simp only[F9,G7,nC]at hn;rcases hn with rfl|rfl
      ·exact .inl BP
      exact .inr rfl
     cases h
    split at h
    ·rename_i m;cases h;exact⟨aPM I m.1.1 (K.hty.mem _ (Nw q)).size m.1.2 m.2 j,⟨e,rfl,trivial⟩,fun M=>by cases M⟩
    cases h
   cases h
  cases h
 ·rename_i t parts j;split at h
  ·rename_i Y z hs;split at h
   ·rename_i m;cases h;exact⟨aeK (K.hst.mem _ (Nw hs)) _ j rfl m.1 m.2,aKw σ _,fun _=>rfl⟩
   cases h
  split at h
  ·rename_i s z hs;split at h
   ·rename_i m;cases h;exact⟨agZ (K.harr.mem _ (Nw hs)) _ m.1 m.2 j,aKw σ _,fun _=>rfl⟩
   cases h
  cases h
 ·rename_i c j;split at h
  ·rename_i x t J ha ht
   have j:o.op=.call { callee:=.builtin .len,args:= #[x],argTypes:= #[t] }:=by
    obtain⟨cal,aGI,ts⟩:=c;simp only at J ha ht;rw[j,J,show aGI= #[x]from by rw[←eM (xs:=aGI),ha],show ts= #[t]from by rw[←eM (xs:=ts),ht]]
   split at h
   ·rename_i s q e;cases h;exact⟨alW s (K.al0.mem _ (Nw q)) j,⟨e,trivial⟩,fun _=>rfl⟩
   cases h
  cases h
 cases h
def KP (ops:Array Oper) (σ:BI):Option (Nat×Bool)→Option Bool
 |none=>some true
 |some (j,f)=>match(ops[j]?).bind (·.dst)with
  |some d=>match σ.slots.getD d .junk with
   | .d (.lit (.bool b))=>some (b==f)
   | .d (.lit (.tuple a))=>match a.toList with
     | []=>some false
     |_=>none
   |_=>none
  |none=>none
def MZ {ops:Array Oper} {σ:BI} {g:Option (Nat×Bool)} (h:KP ops σ g=some true):X3 ops σ g:=by
 unfold KP at h;split at h
 ·exact .inl rfl
 rename_i j f;split at h
 ·rename_i d hd;split at h
  ·rename_i b m;refine .inr ⟨j,f,d,b,rfl,hd,m,?_⟩;simpa using h
  ·split at h<;>cases h
  cases h
 cases h
def aeR {ops:Array Oper} {σ:BI} {g:Option (Nat×Bool)} (h:KP ops σ g=some false):X8 ops σ g:=by
 unfold KP at h;split at h
 ·cases h
 rename_i j f;split at h
 ·rename_i d hd;split at h
  ·rename_i b m;refine anh j f d b rfl hd m ?_;have :(b==f)=false:=Cx h;cases b<;>cases f<;>first|rfl|cases this
  ·rename_i a m;split at h
   ·rename_i ha;have ha:a= #[]:=by rw[←eM (xs:=a),ha]
    subst ha;exact apM j f d rfl hd m
   cases h
  cases h
 cases h
def WJ {P:Program} (K:Kn P) (ops:Array Oper) (σ:BI) (o:Oper):Option Px:=
 match KP ops σ o.guard with
 |some true=>match aMc K σ o with
  |some r=>if(Nc r.ns).all (tmpsOf o).contains=true then some r else none
  |none=>none
 |some false=>some ⟨[],.d (.lit undef),σ.ents,false⟩
 |none=>none
def YN {P:Program} (K:Kn P) {ops:Array Oper} {σ:BI} {o:Oper} {r:Px} (h:WJ K ops σ o=some r):Qq P ops σ r.x r.E r.bar o:=by
 unfold WJ at h;split at h
 ·rename_i f;split at h
  ·rename_i u j;split at h
   ·rename_i m;cases h;obtain⟨n,q,s⟩:=apH K j;exact⟨.inl ⟨_,n,q,m,MZ f⟩,s⟩
   cases h
  cases h
 ·rename_i f;cases h;exact⟨.inr ⟨rfl,rfl,aeR f⟩,fun _=>rfl⟩
 cases h
def Ho {P:Program} (K:Kn P) (ops:Array Oper):Nat→List Oper→BI→Option (BI×List Px)
 |0,_,σ=>some (σ,[])
 |n+1,l,σ=>match l with
  |o::l=>match WJ K ops σ o with
   |some r=>match Ho K ops n l (σ.put o.dst r.x r.E)with
    |some (σ',rs)=>some (σ',r::rs)
    |none=>none
   |none=>none
  | []=>none
def Qn :Option (BI×List Px)→BI
 |some (σ,_)=>σ
 |none=>⟨[],[],0⟩
def dP :Option (BI×List Px)→List Px
 |some (_,rs)=>rs
 |none=>[]
def Chain.auto {P:Program} (K:Kn P) {ops:Array Oper}:∀(n:Nat) {l:List Oper} {σ σ':BI},(Ho K ops n l σ).isSome=true→Chain P ops (l.drop n) (Qn (Ho K ops n l σ)) σ'→Chain P ops l σ σ'
 |0,l,σ,σ',_,k=>by simpa[Ho,Qn]using k
 |n+1,l,σ,σ',h,k=>by
  unfold Ho at h k;split at h
  ·rename_i o m;split at h
   ·rename_i r j;split at h
    ·rename_i q rs f;simp only[j,f]at k;refine .afD o.dst (YN K j) rfl (Chain.auto K n JF ?_);rw[f];exact k
    cases h
   cases h
  cases h
def FH.auto {P:Program} (K:Kn P) {ops:Array Oper}:∀(n:Nat) {l:List Oper} {σ σ':BI} {rs:List Ag} {ess:List (List BN)} {bs:List Bool},(Ho K ops n l σ).isSome=true→FH P ops (l.drop n) (Qn (Ho K ops n l σ)) rs ess bs σ'→
 FH P ops l σ ((dP (Ho K ops n l σ)).map Px.x++rs) ((dP (Ho K ops n l σ)).map Px.E++ess) ((dP (Ho K ops n l σ)).map Px.bar++bs) σ'
 |0,l,σ,σ',rs,ess,bs,_,k=>by simpa[Ho,Qn,dP]using k
 |n+1,l,σ,σ',rs,ess,bs,h,k=>by
  unfold Ho at h k ⊢;split at h
  ·rename_i o m;split at h
   ·rename_i r j;split at h
    ·rename_i s q f;simp only[j,f]at k ⊢;refine .afD o.dst (YN K j) rfl ?_;have :=FH.auto K n (l:=m) (σ:=σ.put o.dst r.x r.E) (σ':=σ') (rs:=rs) (ess:=ess) (bs:=bs) JF (by rw[f];exact k);rw[f]at this;exact this
    cases h
   cases h
  cases h
def Chain.a {P:Program} [T:Kn P] {ops:Array Oper} {l:List Oper} {σ σ':BI} (n:Nat) (k:Chain P ops (l.drop n) (Qn (Ho T ops n l σ)) σ') (h:(Ho T ops n l σ).isSome=true:=by kernel_rfl):Chain P ops l σ σ':=Chain.auto T n h k
def FH.a {P:Program} [T:Kn P] {ops:Array Oper} {l:List Oper} {σ σ':BI} {rs:List Ag} {ess:List (List BN)} {bs:List Bool} (n:Nat) (k:FH P ops (l.drop n) (Qn (Ho T ops n l σ)) rs ess bs σ') (h:(Ho T ops n l σ).isSome=true:=by kernel_rfl):
 FH P ops l σ ((dP (Ho T ops n l σ)).map Px.x++rs) ((dP (Ho T ops n l σ)).map Px.E++ess) ((dP (Ho T ops n l σ)).map Px.bar++bs) σ':=FH.auto T n h k
def Chain.c {P:Program} [T:Kn P] {ops:Array Oper} {o:Oper} {rest:List Oper} {σ σ':BI} {e c:Bool} (h:some e=some c) (k:Chain P ops rest (σ.sF o.dst (.d (.lit (.bool c)))) σ') (j:(WJ T ops σ o).map (fun r=>(r.x,r.E,r.bar))=some (.d (.lit (.bool e)),σ.ents,false):=by kernel_rfl):Chain P ops (o::rest) σ σ':=by
 rw[UU]at j;obtain⟨r,n,f⟩:=j;have m:=YN T n;simp only[Rs]at f;rw[f.1,f.2.1,f.2.2,Cx h]at m;exact .afD o.dst m rfl k
def FH.c {P:Program} [T:Kn P] {ops:Array Oper} {o:Oper} {rest:List Oper} {σ σ':BI} {rs:List Ag} {ess:List (List BN)} {bs:List Bool} {e c:Bool} (h:some e=some c) (k:FH P ops rest (σ.sF o.dst (.d (.lit (.bool c)))) rs ess bs σ') (j:(WJ T ops σ o).map (fun r=>(r.x,r.E,r.bar))=some (.d (.lit (.bool e)),σ.ents,false):=by kernel_rfl):
 FH P ops (o::rest) σ (.d (.lit (.bool c))::rs) (σ.ents::ess) (false::bs) σ':=by
 rw[UU]at j;obtain⟨r,n,f⟩:=j;have m:=YN T n;simp only[Rs]at f;rw[f.1,f.2.1,f.2.2,Cx h]at m;exact .afD o.dst m rfl k
def abU (σ:BI) (ns:List (Operand×Ag)):Prop:=(ns.map fun n=>σ.get n.1)=ns.map (·.2)
def Uu {σ:BI}:∀{ns:List (Operand×Ag)},abU σ ns→needs σ ns
 | [],_=>trivial
 |n::ns,h=>by
  simp only[abU,Ld,aLc]at h;exact⟨h.1,Uu h.2⟩
def Chain.p {P:Program} {ops:Array Oper} {o:Oper} {rest:List Oper} {σ σ':BI} {ns:List (Operand×Ag)} {x:Ag} (h:Bl P o ns σ.ents x σ.ents) (k:Chain P ops rest (σ.sF o.dst x) σ') (f:(ns.map fun n=>σ.get n.1)=ns.map (·.2):=by kernel_rfl) (j:KP ops σ o.guard=some true:=by kernel_rfl):Chain P ops (o::rest) σ σ':=
 .op o.dst h (Uu f) (MZ j) rfl k
def FH.p {P:Program} {ops:Array Oper} {o:Oper} {rest:List Oper} {σ σ':BI} {ns:List (Operand×Ag)} {x:Ag} {rs:List Ag} {ess:List (List BN)} {bs:List Bool} (h:Bl P o ns σ.ents x σ.ents) (k:FH P ops rest (σ.sF o.dst x) rs ess bs σ') (f:(ns.map fun n=>σ.get n.1)=ns.map (·.2):=by kernel_rfl) (j:KP ops σ o.guard=some true:=by kernel_rfl)
 (m:(Nc ns).all (tmpsOf o).contains=true:=by kernel_rfl):FH P ops (o::rest) σ (x::rs) (σ.ents::ess) (false::bs) σ':=
 .op o.dst h (Uu f) (MZ j) rfl m k
def Chain.e {P:Program} {ops:Array Oper} {o:Oper} {rest:List Oper} {σ σ':BI} {ns:List (Operand×Ag)} {x:Ag} {es':List BN} (E:List BN) (h:Bl P o ns σ.ents x es') (k:Chain P ops rest (σ.put o.dst x E) σ') (f:es'=E:=by kernel_rfl) (j:(ns.map fun n=>σ.get n.1)=ns.map (·.2):=by kernel_rfl) (m:KP ops σ o.guard=some true:=by kernel_rfl):Chain P ops (o::rest) σ σ':=
 .oe o.dst E h f (Uu j) (MZ m) rfl k
def FH.e {P:Program} {ops:Array Oper} {o:Oper} {rest:List Oper} {σ σ':BI} {ns:List (Operand×Ag)} {x:Ag} {es':List BN} {rs:List Ag} {ess:List (List BN)} {bs:List Bool} (E:List BN) (h:Bl P o ns σ.ents x es') (k:FH P ops rest (σ.put o.dst x E) rs ess bs σ') (f:es'=E:=by kernel_rfl) (j:(ns.map fun n=>σ.get n.1)=ns.map (·.2):=by kernel_rfl) (m:KP ops σ o.guard=some true:=by kernel_rfl)
 (q:(Nc ns).all (tmpsOf o).contains=true:=by kernel_rfl):FH P ops (o::rest) σ (x::rs) (E::ess) (true::bs) σ':=
 .oe o.dst E h f (Uu j) (MZ m) rfl q k
def U4 (σ:BI) (o:Oper):Option (FuncId×List Ag):=
 match o.op with
 | .call c=>match c.callee with
   | .value (.func f)=>some (f,c.args.toList.map σ.get)
   |_=>none
 |_=>none
def acU {srcs:List Dy}:∀{l:List Ag},l.all Ag.Ar=true→NH srcs l l
 | [],_=>trivial
 |x::l,h=>by
  simp only[List.all_cons,DL]at h;refine⟨?_,acU h.2⟩;cases x with
  |d x=>exact .inl rfl
  |_=>cases h.1
def aUa (σ:BI):∀(l:List Operand),needs σ (F8 l (l.map σ.get))
 | []=>trivial
 |_::l=>⟨rfl,aUa σ l⟩
def aE9 {P:Program} {σ:BI} {o:Oper} {f:FuncId} {eU:List Ag} {q:Ag} (J:Ak P f eU [] q []) (L:Dw P f=true) (m:U4 σ o=some (f,eU)) (hd:eU.all Ag.Ar=true):∃ns,Bl P o ns σ.ents (q.up [] σ.ents.length) σ.ents∧needs σ ns∧(Nc ns).all (tmpsOf o).contains=true:=by
 unfold U4 at m;split at m
 ·rename_i c I;split at m
  ·rename_i S j;cases m;obtain⟨callee,args,ats⟩:=c;simp only at j;subst j;refine⟨_,abd J L (acU hd) BP rfl I,aUa σ _,?_⟩;rw[EZ];intro t u;unfold Nc at u;rw[Ti]at u;obtain⟨n,M,z⟩:=u
   have s:n.1∈args.toList:=by
    have :∀(l:List Operand) (vs:List Ag),n∈F8 l vs→n.1∈l:=by
     intro l
     induction l with
     |nil=>intro vs h;cases vs<;>simp[F8]at h
     |cons x l O=>
      intro vs h;cases vs with
      |nil=>simp[F8]at h
      |cons v vs=>
       simp only[F8,F9]at h;rcases h with rfl|h
       ·exact Hy
       exact IY _ (O vs h)
    exact this _ _ M
   unfold tmpsOf;simp only[List.contains_iff_mem,Ti];refine⟨n.1,?_,z⟩;rw[I];show n.1∈(#[Operand.func f]++args).toList;simp[s]
  cases m
 cases m
def Chain.call {P:Program} {ops:Array Oper} {o:Oper} {rest:List Oper} {σ σ':BI} {f:FuncId} {eU:List Ag} {h:Ag} (j:Ak P f eU [] h []) (m:Dw P f=true) (k:Chain P ops rest (σ.sF o.dst (h.up [] σ.ents.length)) σ') (n:U4 σ o=some (f,eU):=by kernel_rfl)
 (hd:eU.all Ag.Ar=true:=by kernel_rfl) (q:KP ops σ o.guard=some true:=by kernel_rfl):Chain P ops (o::rest) σ σ':=by
 obtain⟨ns,s,u,_⟩:=aE9 j m n hd;exact .op o.dst s u (MZ q) rfl k
def FH.call {P:Program} {ops:Array Oper} {o:Oper} {rest:List Oper} {σ σ':BI} {f:FuncId} {eU:List Ag} {h:Ag} {rs:List Ag} {ess:List (List BN)} {bs:List Bool} (j:Ak P f eU [] h []) (m:Dw P f=true) (k:FH P ops rest (σ.sF o.dst (h.up [] σ.ents.length)) rs ess bs σ') (n:U4 σ o=some (f,eU):=by kernel_rfl)
 (hd:eU.all Ag.Ar=true:=by kernel_rfl) (q:KP ops σ o.guard=some true:=by kernel_rfl):FH P ops (o::rest) σ (h.up [] σ.ents.length::rs) (σ.ents::ess) (false::bs) σ':=by
 obtain⟨ns,s,u,z⟩:=aE9 j m n hd;exact .op o.dst s u (MZ q) rfl z k
def qj (v:Value):Exit:=.panic [{ v,recovered:=false }]
structure DX (P:Program) (ops:Array Oper) (l:List Oper) (σ:BI) (K:Exit→BI→Prop):Prop where
 run:∀(ro:Option Nat) (l2:List Oper) (Q:Exit→Act→World→Prop) (C:EW) (ok:Nat→Prop) (H:List Bj) (a:Act) (w:World),Holds C ok H σ a w→
  ((∀σ' ok' H' a' w',K .normal σ'→Holds C ok' H' σ' a' w'→wpListIn (J6 ro) 0 P ops Q l2 a' w')∧(∀v σ' ok' H' a' w',K (qj v) σ'→Holds C ok' H' σ' a' w'→Q (qj v) a' w'))→wpListIn (J6 ro) 0 P ops Q (l++l2) a w
section
variable {P : Program} {ops : Array Oper} {o : Oper} {rest l : List Oper} {σ : BI} {K : Exit → BI → Prop}
def DX.nil (h:K .normal σ):DX P ops [] σ K:=⟨fun _ _ _ _ _ _ _ _ f j=>j.1 _ _ _ _ _ h f⟩
def DX.aV {M:BI→Prop} (h:M σ):DX P ops [] σ (L6 M K):=.nil h
def DX.step {x:Ag} {E:List BN} {bar:Bool} (z:Qq P ops σ x E bar o) (k:DX P ops rest (σ.put o.dst x E) K):DX P ops (o::rest) σ K:=by
 refine⟨fun ro h Q C ok H a w f u=>?_⟩;show wpListIn (J6 ro) 0 P ops Q (o::(rest++h)) a w;unfold wpListIn;rcases z.1 with⟨ns,I,J,_,j⟩|⟨rfl,rfl,j⟩
 ·rw[D9 (Pv f j)];refine Qa ?_ (I.inR ro C ok H a w Q f.mem (fun n m=>PG J n m▸f.get n.1));rintro a' w' ⟨v,ok',H',rfl,q,s,L,M⟩;exact k.run ro h Q C _ _ _ _ (f.put o.dst q s L M) u
 rw[DN (by rw[aNK f j];simp)];exact⟨fun _ _=>trivial,k.run ro h Q C _ _ _ _ (f.put o.dst (.refl _ _) (.refl _) f.mem (.d _ _ (.lit _))) u⟩
def DX.conv (j:BI) (h:∀C ok H a w,Holds C ok H σ a w→∃ok',Holds C ok' H j a w) (k:DX P ops l j K):DX P ops l σ K:=⟨fun ro m Q C ok H a w n q=>by
 obtain⟨ok',f⟩:=h C ok H a w n
 exact k.run ro m Q C _ _ _ _ f q⟩
def DX.auto (T:Kn P):∀(n:Nat) {l:List Oper} {σ:BI},(Ho T ops n l σ).isSome=true→DX P ops (l.drop n) (Qn (Ho T ops n l σ)) K→DX P ops l σ K
 |0,l,σ,_,k=>by simpa[Ho,Qn]using k
 |n+1,l,σ,h,k=>by
  unfold Ho at h k;split at h
  ·rename_i o m;split at h
   ·rename_i r j;split at h
    ·rename_i q rs f;simp only[j,f]at k;refine .step (YN T j) (DX.auto T n JF ?_);rw[f];exact k
    cases h
   cases h
  cases h
def DX.a [T:Kn P] (n:Nat) (k:DX P ops (l.drop n) (Qn (Ho T ops n l σ)) K) (h:(Ho T ops n l σ).isSome=true:=by kernel_rfl):DX P ops l σ K:=DX.auto T n h k
def DX.p {ns:List (Operand×Ag)} {x:Ag} (h:Bl P o ns σ.ents x σ.ents) (k:DX P ops rest (σ.sF o.dst x) K) (f:(ns.map fun n=>σ.get n.1)=ns.map (·.2):=by kernel_rfl) (j:KP ops σ o.guard=some true:=by kernel_rfl) (m:(Nc ns).all (tmpsOf o).contains=true:=by kernel_rfl):DX P ops (o::rest) σ K:=
 .step (abL h (Uu f) (MZ j) m) k
def DX.e {ns:List (Operand×Ag)} {x:Ag} {es':List BN} (E:List BN) (h:Bl P o ns σ.ents x es') (k:DX P ops rest (σ.put o.dst x E) K) (f:es'=E:=by kernel_rfl) (j:(ns.map fun n=>σ.get n.1)=ns.map (·.2):=by kernel_rfl) (m:KP ops σ o.guard=some true:=by kernel_rfl) (q:(Nc ns).all (tmpsOf o).contains=true:=by kernel_rfl):DX P ops (o::rest) σ K:=
 .step (bar:=true) ⟨.inl ⟨ns,f▸h,Uu j,q,MZ m⟩,fun h=>He⟩ k
def DX.call {f:FuncId} {eU:List Ag} {h:Ag} (j:Ak P f eU [] h []) (m:Dw P f=true) (k:DX P ops rest (σ.sF o.dst (h.up [] σ.ents.length)) K) (n:U4 σ o=some (f,eU):=by kernel_rfl)
 (hd:eU.all Ag.Ar=true:=by kernel_rfl) (q:KP ops σ o.guard=some true:=by kernel_rfl):DX P ops (o::rest) σ K:=by
 obtain⟨ns,s,u,z⟩:=aE9 j m n hd;exact .step (abL s u (MZ q) z) k
def DX.c [T:Kn P] {e c:Bool} (h:some e=some c) (k:DX P ops rest (σ.sF o.dst (.d (.lit (.bool c)))) K) (j:(WJ T ops σ o).map (fun r=>(r.x,r.E,r.bar))=some (.d (.lit (.bool e)),σ.ents,false):=by kernel_rfl):DX P ops (o::rest) σ K:=by
 rw[UU]at j;obtain⟨r,n,f⟩:=j;have m:=YN T n;simp only[Rs]at f;rw[f.1,f.2.1,f.2.2,Cx h]at m;exact .step m k
def BI.wipe (f:List Nat) (σ:BI):BI:=⟨f.foldl (fun l d=>l.set d .junk) σ.slots,σ.ents,σ.base⟩
def Holds.wipe {C:EW} {ok:Nat→Prop} {H:List Bj} {a:Act} {w:World}:∀(f:List Nat) {σ:BI},Holds C ok H σ a w→Holds C ok H (σ.wipe f) a w
 | [],σ,h=>h
 |d::f,σ,h=>by
  refine Holds.wipe f (σ:=⟨σ.slots.set d .junk,σ.ents,σ.base⟩) ⟨h.mem,by simpa using h.size,h.defers,h.base,fun t j=>?_⟩;simp only[kH]at j;by_cases e:d=t
  ·subst e;have m:(σ.slots.set d .junk).getD d .junk=.junk:=o7
   rw[m];exact .junk _
  have m:(σ.slots.set d .junk).getD t .junk=σ.slots.getD t .junk:=aKO
  rw[m];exact h.slot t j
def aps (n:Nat) (l f:List Oper):l++f=l.take n++(l.drop n++f):=by
 rw[←J7,dG]
def DX.join (n:Nat) (M:BI→Prop) (m:∀s,M s→DX P ops (l.drop n) s K) (q:DX P ops (l.take n) σ (L6 M K)):DX P ops l σ K:=⟨fun ro h Q C ok H a w u j=>by
 rw[aps n l h]
 exact q.run ro _ Q C ok H a w u ⟨fun σ' ok' H' a' w' z f=>(m σ' z).run ro h Q C ok' H' a' w' f j,j.2⟩⟩
def DX.merge (n:Nat) (f:List Nat) (d:Nat) (x:Ag) (j:DX P ops (l.take n) σ (L6 (fun s=>s.wipe f=(σ.wipe f).sF (some d) x) K)) (m:DX P ops (l.drop n) ((σ.wipe f).sF (some d) x) K):DX P ops l σ K:=
 .join n _ (fun s q=>⟨fun ro u Q C ok H a w z I=>by
  have e:s.wipe f=(σ.wipe f).sF (some d) x:=q;have h:=z.wipe f;rw[e]at h
  exact m.run ro u Q C ok H a w h I⟩) j
def Au {id:Nat} {Q:Exit→BI→Prop} (h:DX P ops ops.toList σ Q):AB P (.region id ops false) σ Q:=⟨fun ro _ C ok H a w m=>by
 refine aK9 ?_;have :=h.run ro [] (fun e a' w'=>∃ok' H' σ',Holds C ok' H' σ' a' w'∧Q e σ') C ok H a w m ⟨fun σ' ok' H' a' w' j f=>⟨ok',H',σ',f,j⟩,fun v σ' ok' H' a' w' j f=>⟨ok',H',σ',f,j⟩⟩
 rwa [RZ]at this⟩
def AL {id:Nat} {y:Code} {Q:Exit→BI→Prop} (h:DX P ops ops.toList σ (L6 (fun s=>AB P y s Q) Q)):AB P (.seq (.region id ops false) y) σ Q:=
 AB.seq (fun s=>AB P y s Q) (Au h) (fun _ h=>h)
end
def Az (n:Nat) (l:List (Nat×Ag)):List Ag:=(List.range n).map fun i=>(QH i l).getD .junk
def mk (n w:Nat):List Bool:=(List.range n).map fun i=>Nat.testBit w i
def aoG {σ S:BI} (m:List Bool) (π:List (Nat×Bool)) (f:UF σ.base σ.ents π=true:=by kernel_rfl) (h:S=⟨LU π m σ.slots,Qu σ.ents π,σ.base⟩:=by kernel_rfl):Bv σ S:=aC9.sub ⟨m,π,f,h⟩
inductive KU (P:Program) where
 |call (i:Nat) (f:FuncId) (eU:List Ag) (res:Ag) (run:Ak P f eU [] res []) (ent:Dw P f=true) (dat:eU.all Ag.Ar=true)
 |dat (i:Nat) (op:Op) (ns:List (Operand×Ag)) (x:Ag) (h:∀(o:Oper) (es:List BN),o.op=op→Bl P o ns es x es)
 |at_ (i:Nat) (op:Op) (ns:List (Operand×Ag)) (k:Nat) (e:BN) (x:Ag) (h:∀(o:Oper) (es:List BN),es[k]? =some e→o.op=op→Bl P o ns es x es)
 |fix (i:Nat) (op:Op) (ns:List (Operand×Ag)) (es:List BN) (x:Ag) (E:List BN) (h:∀(o:Oper),o.op=op→Bl P o ns es x E)
def KU.ix {P:Program}:KU P→Nat
 | .call i .. =>i
 | .dat i .. =>i
 | .at_ i .. =>i
 | .fix i .. =>i
inductive YC where
 |call (c:Option (FuncId×List Ag))
 |dat (op:Op) (vs:List Ag)
 |at_ (op:Op) (vs:List Ag) (e:Option BN)
 |fix (op:Op) (vs:List Ag) (es:List BN)
def aNa {P:Program} (i:Nat):List (KU P)→Option (KU P)
 | []=>none
 |c::l=>match Nat.beq i c.ix with |true=>some c|false=>aNa i l
section
variable {P : Program}
def wV (σ:BI) (o:Oper):KU P→BI×Option YC
 | .call _ _ _ f _ _ _=>(σ.sF o.dst (f.up [] σ.ents.length),some (.call (U4 σ o)))
 | .dat _ _ ns x _=>(σ.sF o.dst x,some (.dat o.op (ns.map fun n=>σ.get n.1)))
 | .at_ _ _ ns k _ x _=>(σ.sF o.dst x,some (.at_ o.op (ns.map fun n=>σ.get n.1) σ.ents[k]?))
 | .fix _ _ ns _ x E _=>(σ.put o.dst x E,some (.fix o.op (ns.map fun n=>σ.get n.1) σ.ents))
def rW :KU P→YC
 | .call _ f eU _ _ _ _=>.call (some (f,eU))
 | .dat _ op ns _ _=>.dat op (ns.map (·.2))
 | .at_ _ op ns _ e _ _=>.at_ op (ns.map (·.2)) (some e)
 | .fix _ op ns es _ _ _=>.fix op (ns.map (·.2)) es
def SN (T:Kn P) (L:List (KU P)) (ops:Array Oper) (σ:BI) (i:Nat):Option (BI×Option YC):=
 match ops[i]? with
 |none=>none
 |some o=>match aNa i L with
  |some c=>match KP ops σ o.guard with
   |some true=>some (wV σ o c)
   |_=>none
  |none=>match WJ T ops σ o with
   |some r=>some (σ.put o.dst r.x r.E,none)
   |none=>none
def Ja (T:Kn P) (L:List (KU P)) (ops:Array Oper) (σ:BI):List Nat→BI
 | []=>σ
 |i::l=>match SN T L ops (Ja T L ops σ l) i with
  |some (σ',_)=>σ'
  |none=>σ
def Zr (ops:Array Oper) (m:List Nat) (i:Nat):Bool:=match ops[i]? with
 |some o=>o.after.toList.all fun e=> !Region.binds .any e||(m.contains e.on&&decide (e.on<ops.size))
 |none=>false
def aN0 (ops:Array Oper) (N:List (List Nat)) (F:List Nat) (k:Nat) (m:List Nat) (T:List (Nat×Nat×Nat)):Bool:=
 ((List.range ops.size).all fun i=>m.contains i|| !Zr ops m i||
   T.any fun t=>t.2.1==i&&decide (t.2.2<N.length)&&(fun q=>(List.range ops.size).all fun j=>q.contains j==(m.contains j||j==i)) (N.getD t.2.2 []))&&
 (F.contains k||(List.range ops.size).any fun i=> !m.contains i&&Zr ops m i)
def aBB (ops:Array Oper) (N:List (List Nat)) (F:List Nat):Nat→List (List Nat)→List (Nat×Nat×Nat)→Bool
 |_,[],_=>true
 |k,m::M,Tr=>aN0 ops N F k m (Tr.takeWhile fun t=>t.1==k)&&aBB ops N F (k+1) M (Tr.dropWhile fun t=>t.1==k)
def bI (ops:Array Oper) (N:List (List Nat)) (Tr:List (Nat×Nat×Nat)) (F:List Nat):Bool:=aBB ops N F 0 N Tr
def aQv {α:Type} {p:α→Bool}:∀{l:List α} {x:α},x∈l.takeWhile p→p x=true
 | [],_,h=>Hr
 |y::l,x,h=>by
  rw[List.takeWhile_cons]at h;cases f:p y with
  |true=>
   rw[f]at h;rcases F9.1 h with rfl|h
   ·exact f
   exact aQv h
  |false=>rw[f]at h;simp at h
def aTR {ops:Array Oper} {N:List (List Nat)} {F:List Nat}:∀(M:List (List Nat)) (k:Nat) (Tr:List (Nat×Nat×Nat)),aBB ops N F k M Tr=true→∀j,j<M.length→
 ∃T,aN0 ops N F (k+j) (M.getD j []) T=true∧∀t∈T,t∈Tr∧t.1=k+j
 | [],_,_,_,j,n=>bM
 |m::M,k,Tr,h,j,n=>by
  unfold aBB at h;rw[DL]at h;cases j with
  |zero=>exact⟨_,h.1,fun t f=>⟨(List.takeWhile_sublist _).subset f,by have :=aQv f;simpa using this⟩⟩
  |succ j=>
   obtain⟨T,s,q⟩:=aTR M (k+1) _ h.2 j Nk;refine⟨T,?_,fun t f=>⟨(aHa _).subset (q t f).1,?_⟩⟩
   ·rw[show k+(j+1)=k+1+j by omega];simpa using s
   rw[(q t f).2];omega
def Uh (L:List (KU P)) (i:Nat):Option YC:=(aNa i L).map rW
def ajq (T:Kn P) {L:List (KU P)} {ops:Array Oper} {σ σ':BI} {i:Nat} {o:Oper} (s:ops[i]? =some o) (h:SN T L ops σ i=some (σ',Uh L i)):
 ∃x E,((∃ns,Bl P o ns σ.ents x E∧needs σ ns∧X3 ops σ o.guard)∨(x=.d (.lit undef)∧E=σ.ents∧X8 ops σ o.guard))∧σ'=σ.put o.dst x E:=by
 unfold SN Uh at h;rw[s]at h;simp only at h;split at h
 ·rename_i c u;split at h
  ·rename_i m;simp only[u,Ie,MI]at h;cases c with
   |call i f eU z run ent dat=>
    simp only[wV,rW,Rs,MI,YC.call.injEq]at h;obtain⟨ns,n,q,J⟩:=aE9 run ent h.2 dat;exact⟨_,_,.inl ⟨ns,n,q,MZ m⟩,h.1.symm⟩
   |dat i op ns x j=>
    simp only[wV,rW,Rs,MI,YC.dat.injEq]at h;exact⟨_,_,.inl ⟨ns,j o _ h.2.1,Uu h.2.2,MZ m⟩,h.1.symm⟩
   |at_ i op ns k e x j=>
    simp only[wV,rW,Rs,MI,YC.at_.injEq]at h;exact⟨_,_,.inl ⟨ns,j o _ h.2.2.2 h.2.1,Uu h.2.2.1,MZ m⟩,h.1.symm⟩
   |fix i op ns es x E j=>
    simp only[wV,rW,Rs,MI,YC.fix.injEq]at h;exact⟨_,_,.inl ⟨ns,h.2.2.2▸j o h.2.1,Uu h.2.2.1,MZ m⟩,h.1.symm⟩
  cases h
 split at h
 ·rename_i r I;simp only[MI,Rs]at h;obtain⟨n,q⟩:=YN T I;refine⟨_,_,?_,h.1.symm⟩;rcases n with⟨ns,a,b,_,c⟩|⟨a,b,c⟩
  ·exact .inl ⟨ns,a,b,c⟩
  exact .inr ⟨a,b,c⟩
 cases h
def nV (s t:BI):Prop:=∀C ok H a w,Holds C ok H s a w→∃ok' H',Holds C ok' H' t a w
def adx (s:BI):nV s s:=fun _ ok H _ _ h=>⟨ok,H,h⟩
def eX {s t:BI} (h:Bv s t):nV s t:=h
def AB.nodes (T:Kn P) {id:Nat} {ops:Array Oper} {σ:BI} {Q:Exit→BI→Prop} (L:List (KU P)) (N:List (List Nat)) (Tr:List (Nat×Nat×Nat)) (F:List Nat) (Z:BI) (hm:P.follows .mixedOrders=true) (hN:bI ops N Tr F=true) (h0:N.getD 0 [0]=[])
 (hT:(Tr.map fun t=>SN T L ops (Ja T L ops σ (N.getD t.1 [])) t.2.1)=Tr.map fun t=>some (Ja T L ops σ (N.getD t.2.2 []),Uh L t.2.1))
 (hF:QB (fun k=>nV (Ja T L ops σ (N.getD k [])) Z) F) (hQ:Q .normal Z):AB P (.region id ops true) σ Q:=by
 refine⟨fun ro _ C ok H a w f=>?_⟩;refine aFB hm ?_
 let S:Nat→BI:=fun k=>Ja T L ops σ (N.getD k [])
 let I:Array Bool→Act→World→Prop:=fun l a w=>l.size=ops.size∧∃k ok H,k<N.length∧(∀i,i<ops.size→l.getD i false=(N.getD k []).contains i)∧Holds C ok H (S k) a w
 have hNN:∀k,k<N.length→(((List.range ops.size).all fun i=>(N.getD k []).contains i|| !Zr ops (N.getD k []) i||
  Tr.any fun t=>t.1==k&&t.2.1==i&&decide (t.2.2<N.length)&&(List.range ops.size).all fun j=>(N.getD t.2.2 []).contains j==((N.getD k []).contains j||j==i))&&
  (F.contains k||(List.range ops.size).any fun i=> !(N.getD k []).contains i&&Zr ops (N.getD k []) i))=true:=fun k hk=>by
  obtain⟨T,s,z⟩:=aTR N 0 Tr hN k hk;unfold aN0 at s;rw[KG,DL,EZ]at s;rw[DL,EZ];refine⟨fun i hi=>?_,s.2⟩;have m:=s.1 i hi;rw[iC]at m ⊢;rcases m with m|m
  ·exact .inl m
  obtain⟨t,ht,h4⟩:=Hd.1 m;obtain⟨O,J⟩:=z t ht;rw[KG]at J;refine .inr (Hd.2 ⟨t,O,?_⟩);rw[show(t.1==k)=true by simpa using J,FX];exact h4
 refine aEO I (fun l a w h=>h.1) ?_ ?_ ops.size _ _ _ ?_ ?_
 ·rintro l a w ⟨s,k,ok,H,hk,hl,f⟩ i hi;unfold Region.ready at hi;rw[Hf]at hi;obtain⟨hi1,hi2⟩:=hi;have hi':i<ops.size:=aG3
  have ho:ops[i]? =some ops[i]:=by simp[hi']
  simp only[DL]at hi2;have q:=hi2.2;rw[ho]at q;simp only[Ie,OH]at q;have M:=fun e he=>(QI.1 q) e he
  have hself:l.getD i false=false:=by
   have h8:=hi2.1;have hil:i<l.size:=AA
   simp[Array.getD,hil]at h8 ⊢;exact h8
  have hnc:(N.getD k []).contains i=false:=by rw[←hl i hi'];exact hself
  have hrd:Zr ops (N.getD k []) i=true:=by
   unfold Zr;rw[ho];simp only[EZ];intro e he;have h9:=M e qK;cases hb:Region.binds .any e with
   |false=>simp
   |true=>
    simp only[hb,EM,MG]at h9 ⊢;by_cases hon:e.on<ops.size
    ·rw[←hl e.on hon,h9];simp[hon]
    have :l.getD e.on false=false:=by simp[Array.getD,show ¬e.on<l.size by omega]
    rw[this]at h9;cases h9
  have z:=hNN k hk;simp only[DL,EZ]at z;have m:=z.1 i (by simpa using hi');rw[hnc,hrd]at m;simp only[EM,Bool.or_self,MG,Hd]at m;obtain⟨⟨k',u,t⟩,htm,h4⟩:=m;simp only[DL,Rk,H6,EZ]at h4;obtain⟨⟨⟨rfl,rfl⟩,ht⟩,O⟩:=h4;have J:SN T L ops (S k') u=some (S t,Uh L u):=List.map_inj_left.1 hT (k',u,t) htm;obtain⟨x,E,hs,he⟩:=ajq T ho J
  have U:∀(a':Act) (w':World) (ok':Nat→Prop) (H':List Bj),Holds C ok' H' ((S k').put ops[u].dst x E) a' w'→I (l.setIfInBounds u true) a' w':=by
   intro a' w' ok' H' hp;refine⟨by simp[s],t,ok',H',ht,fun j hj=>?_,he▸hp⟩;have h7:=O j (by simpa using hj);rw[h7,←hl j hj];by_cases hij:u=j
   ·subst hij;simp[Array.getD,s,hj]
   have :(j==u)=false:=E5
   rw[this,L9];simp only[Gx,KW hij]
  unfold wpOpIn;rw[ho];show if Region.wanted ops[u] (yielded ops a.tmps)=true then _ else _
  rcases hs with⟨ns,hop,afE,hg⟩|⟨rfl,rfl,hg⟩
  ·rw[D9 (Pv f hg)];refine Qa ?_ (hop.inR ro C ok H a w _ f.mem (fun n hn'=>PG afE n hn'▸f.get n.1));rintro a' w' ⟨v,ok',H',rfl,hgr,hnn,hm',hx⟩;exact U _ _ _ _ (f.put ops[u].dst hgr hnn hm' hx)
  rw[DN (by rw[aNK f hg];simp)];exact⟨fun _ _=>trivial,U _ _ _ _ (f.put ops[u].dst (.refl _ _) (.refl _) f.mem (.d _ _ (.lit _)))⟩
 ·rintro l a w ⟨s,k,ok,H,hk,hl,f⟩ hr;have z:=hNN k hk;simp only[DL,iC]at z
  have hFk:k∈F:=by
   rcases z.2 with h|h
   ·simpa using h
   rw[Hd]at h;obtain⟨i,hi,m⟩:=h;simp only[tH]at hi;simp only[DL,RY]at m;obtain⟨h4,O⟩:=m;have ho:ops[i]? =some ops[i]:=QY
   have Y:i∈Region.ready .any ops l:=by
    unfold Region.ready;rw[Hf];refine⟨Fp,?_⟩;have hf:l.getD i false=false:=by rw[hl i hi];exact h4
    have hil:i<l.size:=AA
    have hf':l.getD i true=false:=aEv
    rw[hf',ho];simp only[IX,FX,Ie,OH];rw[QI];intro e he;unfold Zr at O;rw[ho]at O;simp only[EZ]at O;have J:=O e qK;cases hb:Region.binds .any e with
    |false=>simp
    |true=>
     simp only[hb,EM,MG]at J ⊢;rw[DL,H6]at J;rw[hl e.on J.2];exact J.1
   rw[hr]at Y;simp at Y
  obtain⟨ok',H',m⟩:=hF.mem k hFk C ok H a w f;exact⟨ok',H',Z,m,hQ⟩
 ·unfold toCome;simp
 refine⟨BP,0,ok,H,?_,fun i hi=>?_,?_⟩
 ·cases N with
  |nil=>cases h0
  |cons x l=>simp
 ·have e:N.getD 0 []=[]:=by
   cases N with
   |nil=>rfl
   |cons x l=>simpa using h0
  rw[e];simp[Array.getD]
 have e:S 0=σ:=by
  show Ja T L ops σ (N.getD 0 [])=σ;cases N with
  |nil=>rfl
  |cons x l=>have :x=[]:=by simpa using h0
             subst this;rfl
 rw[e];refine⟨⟨⟨f.mem.fr.os,f.mem.fr.tape,f.mem.fr.output,f.mem.fr.size,f.mem.fr.block⟩,f.mem.xU,f.mem.xW,f.mem.kW,f.mem.names,f.mem.hlen,fun k e h s z=>(f.mem.ent k e h s z).drew,f.mem.blk,f.mem.DU⟩,f.size,f.defers.mono (fun b hb=>⟨hb,rfl⟩),f.base,fun t ht=>R.mono (w:=w) (ok:=ok) (w':={ w with drawn:=w.drawn+1 }) (fun b hb=>⟨hb,rfl⟩) (.refl _) (f.slot t ht)⟩
def aJ3 {f:FuncId} {eU:List Ag} {h:Ag} (i:Nat) (run:Ak P f eU [] h []) (ent:Dw P f=true) (dat:eU.all Ag.Ar=true:=by kernel_rfl):KU P:=.call i f eU h run ent dat
def Zi {ns:List (Operand×Ag)} {x:Ag} (i:Nat) (op:Op) (h:∀(o:Oper) (es:List BN),o.op=op→Bl P o ns es x es):KU P:=.dat i op ns x h
def aBT {ns:List (Operand×Ag)} {x:Ag} (i:Nat) (op:Op) (k:Nat) (e:BN) (h:∀(o:Oper) (es:List BN),es[k]? =some e→o.op=op→Bl P o ns es x es):KU P:=.at_ i op ns k e x h
def iR {ns:List (Operand×Ag)} {x:Ag} (i:Nat) (op:Op) (es E:List BN) (h:∀(o:Oper),o.op=op→Bl P o ns es x E):KU P:=.fix i op ns es x E h
section
variable [T : Kn P] {id : Nat} {ops : Array Oper} {σ : BI} {Q : Exit → BI → Prop} {y : Code}
def AB.node1 (L:List (KU P)) (N:List (List Nat)) (Tr:List (Nat×Nat×Nat)) (f:Nat) (h:Q .normal (Ja T L ops σ (N.getD f []))) (j:P.follows .mixedOrders=true:=by kernel_rfl) (m:bI ops N Tr [f]=true:=by kernel_rfl) (n:N.getD 0 [0]=[]:=by kernel_rfl)
 (q:(Tr.map fun t=>SN T L ops (Ja T L ops σ (N.getD t.1 [])) t.2.1)=Tr.map fun t=>some (Ja T L ops σ (N.getD t.2.2 []),Uh L t.2.1):=by kernel_rfl):AB P (.region id ops true) σ Q:=
 AB.nodes T L N Tr [f] _ j m n q ⟨adx _,trivial⟩ h
def AB.aE0 (L:List (KU P)) (N:List (List Nat)) (Tr:List (Nat×Nat×Nat)) (f:Nat) (h:AB P y (Ja T L ops σ (N.getD f [])) Q) (j:P.follows .mixedOrders=true:=by kernel_rfl) (m:bI ops N Tr [f]=true:=by kernel_rfl) (n:N.getD 0 [0]=[]:=by kernel_rfl)
 (q:(Tr.map fun t=>SN T L ops (Ja T L ops σ (N.getD t.1 [])) t.2.1)=Tr.map fun t=>some (Ja T L ops σ (N.getD t.2.2 []),Uh L t.2.1):=by kernel_rfl):AB P (.seq (.region id ops true) y) σ Q:=
 AB.seq1 _ (AB.nodes T L N Tr [f] _ j m n q ⟨adx _,trivial⟩ rfl) h
def AB.aE1 (L:List (KU P)) (N:List (List Nat)) (Tr:List (Nat×Nat×Nat)) (F:List Nat) (f:BI) (h:QB (fun k=>nV (Ja T L ops σ (N.getD k [])) f) F) (j:AB P y f Q) (m:P.follows .mixedOrders=true:=by kernel_rfl) (n:bI ops N Tr F=true:=by kernel_rfl) (q:N.getD 0 [0]=[]:=by kernel_rfl)
 (s:(Tr.map fun t=>SN T L ops (Ja T L ops σ (N.getD t.1 [])) t.2.1)=Tr.map fun t=>some (Ja T L ops σ (N.getD t.2.2 []),Uh L t.2.1):=by kernel_rfl):AB P (.seq (.region id ops true) y) σ Q:=
 AB.seq1 f (AB.nodes T L N Tr F f m n q s h rfl) j
end
end
section
variable {P : Program} {ops : Array Oper} {es : List BN}
def Wp (ops:Array Oper) (bs:List Bool) (sl:List Nat):Bool:=(List.range ops.size).all fun i=> !(bs.getD i false)||(!sl.contains i&&
 ((List.range i).all fun j=>sl.contains j||(List.range (i+1)).any fun m=>(decide (j<m)&& !sl.contains m)&&(match ops[m]? with |some o=>GK o j|none=>false))&&
  ((List.range ops.size).all fun k=> !decide (i<k)||(List.range k).any fun m=>decide (i≤m)&&(match ops[k]? with |some o=>GK o m|none=>false)))
def aJ8 {bs:List Bool} {sl:List Nat} (h:Wp ops bs sl=true) {i:Nat} (hi:i<ops.size) (O:bs.getD i false=true) {D:Nat→Prop} (hd:∀(j:Nat) (o:Oper),ops[j]? =some o→D j→∀m,GK o m=true→D m)
 (S:∀(o:Oper),ops[i]? =some o→∀m,GK o m=true→D m):∀j,j<i→sl.contains j=false→D j:=by
 unfold Wp at h;rw[EZ]at h;have I:=h i Fp;simp only[O,EM,MG,DL,EZ]at I
 have key:∀n j,i-j≤n→j<i→sl.contains j=false→D j:=by
  intro n
  induction n with
  |zero=>intro j U J _;omega
  |succ n Y=>
   intro j U J f;have L:=I.1.2 j (by simpa using J);rw[f,MG,Hd]at L;obtain⟨m,Z,M⟩:=L;simp only[tH]at Z;simp only[DL,H6,RY]at M;obtain⟨⟨h6,q⟩,s⟩:=M;have u:m<ops.size:=AA
   have z:ops[m]? =some ops[m]:=dB
   rw[z]at s;by_cases e:m=i
   ·subst e;exact S _ z j s
   exact hd m _ z (Y m AA AA q) j s
 exact fun j hj hs=>key (i-j) j (EG _) hj hs
def alP {bs:List Bool} {sl:List Nat} (h:Wp ops bs sl=true) {i:Nat} (hi:i<ops.size) (O:bs.getD i false=true) {D:Nat→Prop} (hd:∀(j:Nat) (o:Oper),ops[j]? =some o→D j→∀m,GK o m=true→D m):
 ∀k,i<k→∀(o:Oper),ops[k]? =some o→(∀m,GK o m=true→D m)→D i:=by
 unfold Wp at h;rw[EZ]at h;have z:=h i Fp;simp only[O,EM,MG,DL,EZ]at z;intro k
 induction k using Nat.strongRecOn with
 |_ k S=>
  intro s o I f;have U:k<ops.size:=(Fv.1 I).1;have J:=z.2 k oJ;simp only[s,decide_true,EM,MG,Hd]at J;obtain⟨m,L,M⟩:=J;simp only[tH]at L;simp only[DL,H6,I]at M;obtain⟨Z,Y⟩:=M;have n:=f m Y;by_cases e:m=i
  ·subst e;exact n
  have u:m<ops.size:=AA
  have q:ops[m]? =some ops[m]:=dB
  exact S m L AA _ q (hd m _ q n)
def adF {bs:List Bool} {sl:List Nat} (h:Wp ops bs sl=true) {i:Nat} (hi:i<ops.size) (j:bs.getD i false=true):sl.contains i=false:=by
 unfold Wp at h;rw[EZ]at h;have f:=h i Fp;simp only[j,EM,MG,DL,RY]at f;exact f.1.1
def AB.aB3 {id:Nat} {σ σ':BI} {Q:Exit→BI→Prop} {rs:List Ag} {ess:List (List BN)} {bs:List Bool} (hm:P.follows .mixedOrders=true) (L:(Wj ops&&Vf ops&&UC ops σ.slots.length&&Wu ops)=true) (sl:List Nat) (M:Wp ops bs sl=true)
 (h:FH P ops ops.toList σ rs ess bs σ')
 (hsl:∀i,i∈sl→bs.getD i false=false∧∀m,i≤m→m≤ops.size→∀o,ops[i]? =some o→Qq P ops ⟨(Ed ops σ (fun i=>rs.getD i .junk) (fun i=>ess.getD i []) i).slots,(Ed ops σ (fun i=>rs.getD i .junk) (fun i=>ess.getD i []) m).ents,σ.base⟩ (rs.getD i .junk) (Ed ops σ (fun i=>rs.getD i .junk) (fun i=>ess.getD i []) m).ents false o) (hQ:Q .normal σ'):AB P (.region id ops true) σ Q:=by
 refine⟨fun ro _ C ok H a w hh=>?_⟩;simp only[DL]at L;obtain⟨⟨⟨he,hd⟩,hs⟩,hc⟩:=L;have PI:=aHy he;have hinj:=aOE hd;have L:=aJh hc
 have Ii:∀(i:Nat) (o:Oper) (d:Tmp),ops[i]? =some o→o.dst=some d→d<σ.slots.length:=by
  intro i o d h1 h2;unfold UC at hs;rw[EZ]at hs;simpa using hs d (aJK h1 h2)
 let r:Nat→Ag:=fun i=>rs.getD i .junk
 let ev:Nat→List BN:=fun i=>ess.getD i []
 let bar:Nat→Bool:=fun i=>bs.getD i false
 obtain⟨IW,hend⟩:=h.facts σ r ev bar 0 (fun k=>BP) BP rfl (fun k y hy=>aJ2) (fun k y hy=>aOi) (fun k y hy=>by simp[bar,List.getD,hy])
 let U:Nat→BI:=Ed ops σ r ev
 have hU:∀i,i<ops.size→(U (i+1)).ents=ev i:=by
  intro i hi;have J:ops[i]? =some ops[i]:=QY
  show(Ed ops σ r ev (i+1)).ents=_;simp only[Ed,J];rfl
 have hconst:∀n lo,(∀b,lo≤b→b<lo+n→bar b=false)→lo+n≤ops.size→(U (lo+n)).ents=(U lo).ents:=by
  intro n
  induction n with
  |zero=>intro lo _ _;rfl
  |succ n ih=>
   intro lo u hle;have h1:=ih lo (fun b h1 h2=>u b h1 AA) AA;have hi:lo+n<ops.size:=AA
   have J:ops[lo+n]? =some ops[lo+n]:=QY
   have h2:=(IW (lo+n) _ AA J).2 (u (lo+n) AA AA);rw[←O5,hU _ hi,h2];exact h1
 have O:∀lo hi,lo≤hi→hi≤ops.size→(∀b,lo≤b→b<hi→bar b=false)→(U hi).ents=(U lo).ents:=by
  intro lo hi h1 h2 h3;obtain⟨n,rfl⟩:=aMX h1;exact hconst n lo h3 h2
 refine aFB hm ?_
 let I:Array Bool→Act→World→Prop:=fun l a w=>l.size=ops.size∧∃ok H m,m≤ops.size∧(∀b,bar b=true→b<ops.size→(l.getD b false=true↔b<m))∧DI C ok H (U m).ents w∧a.tmps.size=σ.slots.length∧Marks C ok w a.defers∧
  (∀t,t<σ.slots.length→(∀(j:Nat) (o:Oper),ops[j]? =some o→o.dst=some t→l.getD j false=false)→R ok w H (σ.slots.getD t .junk) (a.tmps.getD t undef))∧
  (∀(i:Nat) (o:Oper) (d:Tmp),ops[i]? =some o→o.dst=some d→l.getD i false=true→R ok w H (r i) (a.tmps.getD d undef))∧
  (∀(j:Nat) (o:Oper),ops[j]? =some o→l.getD j false=true→∀i,GK o i=true→l.getD i false=true)
 refine aEO I (fun l a w h=>h.1) ?_ ?_ ops.size _ _ _ ?_ ?_
 ·rintro l a w ⟨h1,ok,H,m,LD,z,hmem0,hsz,hdf,h5,h6,h7⟩ i hi;unfold Region.ready at hi;rw[Hf]at hi;obtain⟨hi1,hi2⟩:=hi;have hi':i<ops.size:=aG3
  have J:ops[i]? =some ops[i]:=by simp[hi']
  simp only[DL]at hi2;have PK:=hi2.2;rw[J]at PK;simp only[Ie,OH]at PK;have ahO:=fun e he=>(QI.1 PK) e he
  have S:∀j,GK ops[i] j=true→l.getD j false=true∧j<i:=by
   intro j s;unfold GK at s;rw[Hd]at s;obtain⟨e,hee,s⟩:=s;simp only[DL,H6]at s;have :=ahO e aHf;simp only[s.2,EM,MG]at this;rw[s.1]at this;exact⟨this,s.1▸PI i _ J e hee s.2⟩
  have Y:l.getD i false=false:=by
   have h8:=hi2.1;have hil:i<l.size:=AA
   simp[Array.getD,hil]at h8 ⊢;exact h8
  have aoZ:∀(j:Nat) (o:Oper),ops[j]? =some o→l.getD j false=true→∀m,GK o m=true→l.getD m false=true:=fun j o s hl m hm=>h7 j o s hl m hm
  have hEi:(i≤m→sl.contains i=false)→(U i).ents=(U m).ents:=fun hns=>by
   by_cases him:i≤m
   ·refine(O i m him LD (fun b h2 h3=>?_)).symm;rw[←LZ];intro u;have hbl:=(z b u AA).2 h3;by_cases e:b=i
    ·subst e;rw[Y]at hbl;cases hbl
    have :=aJ8 M (show b<ops.size by omega) u (D:=fun j=>l.getD j false=true) aoZ (fun o J m hm=>aoZ b o J hbl m hm) i AA (hns him);rw[Y]at this;cases this
   refine O m i AA AA (fun b h2 h3=>?_);rw[←LZ];intro u;have :=alP M (show b<ops.size by omega) u (D:=fun j=>l.getD j false=true) aoZ i h3 _ J (fun m hm=>(S m hm).1);exact absurd ((z b u AA).1 this) AA
  obtain⟨E0,E1,Z,hfact,hE1,hE2⟩:∃E0 E1,DI C ok H E0 w∧Qq P ops ⟨(U i).slots,E0,σ.base⟩ (r i) E1 (bar i) ops[i]∧(bar i=false→E1=(U m).ents)∧(bar i=true→E1=ev i):=by
   by_cases hs:i≤m∧i∈sl
   ·have h9:=hsl i hs.2;refine⟨(U m).ents,(U m).ents,hmem0,?_,fun _=>rfl,fun u=>?_⟩
    ·rw[show bar i=false from h9.1];exact h9.2 m hs.1 LD _ J
    rw[show bar i=false from h9.1]at u;cases u
   have hE:=hEi (fun him=>by
    rw[←LZ]
    intro hc;exact hs ⟨him,by simpa using hc⟩)
   refine⟨(U i).ents,ev i,by rw[hE];exact hmem0,?_,fun u=>?_,fun _=>rfl⟩
   ·have hf:=IW i ops[i] AA J;have hbase:(U i).base=σ.base:=aEq i;have :U i=⟨(U i).slots,(U i).ents,σ.base⟩:=by rw[←hbase]
    exact this▸hf
   rw[(IW i _ AA J).2 u];exact hE
  have hread:∀t,t∈tmpsOf ops[i]→R ok w H ((Ed ops σ r ev i).slots.getD t .junk) (a.tmps.getD t undef):=by
   intro t ht;by_cases hw:∃(j:Nat) (o:Oper),ops[j]? =some o∧o.dst=some t
   ·obtain⟨j,o,s,q⟩:=hw;rcases(L i _ J).1 j o t s q ht with hce|hce
    ·obtain⟨hdj,hji⟩:=S j hce;rw[Ue hinj s q (Ii j o t s q) i hji];exact h6 j o t s q hdj
    have hij:i<j:=by
     unfold GK at hce;rw[Hd]at hce;obtain⟨e,hee,hce⟩:=hce;simp only[DL,H6]at hce;exact hce.1▸PI j _ s e hee hce.2
    rw[SS i (fun j' o' hj' ho' hd'=>aUV)];refine h5 t (Ii j o t s q) (fun j' o' ho' hd'=>?_);have hjj:=hinj j j' o o' t s ho' q hd';subst hjj;rw[←LZ];intro hd;rw[h7 j o s hd i hce]at Y;cases Y
   have hw':∀(j:Nat) (o:Oper),ops[j]? =some o→o.dst≠some t:=fun j o h1 h2=>hw ⟨j,o,h1,h2⟩;rw[SS i (fun j o _ s=>hw' j o s)];by_cases htn:t<σ.slots.length
   ·exact h5 t htn (fun j o s q=>absurd q (hw' j o s))
   rw[jv htn];exact .junk _
  have VF:∀j d v,GK ops[i] j=true→(ops[j]?).bind (·.dst)=some d→(Ed ops σ r ev i).slots.getD d .junk=.d (.lit v)→yielded ops a.tmps j=(match v with | .bool b=>some b|_=>none):=by
   intro j d v s q u;cases hoj:ops[j]? with
   |none=>rw[hoj]at q;simp at q
   |some oj=>
    rw[hoj]at q;simp only[Aa]at q;obtain⟨hdj,hji⟩:=S j s;have hdn:=Ii j oj d hoj q;rw[Ue hinj hoj q hdn i hji]at u;have hv:=(u▸h6 j oj d hoj q hdj).bool
    have hs:a.tmps[d]? =some v:=by
     have :d<a.tmps.size:=by rw[hsz];exact hdn
     simp[Array.getD,this]at hv;simp[this,hv]
    unfold yielded;rw[hoj];simp only[Aa,q,hs];cases v<;>rfl
  have hput:∀(x:Ag) (v:Value) (ok':Nat→Prop) (H':List Bj) (w':World),x=r i→EU ok w ok' w'→Names H H'→DI C ok' H' E1 w'→R ok' w' H' x v→I (l.setIfInBounds i true) (a.put ops[i].dst v) w':=by
   intro x v ok' H' w' hx hgr hnm hmem' hR;subst hx
   have hother:∀(d t:Nat),ops[i].dst=some d→d≠t→(a.put ops[i].dst v).tmps.getD t undef=a.tmps.getD t undef:=by
    intro d t hd hne;rw[hd];exact aKq hne
   obtain⟨m',am0,aek,am1⟩:∃m',m'≤ops.size∧(∀b,bar b=true→b<ops.size→((l.setIfInBounds i true).getD b false=true↔b<m'))∧DI C ok' H' (U m').ents w':=by
    have hget:∀b,b≠i→(l.setIfInBounds i true).getD b false=l.getD b false:=fun b u=>by
     simp only[Gx,KW (Ne.symm u)]
    have am2:(l.setIfInBounds i true).getD i false=true:=aOR
    cases hbi:bar i with
    |false=>
     refine⟨m,LD,fun b u hbs=>?_,?_⟩
     ·have hne:b≠i:=fun e=>by subst e;rw[hbi]at u;cases u
      rw[hget b hne];exact z b u hbs
     rw[←hE1 hbi];exact hmem'
    |true=>
     refine⟨i+1,AA,fun b u hbs=>?_,by rw[hU i hi',←hE2 hbi];exact hmem'⟩;by_cases e:b=i
     ·subst e;rw[am2];simp
     rw[hget b e];constructor
     ·intro hbl;apply Xq;intro hn;have :=aJ8 M hbs u (D:=fun j=>l.getD j false=true) aoZ (fun o J m hm=>aoZ b o J hbl m hm) i AA (adF M hi' hbi);rw[Y]at this;cases this
     intro hlt;exact aJ8 M hi' hbi (D:=fun j=>l.getD j false=true) aoZ (fun o ho' m hm=>by rw[J]at ho';obtain rfl:=Cx ho';exact(S m hm).1) b AA (adF M hbs u)
   refine⟨by simp[h1],ok',H',m',am0,aek,am1,aHl,aJa,?_,?_,?_⟩
   ·intro t ht hno
    have hne:ops[i].dst≠some t:=by
     intro e;have :=hno i _ J e;simp[Array.getD,h1,hi']at this
    have hold:(a.put ops[i].dst v).tmps.getD t undef=a.tmps.getD t undef:=by
     cases hdi:ops[i].dst with
     |none=>rfl
     |some d=>exact hdi▸hother d t hdi (fun e=>hne (by rw[hdi,e]))
    rw[hold];refine(h5 t ht (fun j o s q=>?_)).mono hgr hnm;have hij:i≠j:=fun e=>by subst e;rw[J]at s;obtain rfl:=Cx s;exact hne q
    have :=hno j o s q;simpa only[Gx,KW hij]using this
   ·intro k o d hk hkd hl;by_cases hik:i=k
    ·subst hik;rw[J]at hk;obtain rfl:=Cx hk;rw[hkd,aN7 (by rw[hsz];exact Ii i _ d J hkd)];exact hR
    have hl':l.getD k false=true:=by
     simp only[Gx,KW hik]at hl ⊢;exact hl
    have :=(h6 k o d hk hkd hl').mono hgr hnm;cases hdst:ops[i].dst with
    |none=>exact this
    |some d'=>
     have hne:d'≠d:=fun e=>hik (hinj i k _ _ d' J hk hdst (e▸hkd));rw[←hdst,hother d' d hdst hne];exact this
   intro j o s hl k hk;have hil:i<l.size:=AA
   by_cases hik:i=k
   ·subst hik;simp[Array.getD,hil]
   have hkk:l.getD k false=true:=by
    by_cases hij:i=j
    ·subst hij;rw[J]at s;obtain rfl:=Cx s;exact(S k hk).1
    have hl':l.getD j false=true:=by
     simp only[Gx,KW hij]at hl ⊢;exact hl
    exact h7 j o s hl' k hk
   simp only[Gx,KW hik]at hkk ⊢;exact hkk
  unfold wpOpIn;rw[J];show if Region.wanted ops[i] (yielded ops a.tmps)=true then _ else _
  rcases hfact.1 with⟨ns,hop,afE,hnt,hg⟩|⟨hx,hev,hg⟩
  ·have hwant:Region.wanted ops[i] (yielded ops a.tmps)=true:=by
    unfold Region.wanted;rcases hg with hg|⟨j,want,d,b,hg,s,u,rfl⟩
    ·rw[hg]
    rw[hg];show(yielded ops a.tmps j==some b)=true;rw[VF j d _ ((L i _ J).2 j b hg) s u];simp
   rw[D9 hwant];refine Qa ?_ (hop.inR ro C ok H a w _ Z (fun n hn=>?_))
   ·rintro a' w' ⟨v,ok',H',rfl,hgr,hnn,hm',hx⟩;exact hput _ v ok' H' w' rfl hgr hnn hm' hx
   have hnv:=PG afE n hn;obtain⟨x,y⟩:=n;simp only at hnv ⊢;subst hnv;cases x with
   |tmp t=>
    refine hread t ?_;rw[EZ]at hnt
    have :t∈Nc ns:=by
     unfold Nc;rw[Ti];exact⟨_,hn,rfl⟩
    simpa using hnt t this
   |const v=>exact .d _ _ (.lit v)
   |global g=>exact .d _ _ (.lit _)
   |func f=>exact .d _ _ (.fn (.func f) [] [] #[] #[] rfl rfl (fun i hi=>Nl) (fun i hi=>Nl))
  have hwant:Region.wanted ops[i] (yielded ops a.tmps)=false:=by
   unfold Region.wanted;obtain⟨j,want,d,v,hg,s,u,hv⟩:=hg;rw[hg];show(yielded ops a.tmps j==some want)=false;rw[VF j d _ ((L i _ J).2 j want hg) s u];rcases hv with rfl|rfl
   ·simp
   rfl
  rw[DN (by rw[hwant];simp)];exact⟨fun _ _=>trivial,hput _ _ ok H w hx.symm (.refl _ _) (.refl _) (by rw[hev];exact Z) (.d _ _ (.lit _))⟩
 ·rintro l a w ⟨h1,ok,H,m,LD,z,Z,hsz,hdf,h5,h6,h7⟩ hr
  have hall:∀n i,i<n→i<ops.size→l.getD i false=true:=by
   intro n
   induction n with
   |zero=>intro i hi;omega
   |succ n ih=>
    intro i hi hi2;by_cases hn:i<n
    ·exact ih i hn hi2
    have hin:i=n:=AA
    subst hin;rw[←aKr];intro hf;have J:ops[i]? =some ops[i]:=by simp[hi2]
    have Z:i∈Region.ready .any ops l:=by
     unfold Region.ready;rw[Hf];refine⟨by simpa using hi2,?_⟩;have hil:i<l.size:=AA
     have hf':l.getD i true=false:=aEv
     rw[hf',J];simp only[IX,FX,Ie,OH];rw[QI];intro e he;cases hbe:Region.binds .any e with
     |false=>simp
     |true=>
      have hlt:=PI i _ J e qK hbe;rw[ih e.on AA AA];simp
    rw[hr]at Z;simp at Z
  refine⟨ok,H,σ',?_,hQ⟩;subst hend
  have hE:(U ops.size).ents=(U m).ents:=O m ops.size LD (EG _) (fun b h2 h3=>by
   rw[←LZ];intro u
   exact absurd ((z b u h3).1 (hall (b+1) b AA h3)) AA)
  refine⟨by show DI C ok H (U ops.size).ents w;rw[hE];exact Z,by rw[VE];exact hsz,hdf,aJt,fun t ht=>?_⟩;rw[VE]at ht;by_cases hw:∃(j:Nat) (o:Oper),ops[j]? =some o∧o.dst=some t
  ·obtain⟨j,o,s,q⟩:=hw;have hjn:j<ops.size:=(Fv.1 s).1;rw[Ue hinj s q ht ops.size hjn];exact h6 j o t s q (hall (j+1) j AA hjn)
  have hw':∀(j:Nat) (o:Oper),ops[j]? =some o→o.dst≠some t:=fun j o h1 h2=>hw ⟨j,o,h1,h2⟩;rw[SS ops.size (fun j o _ s=>hw' j o s)];exact h5 t ht (fun j o s q=>absurd q (hw' j o s))
 ·unfold toCome;simp
 refine⟨BP,ok,H,0,Eh _,fun b u _=>aAB,?_,hh.size,hh.defers.mono (fun b u=>⟨u,rfl⟩),fun t ht _=>?_,fun i o d _ _ hl=>?_,fun j o _ hl=>?_⟩
 ·exact⟨⟨hh.mem.fr.os,hh.mem.fr.tape,hh.mem.fr.output,hh.mem.fr.size,hh.mem.fr.block⟩,hh.mem.xU,hh.mem.xW,hh.mem.kW,hh.mem.names,hh.mem.hlen,fun k e h h1 h2=>(hh.mem.ent k e h h1 h2).drew,hh.mem.blk,hh.mem.DU⟩
 ·exact R.mono (w:=w) (ok:=ok) (w':={ w with drawn:=w.drawn+1 }) (fun b u=>⟨u,rfl⟩) (.refl _) (hh.slot t ht)
 ·simp[Array.getD]at hl
 simp[Array.getD]at hl
def YK (n:Nat) (sl:List Nat):List (Nat×Nat):=sl.flatMap fun i=>((List.range (n+1)).filter fun m=>decide (i≤m)).map fun m=>(i,m)
def tq (ops:Array Oper) (σ:BI) (rs:List Ag) (ess:List (List BN)) (i:Nat):BI:=Ed ops σ (fun i=>rs.getD i .junk) (fun i=>ess.getD i []) i
def aDk (T:Kn P) (ops:Array Oper) (σ:BI) (rs:List Ag) (ess:List (List BN)) (p:Nat×Nat):Option (Ag×List BN×Bool):=
 match ops[p.1]? with
 |some o=>(WJ T ops ⟨(tq ops σ rs ess p.1).slots,(tq ops σ rs ess p.2).ents,σ.base⟩ o).map fun r=>(r.x,r.E,r.bar)
 |none=>none
def aUI (T:Kn P) {σ:BI} {rs:List Ag} {ess:List (List BN)} {bs:List Bool} {sl:List Nat} (j:(sl.all fun i=> !(bs.getD i false))=true)
 (n:(YK ops.size sl).map (aDk T ops σ rs ess)=(YK ops.size sl).map fun p=>some (rs.getD p.1 .junk,(tq ops σ rs ess p.2).ents,false)):
 ∀i,i∈sl→bs.getD i false=false∧∀m,i≤m→m≤ops.size→∀o,ops[i]? =some o→Qq P ops ⟨(Ed ops σ (fun i=>rs.getD i .junk) (fun i=>ess.getD i []) i).slots,(Ed ops σ (fun i=>rs.getD i .junk) (fun i=>ess.getD i []) m).ents,σ.base⟩ (rs.getD i .junk) (Ed ops σ (fun i=>rs.getD i .junk) (fun i=>ess.getD i []) m).ents false o:=by
 intro i hi;refine⟨by have :=EZ.1 j i hi;simpa using this,fun m s J o u=>?_⟩
 have z:(i,m)∈YK ops.size sl:=by
  unfold YK;rw[Vo];exact⟨i,hi,GV.2 ⟨m,Hf.2 ⟨E5,Pg⟩,rfl⟩⟩
 have f:=List.map_inj_left.1 n (i,m) z;unfold aDk at f;rw[u]at f;simp only[UU]at f;obtain⟨r,I,h⟩:=f;have q:=YN T I;simp only[Rs]at h;rw[h.1,h.2.1,h.2.2]at q;exact q
def AB.aB4 [T:Kn P] {id:Nat} {σ σ':BI} {Q:Exit→BI→Prop} {rs:List Ag} {ess:List (List BN)} {bs:List Bool} (sl:List Nat) (h:FH P ops ops.toList σ rs ess bs σ') (q:Q .normal σ') (s:P.follows .mixedOrders=true:=by kernel_rfl)
 (f:(Wj ops&&Vf ops&&UC ops σ.slots.length&&Wu ops)=true:=by kernel_rfl) (j:Wp ops bs sl=true:=by kernel_rfl) (m:(sl.all fun i=> !(bs.getD i false))=true:=by kernel_rfl)
 (n:(YK ops.size sl).map (aDk T ops σ rs ess)=(YK ops.size sl).map fun p=>some (rs.getD p.1 .junk,(tq ops σ rs ess p.2).ents,false):=by kernel_rfl):AB P (.region id ops true) σ Q:=
 AB.aB3 s f sl j h (aUI T m n) q
def AB.aB5 [T:Kn P] {id:Nat} {y:Code} {σ σ':BI} {Q:Exit→BI→Prop} {rs:List Ag} {ess:List (List BN)} {bs:List Bool} (sl:List Nat) (h:FH P ops ops.toList σ rs ess bs σ') (q:AB P y σ' Q) (s:P.follows .mixedOrders=true:=by kernel_rfl)
 (f:(Wj ops&&Vf ops&&UC ops σ.slots.length&&Wu ops)=true:=by kernel_rfl) (j:Wp ops bs sl=true:=by kernel_rfl) (m:(sl.all fun i=> !(bs.getD i false))=true:=by kernel_rfl)
 (n:(YK ops.size sl).map (aDk T ops σ rs ess)=(YK ops.size sl).map fun p=>some (rs.getD p.1 .junk,(tq ops σ rs ess p.2).ents,false):=by kernel_rfl):AB P (.seq (.region id ops true) y) σ Q:=
 AB.seq1 σ' (AB.aB3 s f sl j h (aUI T m n) rfl) q
def BI.aj9 (σ:BI) (k j:Nat) (xs:List D) (cs:List Ag):BI:=⟨σ.slots.map (Ag.thaw k xs),(σ.ents.set k .dead).set j (.box (cs.map (Ag.thaw k xs))),σ.base⟩
def aUS {σ:BI} (k j:Nat) {e s:Nat} {xs:List D} {cs:List Ag} (Z:σ.ents[k]? =some (.arr e s xs)) (hj:σ.ents[j]? =some (.box cs)) (hl:(cs.map (Ag.thaw k xs)).all Ag.leaf=true):∀C ok H a w,Holds C ok H σ a w→∃ok',Holds C ok' H (σ.aj9 k j xs cs) a w:=by
 intro C ok H a w h;have hkj:k≠j:=fun e=>by subst e;rw[Z]at hj;cases hj
 obtain⟨hd,O,hok⟩:=GU h.mem.ent h.mem.hlen Z;have hkl:k<σ.ents.length:=(FN.1 Z).1;have hjl:j<(σ.ents.set k .dead).length:=by rw[kH];exact(FN.1 hj).1
 let ok':Nat→Prop:=fun b=>ok b∨Dq hd.v=some b
 have J:=fun b f=>h.mem.blk k _ hd b Z rfl O f;have hg:EU ok w ok' w:=fun b f=>⟨.inl f,rfl⟩
 have m:∀{x:Ag} {v:Value},R ok w H x v→R ok' w H (x.thaw k xs) v:=by
  intro x v hR0;have hR:=hR0.mono hg (Names.refl H);cases x with
  |aO i=>
   simp only[Ag.thaw];split
   ·rename_i hi;subst hi;obtain rfl:=Qi hR O;exact .d _ _ (Zk hok (fun b f=>.inl f) (fun b f=>.inr f))
   exact hR
  |lQ i i2 off=>
   simp only[Ag.thaw];split
   ·exact .junk _
   exact hR
  |_=>exact hR
 have L:∀(i:Nat) (e':BN),((σ.ents.set k .dead).set j (.box (cs.map (Ag.thaw k xs))))[i]? =some e'→(i=j∧e'=.box (cs.map (Ag.thaw k xs)))∨(i≠j∧((i=k∧e'=.dead)∨(i≠k∧σ.ents[i]? =some e'))):=by
  intro i e' S;rcases Kz hjl S with⟨rfl,rfl⟩|⟨Y,U⟩
  ·exact .inl ⟨rfl,rfl⟩
  refine .inr ⟨Y,?_⟩;rcases Kz hkl U with⟨rfl,rfl⟩|⟨M,h4⟩
  ·exact .inl ⟨rfl,rfl⟩
  exact .inr ⟨M,h4⟩
 have q:∀(i:Nat) (e':BN),((σ.ents.set k .dead).set j (.box (cs.map (Ag.thaw k xs))))[i]? =some e'→e'.live=true→i≠k∧∃e0,σ.ents[i]? =some e0∧e0.live=true:=by
  intro i e' S I;rcases L i e' S with⟨rfl,rfl⟩|⟨Y,⟨rfl,rfl⟩|⟨U,M⟩⟩
  ·exact⟨Ne.symm hkj,_,hj,rfl⟩
  ·cases I
  exact⟨U,_,M,I⟩
 refine⟨ok',⟨h.mem.fr,fun b f=>.inl (h.mem.xU b f),?_,?_,h.mem.names,by simp[BI.aj9,h.mem.hlen],?_,?_,?_⟩,by simp[BI.aj9,h.size],h.defers.mono hg,h.base,?_⟩
 ·rintro b (f|f)
  ·exact h.mem.xW b f
  exact .inr (J b f).2.2
 ·rintro b (f|f)
  ·exact h.mem.kW b f
  exact(J b f).2.1
 ·intro i e' h' S u;rcases L i e' S with⟨rfl,rfl⟩|⟨_,⟨rfl,rfl⟩|⟨_,he'⟩⟩
  ·obtain⟨b,vs,T,Y,U,M,h4⟩:=h.mem.ent i _ h' hj u;refine⟨b,vs,T,Y,U,aEj,fun n hn=>?_⟩;rw[D8]at hn;rw[Ro _ _ _ hn];refine⟨?_,m (h4 n hn).2⟩;rw[EZ]at hl;exact hl _ (GV.2 ⟨_,by simp[List.getD,hn],rfl⟩)
  ·trivial
  exact(h.mem.ent i e' h' he' u).mono hg (.refl _) (fun _ _ _=>rfl)
 ·intro i e' h' b S I u f;obtain⟨hik,e0,he0,hl0⟩:=q i e' S I;have M:=h.mem.blk i e0 h' b he0 hl0 u f;refine⟨fun z=>?_,M.2⟩;rcases z with z|z
  ·exact M.1 z
  exact hik (h.mem.DU i k e0 _ h' hd b he0 Z hl0 rfl u O f z)
 ·intro i i' e1 e2 Y U b he1 he2 hl1 hl2 hh1 hh2 hb1 hb2;obtain⟨_,e1',aFX,aFY⟩:=q i e1 he1 hl1;obtain⟨_,e2',aFZ,aF0⟩:=q i' e2 he2 hl2;exact h.mem.DU i i' e1' e2' Y U b aFX aFZ aFY aF0 hh1 hh2 hb1 hb2
 intro t ht;simp only[BI.aj9,D8]at ht
 have e1:(σ.aj9 k j xs cs).slots.getD t .junk=(σ.slots.getD t .junk).thaw k xs:=by
  simp only[BI.aj9];exact Ro _ _ _ ht
 rw[e1];exact m (h.slot t ht)
def AB.conv {c:Code} {σ j:BI} {Q:Exit→BI→Prop} (h:∀C ok H a w,Holds C ok H σ a w→∃ok',Holds C ok' H j a w) (k:AB P c j Q):AB P c σ Q:=⟨fun ro m C ok H a w n=>by
 obtain⟨ok',f⟩:=h C ok H a w n
 exact k.run ro m C ok' H a w f⟩
end
def aFI (es:List BN) (H:List Bj):List Nat:=(es.zip H).filterMap fun p=>if p.1.live then Dq p.2.v else none
def aRD {es:List BN} {H:List Bj} {b:Nat}:b∈aFI es H↔∃(k:Nat) (e:BN) (h:Bj),es[k]? =some e∧e.live=true∧H[k]? =some h∧Dq h.v=some b:=by
 unfold aFI;rw[Ti];constructor
 ·rintro⟨⟨e,h⟩,m,f⟩;obtain⟨k,j⟩:=List.mem_iff_getElem?.1 m;rw[aQn]at j;split at f
  ·rename_i n;exact⟨k,e,h,j.1,n,j.2,f⟩
  cases f
 rintro⟨k,e,h,q,s,u,z⟩;exact⟨(e,h),List.mem_iff_getElem?.2 ⟨k,aQn.2 ⟨q,u⟩⟩,by simp[s,z]⟩
def EW.now (w:World) (ok:Nat→Prop) (es:List BN) (H:List Bj):EW:=⟨w,ok,aFI es H,H⟩
section
variable {C : EW} {ok ok' : Nat → Prop} {H H' : List Bj} {es es' : List BN} {w w' : World}
def DI.inner (f:DI C ok H es w):DI (EW.now w ok es H) ok H es w:=
 ⟨.refl _ _,fun _ h=>h,fun _ h=>.inl h,f.kW,.refl _,f.hlen,f.ent,
  fun k e h b j m n q=>⟨(f.blk k e h b j m n q).1,(f.blk k e h b j m n q).2.1,.inr (aRD.2 ⟨k,e,h,j,m,n,q⟩)⟩,f.DU⟩
def DI.outer (f:DI C ok H es w) (h:DI (EW.now w ok es H) ok' H' es' w'):EU ok w ok' w'∧Names H H'∧DI C ok' H' es' w':=by
 have q:∀b,b∈aFI es H→¬ok b∧b<w.heap.size∧(C.w0.heap.size≤b∨b∈C.X):=fun b m=>by
  obtain⟨k,e,hd,j,u,n,L⟩:=aRD.1 m;exact f.blk k e hd b j u n L
 refine⟨fun b m=>⟨h.xU b m,h.fr.block b (f.kW b m) fun s=>(q b s).1 m⟩,h.names,⟨h.fr.os.trans f.fr.os,h.fr.tape.trans f.fr.tape,h.fr.output.trans f.fr.output,Ei f.fr.size h.fr.size,fun k J s=>?_⟩,fun b m=>h.xU b (f.xU b m),fun b m=>?_,h.kW,f.names.trans h.names,h.hlen,h.ent,fun k e hd b M O S m=>?_,h.DU⟩
 ·have z:k<w.heap.size:=VP J f.fr.size;refine(h.fr.block k z fun I=>?_).trans (f.fr.block k J s);rcases(q k I).2.2 with j|j
  ·omega
  exact s j
 ·rcases h.xW b m with j|j|j
  ·exact f.xW b j
  ·exact .inr (.inl (Ei f.fr.size j))
  exact .inr ((q b j).2.2)
 obtain⟨j,u,n⟩:=h.blk k e hd b M O S m;refine⟨j,u,?_⟩;rcases n with n|n
 ·exact .inl (Ei f.fr.size n)
 exact(q b n).2.2
def DI.akb (q:DI C ok H es w) {n:Nat} {e e':BN} {h:Bj} {b:Nat} {o:Obj} (z:es[n]? =some e) (L:e.live=true) (I:H[n]? =some h) (J:Dq h.v=some b) (he:EU ok w ok (w.putObj b o)→Eo ok (w.putObj b o) H h e'):
 DI C ok H (es.set n e') (w.putObj b o)∧EU ok w ok (w.putObj b o):=by
 obtain⟨M,h2,h3⟩:=q.blk n e h b z L I J;have hg:EU ok w ok (w.putObj b o):=fun c f=>⟨f,Xw fun e=>M (e▸f)⟩
 have s:=(FN.1 z).1;refine q.change (fun c=>c=b) rfl rfl rfl BP (fun c _ f=>Xw f) (fun c f _=>by subst f;exact⟨M,h3⟩) (fun _ h=>h) (fun _ h=>.inl h) (.refl _) (by simpa using q.hlen) fun k e2 h4 hk j=>?_;rcases Kz s hk with⟨rfl,rfl⟩|⟨m,u⟩
 ·right;rw[I]at j;obtain rfl:=Cx j;refine⟨he hg,fun _ c f=>?_⟩;rw[J]at f;obtain rfl:=Cx f;refine⟨M,aHD,h3,fun k' e3 h5 m O S U Y=>?_⟩;rcases Kz s O with⟨rfl,_⟩|⟨_,Z⟩
  ·exact m rfl
  exact m (q.DU k' _ e3 e h5 h _ Z z S L U I Y J)
 left;exact⟨u,j,fun hl2 c f hcb=>m (q.DU k n e2 e h4 h c u z hl2 L j I f (by rw[hcb];exact J))⟩
def aU :List Tmp→List Ag→List Ag→List Ag
 |p::f,x::xs,sl=>aU f xs (sl.set p x)
 |_,_,sl=>sl
def acN :∀(f:List Tmp) (xs:List Ag) (vs:List Value) (sl:List Ag) (tm:Array Value),xs.length=f.length→vs.length=f.length→(∀i,i<xs.length→R ok w H (xs.getD i .junk) (vs.getD i undef))→
 tm.size=sl.length→(∀t,t<sl.length→R ok w H (sl.getD t .junk) (tm.getD t undef))→
 ((f.zip vs).foldl (fun t p=>t.setIfInBounds p.1 p.2) tm).size=(aU f xs sl).length∧∀t,t<(aU f xs sl).length→R ok w H ((aU f xs sl).getD t .junk) (((f.zip vs).foldl (fun t p=>t.setIfInBounds p.1 p.2) tm).getD t undef)
 | [],xs,vs,sl,tm,_,_,_,j,n=>by
   have e:aU [] xs sl=sl:=by cases xs<;>rfl
   rw[e];exact⟨j,n⟩
 |p::f,[],vs,sl,tm,h,_,_,_,_=>Hr
 |p::f,x::xs,[],sl,tm,_,h,_,_,_=>Hr
 |p::f,x::xs,v::vs,sl,tm,z,I,u,j,n=>by
  refine acN f xs vs (sl.set p x) (tm.setIfInBounds p v) mG aCw (fun i hi=>by simpa using u (i+1) Fp) Oh (fun t m=>?_);rw[kH]at m;by_cases e:p=t
  ·subst e;have q:(sl.set p x).getD p .junk=x:=by simp[List.getD,m]
   have s:(tm.setIfInBounds p v).getD p undef=v:=by simp[Array.getD,j,m]
   rw[q,s];simpa using u 0 BP
  have q:(sl.set p x).getD t .junk=sl.getD t .junk:=aKO
  have s:(tm.setIfInBounds p v).getD t undef=tm.getD t undef:=by simp[Gx,KW e]
  rw[q,s];exact n t m
end
def Xk :Exit→Option (LoopState×Option Code)
 | .normal=>some (.ready,none)
 | .ret=>some (.done,some .ret)
 | .exit i=>some (.done,some (.exit i))
 |_=>none
section
variable {P : Program} {ops : Array Oper} {o : Oper} {rest l : List Oper} {σ : BI} {K : Exit → BI → Prop}
def aA1 {h:Bj} {l:Nat} (e:h.v=.func (.yield l) #[] #[]):Dq h.v=some l:=by rw[e];rfl
def DX.yield {f:Operand} {xs:Array Operand} {ts:Array TypeId} {tm:Array Value} {slots:List Ag} {rc:Array Tmp×Code×Code} (k:Nat) (eU:List Ag)
 (ho:o.op=.call { callee:=.value f,args:=xs,argTypes:=ts }) (hf:σ.get f=.mp k) (hk:σ.ents[k]? =some (.loop tm slots rc .ready none)) (hx:xs.toList.map σ.get=eU) (u:rc.1.size=xs.size)
 (hg:KP ops σ o.guard=some true) (z:(PE rc.2.1&&PE rc.2.2)=true)
 (h:AB P rc.2.1 ⟨aU rc.1.toList eU slots,σ.ents,σ.ents.length⟩ fun e s=>e=.normal∧∃sl,s.ents[k]? =some (.loop tm sl rc .ready none)∧
  AB P rc.2.2 ⟨s.slots,s.ents.set k (.loop tm sl rc .busy none),s.base⟩ fun e s2=>∃q j,s2.ents[k]? =some (.loop tm q rc .busy none)∧Xk e=some j∧
   DX P ops rest (BI.sF ⟨σ.slots,s2.ents.set k (.loop tm q rc j.1 j.2),σ.base⟩ o.dst (.d (.lit (.bool j.2.isNone)))) K):DX P ops (o::rest) σ K:=by
 rw[DL]at z;refine⟨fun ro l2 Q C ok H a w n I=>?_⟩;show wpListIn (J6 ro) 0 P ops Q (o::(rest++l2)) a w;unfold wpListIn;rw[D9 (Pv n (MZ hg))];have hv:=hf▸n.get f;obtain⟨hd,J,S⟩:=GU n.mem.ent n.mem.hlen hk;obtain⟨l,fn,D,e1,e2,e3,e4⟩:=S
 have U:a.eval f=.func (.yield l) #[] #[]:=by
  cases hv with
  |mp _ v s hl hH=>
   rw[J]at hH;obtain rfl:=Cx hH;exact e1
 have Y:(execOp a.eval o).run P w=.ok (.round l fn ((rc.1.zip (xs.map a.eval)).foldl (fun tmps (t,a)=>tmps.setIfInBounds t a) tm) rc.2.1 rc.2.2) w:=by
  have :=run_yield (P:=P) e2 (args:=xs.map a.eval) dB;simp[execOp,ho,resolve,U,Deferred.ofValue,invoke,this]
 unfold Oper.wpIn;rw[eB _ _ _ (by rw[ho];intro c h;cases h),Y,Oper.uponIn_round];refine⟨fun _ _=>trivial,fun h=>He,roundIn_of_wpIn trivial ?_⟩
 have hT:(rc.1.zip (xs.map a.eval)).foldl (fun tmps (t,a)=>tmps.setIfInBounds t a) tm=(rc.1.toList.zip (xs.toList.map a.eval)).foldl (fun t p=>t.setIfInBounds p.1 p.2) tm:=by
  rw[←Array.foldl_toList,Array.toList_zip,Array.toList_map]
 rw[hT];have hpl:eU.length=rc.1.toList.length:=by rw[←hx];simp[u]
 obtain⟨p1,p2⟩:=acN (ok:=ok) (w:=w) (H:=H) rc.1.toList eU (xs.toList.map a.eval) slots tm hpl dB (fun i hi=>by
  have hi':i<xs.toList.length:=by rw[←hx]at hi;simpa using hi
  have Z:i<xs.size:=by simpa using hi'
  have O:eU.getD i .junk=σ.get xs.toList[i]:=by rw[←hx];simp[List.getD,Z]
  have q2:(xs.toList.map a.eval).getD i undef=a.eval xs.toList[i]:=by simp[List.getD,Z]
  rw[O,q2];exact n.get _) e3 e4
 have hin:Holds (EW.now w ok σ.ents H) ok H ⟨aU rc.1.toList eU slots,σ.ents,σ.ents.length⟩ { tmps:=(rc.1.toList.zip (xs.toList.map a.eval)).foldl (fun t p=>t.setIfInBounds p.1 p.2) tm,defers:=[] } w:=
  ⟨n.mem.inner,p1,.nil _ _ _,n.mem.hlen,p2⟩
 show Code.wpIn (J6 (some l)) 0 P _ _ _ _;refine UQ (h.run (some l) (.inr z.1) _ _ _ _ _ hin) ?_;rintro e a1 w1 ⟨ok1,H1,s1,m,rfl,sl,hs1,h2⟩;obtain⟨g1,n1,m1⟩:=n.mem.outer m.mem;have hk1:=n1 k hd J;obtain⟨l',fn',D',O,q2,q3,q4⟩:=m.mem.ent k _ hd hs1 hk1;have L:l'=l:=by rw[e1]at O;cases O;rfl
 subst L
 obtain⟨m2,g2⟩:=m.mem.akb (o:=.loop { state:=.busy,pending:=none,fn:=fn',tmps:=tm,params:=rc.1,assign:=rc.2.1,body:=rc.2.2,defers:=D' }) (e':=.loop tm sl rc .busy none) hs1 rfl hk1 (aA1 O)
  (fun g=>⟨l',fn',D',O,W9 (Fv.1 q2).1,q3,fun t M=>(q4 t M).mono g (.refl _)⟩)
 refine⟨_,run_beginRound q2 rfl,?_⟩;refine UQ (h2.run (some l') (.inr z.2) _ _ _ _ _ ⟨m2,m.size,m.defers.mono g2,m.base,fun t M=>(m.slot t M).mono g2 (.refl _)⟩) ?_;rintro e a2 w3 ⟨ok2,H2,s2,hh2,q,j,hs2,hj,hL⟩;obtain⟨g3,n3,m3⟩:=n.mem.outer hh2.mem;have hk2:=n3 k hd J;obtain⟨l3,fn3,D3,r1,r2,r3,r4⟩:=hh2.mem.ent k _ hd hs2 hk2;have L:l3=l':=by rw[e1]at r1;cases r1;rfl
 subst L
 have key:j.1=(if j.2.isNone then LoopState.ready else .done)→∃v w',(Instr.endRound l3 j.2).run P w3=.ok v w'∧wpListIn (J6 ro) 0 P ops Q (rest++l2) (a.put o.dst v) w':=by
  intro hst
  obtain⟨m4,g4⟩:=m3.akb (o:=.loop { state:=(if j.2.isNone then LoopState.ready else .done),pending:=j.2,fn:=fn3,tmps:=tm,params:=rc.1,assign:=rc.2.1,body:=rc.2.2,defers:=D3 }) (e':=.loop tm q rc j.1 j.2) hs2 rfl hk2 (aA1 r1)
   (fun g=>⟨l3,fn3,D3,r1,by rw[hst];exact W9 (Fv.1 r2).1,r3,fun t M=>(r4 t M).mono g (.refl _)⟩)
  refine⟨_,_,run_endRound j.2 r2,hL.run ro l2 Q C _ _ _ _ (Holds.put (σ:=⟨σ.slots,s2.ents.set k (.loop tm q rc j.1 j.2),σ.base⟩) ⟨m4,n.size,n.defers.mono (g3.trans g4),n.base,fun t M=>(n.slot t M).mono (g3.trans g4) n3⟩ o.dst (.refl _ _) (.refl _) m4 (.d _ _ (.lit _))) I⟩
 cases e with
 |normal=>obtain rfl:=Cx hj;exact key rfl
 |ret=>obtain rfl:=Cx hj;exact key rfl
 |exit i=>obtain rfl:=Cx hj;exact key rfl
 |_=>cases hj
def AB.ay2 {Q:Exit→BI→Prop} {g:Operand} {M:Array Tmp} {assign body c:Code} {gf:FuncId} {fn:Func} (f:List Ag) (hg:∀(C:EW) (ok:Nat→Prop) (H:List Bj) (a:Act) (w:World),Holds C ok H σ a w→R ok w H (.fn (.func gf) [] f) (a.eval g)) (hf:P.funcs[gf]? =some fn) (he:Dw P gf=true) (u:fn.body=some c) (hres:fn.results= #[])
 (h:∀tm,AB P c ⟨(.mp σ.ents.length::f)++List.replicate (fn.ntmps-(f.length+1)) .junk,σ.ents++[.loop tm σ.slots (M,assign,body) .ready none],σ.ents.length+1⟩ fun e s=>(e=.normal∨e=.ret)∧
  ∃sl j x,s.ents[σ.ents.length]? =some (.loop tm sl (M,assign,body) j.1 j.2)∧Xk x=some j∧Q x ⟨σ.slots,s.ents.set σ.ents.length .dead,σ.base⟩):AB P (.rangeFunc g M assign body) σ Q:=by
 refine⟨fun ro hr C ok H a w m=>?_⟩;obtain rfl:ro=none:=hr.resolve_right (by simp[PE]);have hv:=hg C ok H a w m;generalize hav:a.eval g=v at hv;cases hv with
 |fn _ _ _ vs us hl1 hl2 h1 h2=>
  obtain rfl:vs= #[]:=cO (by simpa using hl1);refine wpIn_rangeFunc ?_;intro fnm _;obtain⟨I,Z⟩:∃I:Loop,I={ state:=.ready,pending:=none,fn:=fnm,tmps:=a.tmps,params:=M,assign,body,defers:=w.heap.size }:=⟨_,rfl⟩
  obtain⟨q,z⟩:∃q,(w.alloc (.deferred (some []))).alloc (.loop I)=q:=⟨_,rfl⟩
  have hsz:q.heap.size=w.heap.size+2:=by rw[←z];simp
  have hL:q.heap[w.heap.size+1]? =some (.loop I):=by
   rw[←z];have :=l7 (w.alloc (.deferred (some []))) (.loop I);rwa [aK7]at this
  have hD:q.heap[w.heap.size]? =some (.deferred (some [])):=by
   rw[←z];exact(Ju _ _ _ BP).trans (l7 w _)
  have hold:∀b,b<w.heap.size→q.heap[b]? =w.heap[b]? :=fun b u=>by
   rw[←z];exact(Ju _ _ _ E5).trans (Ju _ _ _ u)
  have hos:q.os=w.os∧q.tape=w.tape∧q.output=w.output:=by rw[←z];exact⟨rfl,rfl,rfl⟩
  obtain⟨hd,hhd⟩:∃hd:Bj,hd=⟨.func (.yield (w.heap.size+1)) #[] #[],0⟩:=⟨_,rfl⟩
  have O:hd.v=.func (.yield (w.heap.size+1)) #[] #[]:=by rw[hhd]
  have hgr:EU ok w (fun b=>ok b∨b=w.heap.size) q:=fun b u=>⟨.inl u,hold b (m.mem.kW b u)⟩
  have hHn:(H++[hd])[σ.ents.length]? =some hd:=by rw[←m.mem.hlen];simp
  obtain⟨m2,g2⟩:=m.mem.change (ok':=fun b=>ok b∨b=w.heap.size) (H':=H++[hd]) (es':=σ.ents++[.loop a.tmps σ.slots (M,assign,body) .ready none]) (w':=q) (fun _=>False) hos.1 hos.2.1 hos.2.2 AA (fun b u _=>hold b u) (fun _ h=>h.elim)
   (fun _ h=>.inl h) (fun b u=>u.imp id fun h=>AA) (.push _ _) (by simp[m.mem.hlen]) (fun k e hk he S=>by
    rcases VN he with U|⟨rfl,rfl⟩
    ·left;have hkl:k<H.length:=by rw[m.mem.hlen];exact(FN.1 U).1
     rw[GZ hkl]at S;exact⟨U,S,fun _ _ _ h=>h⟩
    right;rw[hHn]at S;obtain rfl:=Cx S;refine⟨⟨w.heap.size+1,fnm,w.heap.size,O,by rw[hL,Z],m.size,fun t ht=>(m.slot t ht).mono hgr (.push _ _)⟩,fun _ b u=>?_⟩;rw[aA1 O]at u;obtain rfl:=Cx u;refine⟨fun hx=>?_,AA,.inl (by have :=m.mem.fr.size;omega),fun k' e' h' hne U hl' J hb'=>?_⟩
    ·rcases hx with hx|hx
     ·have :=m.mem.kW _ hx;omega
     omega
    rcases VN U with he2|⟨rfl,_⟩
    ·have hkl:k'<H.length:=by rw[m.mem.hlen];exact(FN.1 he2).1
     rw[GZ hkl]at J;have :=(m.mem.blk k' e' h' _ he2 hl' J hb').2.1;omega
    exact hne rfl)
  have hargs:∀t,t<((.mp σ.ents.length::f)++List.replicate (fn.ntmps-(f.length+1)) .junk:List Ag).length→
   R (fun b=>ok b∨b=w.heap.size) q (H++[hd]) (((.mp σ.ents.length::f)++List.replicate (fn.ntmps-(f.length+1)) .junk:List Ag).getD t .junk)
     (((#[.func (.yield (w.heap.size+1)) #[] #[]]++us)++Array.replicate (fn.ntmps-(#[.func (.yield (w.heap.size+1)) #[] #[]]++us:Array Value).size) undef:Array Value).getD t undef):=by
   intro t ht;by_cases h0:t<f.length+1
   ·have q1:((.mp σ.ents.length::f)++List.replicate (fn.ntmps-(f.length+1)) .junk:List Ag).getD t .junk=(.mp σ.ents.length::f:List Ag).getD t .junk:=by
     simp only[List.getD];rw[GZ (by simpa using h0)]
    have q2:((#[.func (.yield (w.heap.size+1)) #[] #[]]++us)++Array.replicate (fn.ntmps-(#[.func (.yield (w.heap.size+1)) #[] #[]]++us:Array Value).size) undef:Array Value).getD t undef=(#[.func (.yield (w.heap.size+1)) #[] #[]]++us:Array Value).getD t undef:=by
     simp only[Gx];rw[Ym E5]
    rw[q1,q2];cases t with
    |zero=>
     have q3:(#[.func (.yield (w.heap.size+1)) #[] #[]]++us:Array Value).getD 0 undef=.func (.yield (w.heap.size+1)) #[] #[]:=by
      simp only[Gx];rw[Ym BP];rfl
     rw[q3];exact .mp _ _ 0 rfl (by rw[hHn,hhd])
    |succ t=>
     have q3:(#[.func (.yield (w.heap.size+1)) #[] #[]]++us:Array Value).getD (t+1) undef=us.getD t undef:=by
      simp only[Gx];rw[aMg BP];rfl
     rw[q3];simpa using(h2 t AA).mono hgr (.push _ _)
   have q1:((.mp σ.ents.length::f)++List.replicate (fn.ntmps-(f.length+1)) .junk:List Ag).getD t .junk=.junk:=by
    simp only[List.getD];rw[Jh E5,aHo];split<;>rfl
   rw[q1];exact .junk _
  have hin:Holds (EW.now q (fun b=>ok b∨b=w.heap.size) (σ.ents++[.loop a.tmps σ.slots (M,assign,body) .ready none]) (H++[hd])) (fun b=>ok b∨b=w.heap.size) (H++[hd])
   ⟨(.mp σ.ents.length::f)++List.replicate (fn.ntmps-(f.length+1)) .junk,σ.ents++[.loop a.tmps σ.slots (M,assign,body) .ready none],σ.ents.length+1⟩
   { tmps:=(#[.func (.yield (w.heap.size+1)) #[] #[]]++us)++Array.replicate (fn.ntmps-(#[.func (.yield (w.heap.size+1)) #[] #[]]++us:Array Value).size) undef,defers:=[] } q:=
   ⟨m2.inner,by simp[hl2];omega,.nil _ _ _,by simp[EW.now,m.mem.hlen],hargs⟩
  refine⟨w.heap.size+1,[{ target:=.collected w.heap.size,args:= #[] }],q,{ target:=.fn (.func gf) us,args:= #[.func (.yield (w.heap.size+1)) #[] #[]] },q,gf, #[.func (.yield (w.heap.size+1)) #[] #[]]++us,q,?_,?_,fun _ _=>trivial,?_,fun h=>He,?_⟩
  ·rw[←z,Z];exact run_enterLoop_outer _ _ _ _ _
  ·have e9:a.eval (.const (.func (.yield (w.heap.size+1)) #[] #[]))=.func (.yield (w.heap.size+1)) #[] #[]:=rfl;simp[resolve,hav,Deferred.ofValue,e9]
  ·have :=TF he (#[.func (.yield (w.heap.size+1)) #[] #[]]++us) q;simpa[invoke]using this
  refine aL8 hf u trivial (UQ ((h a.tmps).run none (.inl rfl) _ _ _ _ _ hin) ?_) rfl;rintro e a' w' ⟨ok',H',s,J,hee,sl,j,x,hs,Y,hQ⟩;obtain⟨Ds,hDs,hnd,hds⟩:=J.defers
  have key:LeavesInM (J6 none) 0 P fn a'.tmps (rangePost (J6 none) 0 P (w.heap.size+1) (fun e a' w'=>∃ok' H' σ',Holds C ok' H' σ' a' w'∧Q e σ') { a with defers:=[{ target:=.collected w.heap.size,args:= #[] }]++a.defers }) a'.defers .returning w':=by
   rw[hDs];refine aKA (P:=P) (C:=EW.now q (fun b=>ok b∨b=w.heap.size) (σ.ents++[.loop a.tmps σ.slots (M,assign,body) .ready none]) (H++[hd])) m2.kW (fun ok3 a3 w3 h3=>?_) Ds J hds hnd;refine⟨.tuple #[],by simp[results,hres],?_⟩;obtain⟨g3,n3,m3⟩:=m2.outer h3.mem;have hk3:=n3 _ hd hHn;obtain⟨l3,fn3,D3,r1,r2,r3,r4⟩:=h3.mem.ent _ _ hd hs hk3;have hll:l3=w.heap.size+1:=by rw[O]at r1;cases r1;rfl
   subst hll
   have hnb:j.1≠ .busy:=by
    cases x<;>simp[Xk]at Y<;>rw[←Y]<;>simp
   obtain⟨m4,g4⟩:=m3.akb (o:=.loop { state:=.exhausted,pending:=j.2,fn:=fn3,tmps:=a.tmps,params:=M,assign:=assign,body:=body,defers:=D3 }) (e':=.dead) hs rfl hk3 (aA1 O) (fun _=>trivial);have L:=(g2.trans g3).trans g4
   have n:Holds C ok3 H' ⟨σ.slots,s.ents.set σ.ents.length .dead,σ.base⟩ { a with defers:=[{ target:=.collected w.heap.size,args:= #[] }]++a.defers }
    (w3.putObj (w.heap.size+1) (.loop { state:=.exhausted,pending:=j.2,fn:=fn3,tmps:=a.tmps,params:=M,assign:=assign,body:=body,defers:=D3 })):=by
    refine⟨m4,m.size,?_,m.base,fun t ht=>(m.slot t ht).mono L ((Names.push _ _).trans n3)⟩;obtain⟨Es,q1,q2,q3⟩:=m.defers.mono L;obtain⟨Fs,p1,p2,p3⟩:=m.defers
    have hEF:Es=Fs:=by
     have :=q1.symm.trans p1;exact(List.map_inj_right (fun a b h=>Jc)).1 this
    subst hEF;refine⟨w.heap.size::Es,by simp[q1],NM.2 ⟨fun hm=>?_,q2⟩,fun D hDm=>?_⟩
    ·have :=m.mem.kW _ (p3 _ hm).1;omega
    rcases F9.1 hDm with rfl|hDm
    ·have hok2:(fun b=>ok b∨b=w.heap.size) w.heap.size:=.inr rfl;have q4:=(g3.trans g4) _ hok2;exact⟨q4.1,m.mem.fr.size,q4.2.trans hD⟩
    exact q3 D hDm
   refine⟨j.2,_,run_endLoop r2 hnb,?_⟩;cases x with
   |normal=>simp[Xk]at Y;rw[←Y]at n ⊢;exact⟨_,_,_,n,hQ⟩
   |ret=>simp[Xk]at Y;rw[←Y]at n ⊢;exact wpIn_ret ⟨_,_,_,n,hQ⟩
   |exit i=>simp[Xk]at Y;rw[←Y]at n ⊢;exact wpIn_exit ⟨_,_,_,n,hQ⟩
   |_=>cases Y
  rcases hee with rfl|rfl
  ·exact key
  exact key
def AB.rangeFunc {Q:Exit→BI→Prop} {g:Operand} {n:Array Tmp} {assign body c:Code} {q:FuncId} {fn:Func} (f:List Ag) (u:σ.get g=.fn (.func q) [] f) (z:P.funcs[q]? =some fn) (I:Dw P q=true) (J:fn.body=some c) (m:fn.results= #[])
 (h:∀tm,AB P c ⟨(.mp σ.ents.length::f)++List.replicate (fn.ntmps-(f.length+1)) .junk,σ.ents++[.loop tm σ.slots (n,assign,body) .ready none],σ.ents.length+1⟩ fun e s=>(e=.normal∨e=.ret)∧
  ∃sl j x,s.ents[σ.ents.length]? =some (.loop tm sl (n,assign,body) j.1 j.2)∧Xk x=some j∧Q x ⟨σ.slots,s.ents.set σ.ents.length .dead,σ.base⟩):AB P (.rangeFunc g n assign body) σ Q:=
 AB.ay2 f (fun _ _ _ _ _ L=>u▸L.get g) z I J m h
def AB.ani {Q:Exit→BI→Prop} {g:Operand} {m:Array Tmp} {assign body c:Code} {n:FuncId} {fn:Func} (cs:List D) (q:σ.get g=.d (.fn (.func n) [] cs)) (u:P.funcs[n]? =some fn) (z:Dw P n=true) (I:fn.body=some c) (f:fn.results= #[])
 (h:∀tm,AB P c ⟨(.mp σ.ents.length::cs.map .d)++List.replicate (fn.ntmps-((cs.map Ag.d).length+1)) .junk,σ.ents++[.loop tm σ.slots (m,assign,body) .ready none],σ.ents.length+1⟩ fun e s=>(e=.normal∨e=.ret)∧
  ∃sl j x,s.ents[σ.ents.length]? =some (.loop tm sl (m,assign,body) j.1 j.2)∧Xk x=some j∧Q x ⟨σ.slots,s.ents.set σ.ents.length .dead,σ.base⟩):AB P (.rangeFunc g m assign body) σ Q:=
 AB.ay2 (cs.map .d) (fun _ _ _ _ _ J=>R.dfn (q▸J.get g)) u z I f h
end
def apg :Code→Nat→Code
 | .seq a b,i=>if i=0 then a else b
 | .cond _ a b,i=>if i=0 then a else b
 | .block _ a,_=>a
 | .loop a,_=>a
 | .scope a,_=>a
 | .rangeFunc _ _ a b,i=>if i=0 then a else b
 |c,_=>c
def aCK (c:Option Code) (p:List Nat):Array Tmp×Code×Code:=
 match p.foldl apg (c.getD .skip)with
 | .rangeFunc _ f a b=>(f,a,b)
 |_=>(#[],.skip,.skip)
section
variable {K V : Type} [BEq K]
def Cb :List (K×V)→K→Option V
 | [],_=>none
 |p::l,k=>bif k==p.1 then some p.2 else Cb l k
def Df :List (K×V)→K→V→List (K×V)
 | [],k,v=>[(k,v)]
 |p::l,k,v=>bif k==p.1 then(k,v)::l else p::Df l k v
def BL (ek:K→Value) (ev:V→D) (p:K×V):Value×D:=(ek p.1,ev p.2)
structure KeyTy (P:Program) (t:TypeId) (ek:K→Value):Prop where
 same:∃kd,P.underlying t=some kd∧∀a b,Instr.sameNow kd (ek a) (ek b)=some (a==b)
 check:∀e a w,(Instr.checkKey e 10000 t (ek a)).run P w=.ok () w
 eq:∀a b:K,(a==b)=true→a=b
 bits:∀a,Instr.sameBits 10000 (ek a) (ek a)=true
def as6 {P:Program} {t:TypeId} {k:IntKind} (h:P.underlying t=some (.int k)):KeyTy P t (fun n:Int=>Value.int k n):=by
 refine⟨⟨_,h,fun a b=>by simp[Instr.sameNow]⟩,fun e a w=>?_,fun a b h=>Jc,fun a=>?_⟩
 ·have :∀n,(Instr.checkKey e (n+1) t (.int k a)).run P w=.ok () w:=fun n=>by simp[Instr.checkKey,underlying,h]
  exact this 9999
 unfold Instr.sameBits;simp
def aEK {ek:K→Value} {kd:TypeDesc} (n:∀a b,Instr.sameNow kd (ek a) (ek b)=some (a==b)) (k:K) (v:V):∀(m:List (K×V)) (l:List MapEntry) (i:Nat),l.map (·.key)=m.map (fun p=>ek p.1)→
 (Instr.findNow kd (ek k) l i=some none∧Cb m k=none∧Df m k v=m++[(k,v)])∨
 ∃j e p,Instr.findNow kd (ek k) l i=some (some (i+j,e.val))∧l[j]? =some e∧m[j]? =some p∧Cb m k=some p.2∧(k==p.1)=true∧Df m k v=m.set j (k,v)
 | [],[],_,_=>.inl ⟨rfl,rfl,rfl⟩
 | [],_::_,_,h=>Hr
 |_::_,[],_,h=>Hr
 |p::m,e::l,i,h=>by
  simp only[Ld,aLc]at h;cases f:(k==p.1)with
  |true=>
   refine .inr ⟨0,e,p,?_,rfl,rfl,?_,f,?_⟩
   ·simp[Instr.findNow,h.1,n,f]
   ·simp[Cb,f]
   simp[Df,f]
  |false=>
   rcases aEK n k v m l (i+1) h.2 with⟨q,s,u⟩|⟨j,e',z,q,s,u,I,J,L⟩
   ·refine .inl ⟨?_,?_,?_⟩
    ·simp[Instr.findNow,h.1,n,f,q]
    ·simp[Cb,f,s]
    simp[Df,f,u]
   refine .inr ⟨j+1,e',z,?_,Pg,RF,?_,J,?_⟩
   ·simp[Instr.findNow,h.1,n,f,q];omega
   ·simp[Cb,f,I]
   simp[Df,f,L]
end
section
variable {ok : Nat → Prop} {w : World} {es : List (Value × D)} {ms : Array MapEntry} {clock : Nat}
def KI.push (h:KI ok w es ms clock) {k v:Value} {x:D} (J:Dz ok w x v):KI ok w (es++[(k,x)]) (ms.push { key:=k,val:=v,born:=clock }) (clock+1):=by
 have f:∀(i:Nat) (m:MapEntry),(ms.push { key:=k,val:=v,born:=clock })[i]? =some m→ms[i]? =some m∨(i=ms.size∧m={ key:=k,val:=v,born:=clock }):=fun i m q=>by
  rw[Array.getElem?_push]at q;split at q
  ·rename_i e;exact .inr ⟨e,(Cx q).symm⟩
  exact .inl q
 refine⟨by simp[h.len],fun i e m u q=>?_,fun i j m n z q L=>?_⟩
 ·rcases f i m q with s|⟨rfl,rfl⟩
  ·have hi:i<es.length:=by rw[←h.len];exact(Fv.1 s).1
   rw[GZ hi]at u;obtain⟨M,O,S⟩:=h.ent i e m u s;exact⟨M,O,Nat.lt_succ_of_lt S⟩
  rw[h.len]at u;simp at u;subst u;exact⟨rfl,J,Xr _⟩
 rcases f i m q with s|⟨rfl,rfl⟩<;>rcases f j n L with I|⟨rfl,rfl⟩
 ·exact h.inc i j m n z s I
 ·have hi:i<es.length:=by rw[←h.len];exact(Fv.1 s).1
  exact(h.ent i es[i] m QY s).2.2
 ·have :=(Fv.1 I).1;omega
 omega
def KI.modify (h:KI ok w es ms clock) {k v:Value} {x:D} (U:Dz ok w x v) (j:Nat):KI ok w (es.set j (k,x)) (ms.modify j fun e=>{ e with key:=k,val:=v }) clock:=by
 have f:∀(i:Nat) (m:MapEntry),(ms.modify j fun e=>{ e with key:=k,val:=v })[i]? =some m→∃s,ms[i]? =some s∧m.born=s.born∧(i≠j→m=s)∧(i=j→m.key=k∧m.val=v):=fun i m u=>by
  rw[QJ]at u;split at u
  ·rename_i e;rw[UU]at u;obtain⟨s,z,rfl⟩:=u;exact⟨s,z,rfl,fun q=>absurd e.symm q,fun _=>⟨rfl,rfl⟩⟩
  rename_i e;exact⟨m,u,rfl,fun _=>rfl,fun q=>absurd q.symm e⟩
 refine⟨by simp[h.len],fun i e m I u=>?_,fun i O m n J u Y=>?_⟩
 ·obtain⟨s,z,L,Z,S⟩:=f i m u;have hi:i<es.length:=by rw[←h.len];exact(Fv.1 z).1
  obtain⟨q1,q2,q3⟩:=h.ent i es[i] s QY z;by_cases M:i=j
  ·subst M;simp[hi]at I;subst I;exact⟨(S rfl).1,by rw[(S rfl).2];exact U,by rw[L];exact q3⟩
  rw[bZ (fun q=>M q.symm)]at I;rw[Z M];exact h.ent i e s I z
 obtain⟨s,z,L,_⟩:=f i m u;obtain⟨n0,g1,g2,_⟩:=f O n Y;rw[L,g2];exact h.inc i O s n0 J z g1
def KI.mono {ok':Nat→Prop} {w':World} (h:KI ok w es ms clock) (n:EU ok w ok' w'):KI ok' w' es ms clock:=⟨h.len,fun i e m f j=>⟨(h.ent i e m f j).1,(h.ent i e m f j).2.1.mono n,(h.ent i e m f j).2.2⟩,h.inc⟩
def KI.keys (h:KI ok w es ms clock):ms.toList.map (·.key)=es.map (·.1):=by
 apply eY
 ·simp[h.len]
 intro i f j;simp at f j;have :=(h.ent i es[i] ms[i] (by simp[j]) Wh).1;simpa using this
end
def Zm :Value→D
 | .agg vs=>.agg (vs.toList.map Oj)
 |v=>Oj v
def adb {ok:Nat→Prop} {w:World} {z:Value} (h:z.cells.all (·.oneCell')=true):Dz ok w (Zm z) z:=by
 unfold Zm;split
 ·rename_i vs;refine .agg _ vs BP (fun i hi=>?_) (fun i hi=>?_)
  ·simp at hi;have e:(vs.toList.map Oj).getD i Dn=Oj vs[i]:=MX
   rw[e];exact rY ((QI.1 h) _ (by simp[Value.cells]))
  simp at hi;have e:(vs.toList.map Oj).getD i Dn=Oj vs[i]:=MX
  have f:vs.getD i undef=vs[i]:=by simp[Array.getD,hi]
  rw[e,f];exact jC _
 exact jC _
section
variable {P : Program} {o : Oper} {es : List BN} {K V : Type} [BEq K]
def UD {ok:Nat→Prop} {w:World} {H:List Bj} {k:Nat} {v:Value} {h:Bj} (j:R ok w H (.mp k) v) (m:H[k]? =some h):v=h.v:=by
 cases j with
 |mp _ _ s n f=>
  rw[m]at f;cases f;rfl
def mX {t:TypeId} (q:o.op=.makeMap t none):Bl P o [] es (.mp es.length) (es++[.map []]):=
 .eff fun C ok H a w f J=>by
  have h:Eo ok (w.alloc (.map #[] 0)) (H++[⟨.map (some w.heap.size),0⟩]) ⟨.map (some w.heap.size),0⟩ (.map []):=
   ⟨w.heap.size, #[],0,rfl,(aK2 w _).1,⟨rfl,fun i e m s=>oN,fun i j m n _ f=>UJ⟩⟩
  obtain⟨u,z⟩:=f.push (.map #[] 0) ⟨.map (some w.heap.size),0⟩ _ (fun b h=>aJi) h;refine⟨.map (some w.heap.size),_,ok,_,.inl ?_,z,Names.push _ _,u,.mp _ _ 0 rfl aBS⟩;have I:(newObj (.map #[] 0)).run P w=.ok w.heap.size (w.alloc (.map #[] 0)):=rfl;simp[execOp,q,Instr.makeMap,I]
def asT {t k e:TypeId} {x:Operand} {kd:IntKind} {n:Int} (s:P.underlying t=some (.map k e)) (u:o.op=.makeMap t (some x)):Bl P o [(x,.d (.lit (.int kd n)))] es (.mp es.length) (es++[.map []]):=
 .eff fun C ok H a w f z=>by
  have h:Eo ok (w.alloc (.map #[] 0)) (H++[⟨.map (some w.heap.size),0⟩]) ⟨.map (some w.heap.size),0⟩ (.map []):=
   ⟨w.heap.size, #[],0,rfl,(aK2 w _).1,⟨rfl,fun i e m I=>by simp at I,fun i j m n _ f=>UJ⟩⟩
  obtain⟨J,L⟩:=f.push (.map #[] 0) ⟨.map (some w.heap.size),0⟩ _ (fun b h=>aJi) h;have q:=(Kt z).lit;simp only at q;refine⟨.map (some w.heap.size),_,ok,_,.inl ?_,L,Names.push _ _,J,.mp _ _ 0 rfl aBS⟩;have M:(newObj (.map #[] 0)).run P w=.ok w.heap.size (w.alloc (.map #[] 0)):=rfl;simp[execOp,u,Instr.makeMap,M,q,asInt,asIntOf,underlying,s]
def aJy {t M O:TypeId} {ek:K→Value} (ev:V→D) {q:V} {z:Value} {m:List (K×V)} {key:K} {ok:Nat→Prop} {w:World} {b:Nat} {ms:Array MapEntry} {clock:Nat} (S:P.underlying t=some (.map M O)) (U:KeyTy P M ek) (hz:(P.info? O).bind (·.zero)=some z) (s:Zm z=ev q)
 (u:z.cells.all (·.oneCell')=true) (Y:w.heap[b]? =some (.map ms clock)) (Z:KI ok w (m.map (BL ek ev)) ms clock) (c:Bool):
 ∃v,(Instr.lookup t (.map (some b)) (ek key) c).run P w=.ok (if c then .tuple #[v,.bool (Cb m key).isSome]else v) w∧Dz ok w (ev ((Cb m key).getD q)) v:=by
 obtain⟨kd,f,hs⟩:=U.same;have I:ms.toList.map (·.key)=m.map (fun p=>ek p.1):=by rw[Z.keys];simp[BL,pK]
 have h:=U.check;obtain⟨i,hi,J⟩:=gW.1 hz;rcases aEK (i:=0) hs key q m ms.toList I with⟨L,n,_⟩|⟨j,e,p,L,n,h3,h4,_⟩
 ·refine⟨z,?_,?_⟩
  ·rw[n];simp[Instr.lookup,underlying,S,RU Y,h,Instr.findKey,f,L,zeroValue,typeInfo,hi,J]
  rw[n];have :=adb (ok:=ok) (w:=w) u;rw[s]at this;exact this
 refine⟨e.val,?_,?_⟩
 ·rw[h4];simp[Instr.lookup,underlying,S,RU Y,h,Instr.findKey,f,L]
 rw[h4];have h5:(m.map (BL ek ev))[j]? =some (BL ek ev p):=by rw[JZ,h3];rfl
 exact(Z.ent j _ e h5 Nk).2.1
def YG {t q s:TypeId} {x y:Operand} {k:Nat} {ek:K→Value} (ev:V→D) (u:V) {z:Value} {m:List (K×V)} {key:K} (M:P.underlying t=some (.map q s)) (O:KeyTy P q ek) (S:(P.info? s).bind (·.zero)=some z) (h:Zm z=ev u) (j:z.cells.all (·.oneCell')=true)
 (U:es[k]? =some (.map (m.map (BL ek ev)))) (Y:o.op=.lookup t x y false):Bl P o [(x,.mp k),(y,.d (.lit (ek key)))] es (.d (ev ((Cb m key).getD u))) es:=
 .pure fun ok H a w f Z I=>by
  obtain⟨hd,hh,n⟩:=GU f Z U;obtain⟨b,ms,clock,h1,h2,h3⟩:=n;have J:=UD (El I).1 hh;have L:=(El I).2.lit;simp only at J L;obtain⟨v,hr,hv⟩:=aJy (key:=key) ev M O S h j h2 h3 false;refine⟨v,?_,.d _ _ hv⟩;simp[execOp,Y,J,L,h1,hr]
def aDh {t q s:TypeId} {x y:Operand} {k:Nat} {ek:K→Value} (ev:V→D) (u:V) {z:Value} {m:List (K×V)} {key:K} (M:P.underlying t=some (.map q s)) (O:KeyTy P q ek) (S:(P.info? s).bind (·.zero)=some z) (h:Zm z=ev u) (j:z.cells.all (·.oneCell')=true)
 (U:es[k]? =some (.map (m.map (BL ek ev)))) (Y:o.op=.lookup t x y true):Bl P o [(x,.mp k),(y,.d (.lit (ek key)))] es (.gy [.d (ev ((Cb m key).getD u)),.d (D7 (Cb m key).isSome)]) es:=
 .pure fun ok H a w f Z I=>by
  obtain⟨hd,hh,n⟩:=GU f Z U;obtain⟨b,ms,clock,h1,h2,h3⟩:=n;have J:=UD (El I).1 hh;have L:=(El I).2.lit;simp only at J L;obtain⟨v,hr,hv⟩:=aJy (key:=key) ev M O S h j h2 h3 true;refine⟨.tuple #[v,.bool (Cb m key).isSome],?_,.gy _ _ rfl fun i hi=>?_⟩
  ·simp[execOp,Y,J,L,h1,hr]
  match i,hi with
  |0,_=>exact .d _ _ hv
  |1,_=>exact .d _ _ (.lit _)
def aHs {C:EW} {ok:Nat→Prop} {H:List Bj} {w:World} (q:DI C ok H es w) {k:Nat} {es0 j:List (Value×D)} {b clock f:Nat} {ms h:Array MapEntry} {hd:Bj} (s:es[k]? =some (.map es0)) (u:H[k]? =some hd) (m:hd.v=.map (some b)) (n:w.heap[b]? =some (.map ms clock))
 (z:KI ok w j h f):(setObj b (.map h f)).run P w=.ok () (w.putObj b (.map h f))∧DI C ok H (es.set k (.map j)) (w.putObj b (.map h f))∧EU ok w ok (w.putObj b (.map h f)):=by
 refine⟨by simp[setObj,Sem.run,n,World.putObj],q.akb s rfl u (by rw[m];rfl) fun I=>⟨b,h,f,m,W9 (Fv.1 n).1,z.mono I⟩⟩
def ZM {t kt vt:TypeId} {x y u:Operand} {k:Nat} {ek:K→Value} (ev:V→D) {m:List (K×V)} {key:K} {val:V} (ht:P.underlying t=some (.map kt vt)) (s:KeyTy P kt ek) (M:es[k]? =some (.map (m.map (BL ek ev)))) (ho:o.op=.mapUpdate t x y u):
 Bl P o [(x,.mp k),(y,.d (.lit (ek key))),(u,.d (ev val))] es .junk (es.set k (.map ((Df m key val).map (BL ek ev)))):=
 .eff fun C ok H a w z O=>by
  obtain⟨hd,S,U⟩:=GU z.ent z.hlen M;obtain⟨b,ms,clock,I,J,L⟩:=U;have Y:=UD (O (x,.mp k) BP) S;have Z:=(O (y,.d (.lit (ek key))) BP).lit;have hu:Dz ok w (ev val) (a.eval u):=by have :=O (u,.d (ev val)) BP;cases this with |d _ _ h=>exact h
  simp only at Y Z;obtain⟨kd,f,hs⟩:=s.same;have hks:ms.toList.map (·.key)=m.map (fun p=>ek p.1):=by rw[L.keys];simp[BL,pK]
  have n:=s.check;rcases aEK (i:=0) hs key val m ms.toList hks with⟨q1,_,q3⟩|⟨j,e,p,q1,q2,q3,_,q5,q6⟩
  ·have hM:=L.push (k:=ek key) hu;obtain⟨r1,r2,r3⟩:=aHs (P:=P) z M S I J hM;refine⟨undef,_,ok,H,.inr ⟨rfl,?_⟩,r3,.refl _,?_,.junk _⟩
   ·simp[execOp,ho,Y,Z,I,Instr.mapUpdate,underlying,ht,RU J,n,Instr.findKey,f,q1,r1]
   rw[q3,Jv];exact r2
  have hM:=L.modify (k:=ek key) hu j;obtain⟨r1,r2,r3⟩:=aHs (P:=P) z M S I J hM
  have q:e.key=ek key:=by
   have h5:(m.map (BL ek ev))[j]? =some (BL ek ev p):=by rw[JZ,q3];rfl
   rw[(L.ent j _ e h5 uZ).1,s.eq _ _ q5];rfl
  have hst:∀w,(Instr.keyThatStays (ek key) (ek key)).run P w=.ok (ek key) w:=fun w=>by simp[Instr.keyThatStays,s.bits]
  have hms:ms[j]? =some e:=uZ
  refine⟨undef,_,ok,H,.inr ⟨rfl,?_⟩,r3,.refl _,?_,.junk _⟩
  ·simp[execOp,ho,Y,Z,I,Instr.mapUpdate,underlying,ht,RU J,n,Instr.findKey,f,q1,hms,q,hst,r1]
  rw[q6,aCj];exact r2
def aSb {t J L:TypeId} {x:Operand} {k:Nat} {es0:List (Value×D)} (M:P.underlying t=some (.map J L)) (h:es[k]? =some (.map es0)) (O:o.op=.call { callee:=.builtin .clear,args:= #[x],argTypes:= #[t] }):
 Bl P o [(x,.mp k)] es .junk (es.set k (.map [])):=
 .eff fun C ok H a w f S=>by
  obtain⟨hd,s,q⟩:=GU f.ent f.hlen h;obtain⟨b,ms,clock,u,z,h3⟩:=q;have I:=UD (S (x,.mp k) BP) s;simp only at I;have U:KI ok w [] #[] clock:=⟨rfl,fun i e m h=>Hr,fun i j m n _ f=>UJ⟩
  obtain⟨Y,Z,r3⟩:=aHs (P:=P) f h s u z U;refine⟨.tuple #[],_,ok,H,.inl ?_,r3,.refl _,Z,.junk _⟩;simp[execOp,O,resolve,invoke,builtin,Builtin.clear_,I,u,underlying,M,RU z,Y]
def akC {t m q:TypeId} {x:Operand} {k:Nat} {es0:List (Value×D)} {n:Nat} (s:es0.length=n) (u:P.underlying t=some (.map m q)) (z:es[k]? =some (.map es0)) (I:o.op=.call { callee:=.builtin .len,args:= #[x],argTypes:= #[t] }):
 Bl P o [(x,.mp k)] es (.d (AY n)) es:=
 .pure fun ok H a w f hlen J=>by
  obtain⟨hd,L,h⟩:=GU f hlen z;obtain⟨b,ms,clock,M,O,S⟩:=h;have j:=UD (J (x,.mp k) BP) L;simp only at j;refine⟨goInt es0.length,?_,by rw[s];exact .d _ _ (.lit _)⟩;simp[execOp,I,resolve,invoke,builtin,Builtin.len_,j,M,underlying,u,RU O,S.len]
end
def aT5 {ok:Nat→Prop} {w:World} {H:List Bj} {xs ys:List Ag} {vs us:List Value} (h:Gf ok w H xs vs) (k:Gf ok w H ys us):Gf ok w H (xs++ys) (vs++us):=by
 refine⟨by rw[ES,ES,h.1,k.1],fun i hi=>?_⟩;by_cases f:i<xs.length
 ·have j:(xs++ys).getD i .junk=xs.getD i .junk:=by simp[List.getD,GZ f]
  have m:(vs++us).getD i undef=vs.getD i undef:=by simp[List.getD,GZ (by rw[h.1];exact f:i<vs.length)]
  rw[j,m];exact h.2 i f
 have n:i-xs.length<ys.length:=aLE
 have j:(xs++ys).getD i .junk=ys.getD (i-xs.length) .junk:=by simp[List.getD,Jh (Tz f)]
 have m:(vs++us).getD i undef=us.getD (i-xs.length) undef:=by simp[List.getD,Jh (by rw[h.1];omega:vs.length≤i),h.1]
 rw[j,m];exact k.2 _ n
def DI.aB6 {C:EW} {ok:Nat→Prop} {H:List Bj} {es:List BN} {w w':World} (f:DI C ok H es w) {v':Value} {size:Nat} {e:BN} (q:w.grownBy w' none) (s:∀g,Dq v'=some g→w.heap.size≤g∧g<w'.heap.size)
 (Z:EU ok w ok w'→Eo ok w' (H++[⟨v',size⟩]) ⟨v',size⟩ e):DI C ok (H++[⟨v',size⟩]) (es++[e]) w'∧EU ok w ok w':=by
 have g0:EU ok w ok w':=fun b s=>⟨s,q.block b (f.kW b s) BP⟩
 refine f.change (fun _=>False) q.os q.tape q.output q.size (fun b s _=>q.block b s BP) (fun _ h=>h.elim) (fun _ h=>h) (fun _ h=>.inl h) (Names.push _ _) (by simp[f.hlen]) ?_;intro k e' h' I m;rcases VN I with z|⟨z,h2⟩
 ·left;refine⟨z,?_,fun _ _ _ h=>h⟩;have J:k<H.length:=by rw[f.hlen];exact(FN.1 z).1
  rwa [GZ J]at m
 subst h2;have J:k=H.length:=by rw[f.hlen];exact z
 subst J;simp at m;subst m;refine .inr ⟨Z g0,fun _ b L=>?_⟩;obtain⟨q1,q2⟩:=s b L;refine⟨fun n=>absurd (f.kW _ n) AA,q2,.inl (Ei f.fr.size q1),fun k' M O S U hl j u=>?_⟩;rcases VN U with n|⟨n,_⟩
 ·have Y:k'<H.length:=by rw[f.hlen];exact(FN.1 n).1
  rw[GZ Y]at j;exact absurd (f.blk k' M O _ n hl j u).2.1 AA
 rw[←f.hlen]at n;exact S n
section
variable {P : Program} {o : Oper} {es es' : List BN}
def Bl.thaw {ns:List (Operand×Ag)} {k e s:Nat} {xs:List D} (h:Bl P o ns es (.aO k) es') (u:es'[k]? =some (.arr e s xs)):Bl P o ns es (.d (.sl xs)) (es'.set k .dead):=by
 intro C ok H a w Q z I;refine Oper.wp_mono ?_ (h C ok H a w Q z I);rintro a' w' ⟨v,ok',H',rfl,J,j,f,L⟩
 have m:Holds (EW.now w' ok' es' H') ok' H' ⟨[.aO k],es',H'.length⟩ { tmps:= #[v],defers:=[] } w':=⟨f.inner,rfl,.nil _ _ _,rfl,fun t M=>by
  match t,M with
  |0,_=>exact L⟩
 obtain⟨n,q⟩:=JU k u _ _ _ _ _ m;obtain⟨O,_,S⟩:=f.outer q.mem;refine⟨v,n,H',rfl,J.trans O,j,S,?_⟩;have :=q.slot 0 (by simp[BI.thaw]);simpa[BI.thaw,Ag.thaw]using this
def Dz.aE3 {ok:Nat→Prop} {w:World} {xs:List D} {ad:Option Addr} {n cap f:Nat} (h:Dz ok w (.sl xs) (.slice ad n cap)) (s:xs.length≤f):Dz ok w (.sl xs) (.slice ad n f):=by
 cases h with
 |sl0 _ _=>exact .sl0 _ _
 |sl _ b off _ size q m u z I j=>exact .sl xs b off f size s m u z I j
def adN {t e:TypeId} {agg:Bool} {size n cap m:Nat} {ad:Option Addr} {w:World} (h:P.underlying t=some (.slice e)) (j:EF P e agg size) (f:m≤cap):
 (Instr.slice t (.slice ad n cap) none (some (.int .i64 m)) (some (.int .i64 m))).run P w=.ok (.slice (if m=0 then ad else ad.map (·.add 0)) m m) w:=by
 have q:(underlying t).run P w=.ok (.slice e) w:=aI3
 have s:((m:Int)≤(cap:Int)):=Int.ofNat_le.2 f;simp[Instr.slice,q,Instr.sliceBounds,Instr.sliceBound,asIntOf,s,f,j.size]
def aJl {α:Type} {t e:TypeId} {agg:Bool} {size:Nat} {x y z:Operand} {h:Int} (enc:α→D) {xs r:List α} (hr:HY xs 0 h=some r) (U:P.underlying t=some (.slice e)) (hT:EF P e agg size) (hc:∀a,(enc a).cells.length=size)
 (ho:o.op=.slice t x none (some y) (some z)):Bl P o [(x,.d (BD enc xs)),(y,.d (AY h)),(z,.d (AY h))] es (.clip (r.map enc)) es:=
 .pure fun ok H a w _ _ L=>by
  obtain⟨⟨_,h1,h2⟩,rfl⟩:=adz hr;have M:=L (x,.d (BD enc xs)) BP;have J:=(L (y,.d (AY h)) BP).lit;have Y:=(L (z,.d (AY h)) BP).lit;simp only at M J Y;generalize Z:a.eval x=v at M;have s:Dz ok w (.sl (xs.map enc)) v:=by cases M with |d _ _ h=>exact h
  have u:∃ad cap,v=.slice ad (xs.map enc).length cap∧(xs.map enc).length≤cap:=by
   generalize hys:xs.map enc=ys at s;cases s with
   |sl0 ad cap=>exact⟨ad,cap,rfl,Eh _⟩
   |sl _ b off cap size f=>exact⟨_,cap,rfl,f⟩
  obtain⟨ad,cap,rfl,f⟩:=u
  have hlen:(List.map enc ((xs.drop 0).take (h.toNat-0))).length=h.toNat:=by
   rw[D8,GH,xX];omega
  have q:=adN (P:=P) (n:=xs.length) (ad:=ad) (w:=w) U hT (m:=h.toNat) (cap:=cap) (by rw[D8]at f;omega);have O:((h.toNat:Nat):Int)=h:=AA
  rw[O]at q;refine⟨.slice (if h.toNat=0 then ad else ad.map (·.add 0)) h.toNat h.toNat,?_,?_⟩
  ·rw[D8]at Z;simp only[execOp,ho,Option.map_none,Ie,Z,J,Y,Instr.sliceAt];have hu:(underlying t).run P w=.ok (.slice e) w:=by simp[underlying,U]
   simp only[FB,xP,G6,hu,q,FK]
  have hD:Dz ok w (.sl (List.map enc ((xs.drop 0).take (h.toNat-0)))) (.slice (if h.toNat=0 then ad else ad.map (·.add 0)) (List.map enc ((xs.drop 0).take (h.toNat-0))).length (List.map enc ((xs.drop 0).take (h.toNat-0))).length):=by
   by_cases I:h.toNat=0
   ·have e0:List.map enc ((xs.drop 0).take (h.toNat-0))=[]:=H9 (by rw[hlen,I]);rw[e0];exact .sl0 _ _
   have j:=aa9 (l:=0) (h:=h.toNat) s (size:=size) (fun y J=>by obtain⟨b,_,rfl⟩:=GV.1 J;exact hc b) (Eh _) E5;have S:cap≠0:=by rw[D8]at f;omega
   rw[DN S]at j;rw[DN I,hlen];rw[←eS,←cD]at j;simp only[Nat.zero_mul,Nat.sub_zero]at j ⊢;exact j.aE3 (by rw[D8,GH,xX];omega)
  have :=R.clip (H:=H) _ _ hD;rw[hlen]at this;exact this
def adr {t e e':TypeId} {agg:Bool} {size k s:Nat} {x y z:Operand} {xs:List D} {h:Int} (Y:h=(xs.length:Int)) (Z:es[k]? =some (.arr e' s xs)) (O:P.underlying t=some (.slice e)) (hT:EF P e agg size)
 (ho:o.op=.slice t x none (some y) (some z)):Bl P o [(x,.aO k),(y,.d (AY h)),(z,.d (AY h))] es (.xu k) es:=
 .pure fun ok H a w q hl J=>by
  obtain⟨hd,u,L⟩:=GU q hl Z;have M:=Qi (J (x,.aO k) BP) u;have S:=(J (y,.d (AY h)) BP).lit;have U:=(J (z,.d (AY h)) BP).lit;simp only at M S U;obtain⟨_,_,zs,⟨_,f⟩,_⟩:=L;obtain⟨v,Bc⟩:=hd;simp only at f M;subst Y
  have key:∃ad cap,v=.slice ad xs.length cap∧xs.length≤cap∧ad.map (·.add 0)=ad:=by
   rcases f with⟨rfl,I⟩|⟨g,cap,_,rfl,_,_,I,_⟩
   ·exact⟨none,0,by rw[I],AA,rfl⟩
   exact⟨_,cap,rfl,I,by simp[Addr.add]⟩
  obtain⟨ad,cap,rfl,I,h2⟩:=key;have j:=adN (P:=P) (n:=xs.length) (ad:=ad) (w:=w) O hT (m:=xs.length) (cap:=cap) I;have hi:(if xs.length=0 then ad else ad.map (·.add 0))=ad:=by split<;>simp[h2]
  rw[hi]at j;refine⟨.slice ad xs.length xs.length,?_,.xu k ad _ cap Bc u⟩;simp only[execOp,ho,Option.map_none,Ie,M,S,U,Instr.sliceAt];have hu:(underlying t).run P w=.ok (.slice e) w:=by simp[underlying,O]
  simp only[FB,xP,G6,hu,j,FK]
def alh {C:EW} {ok:Nat→Prop} {H:List Bj} {w:World} (Z:DI C ok H es w) {t ty e:TypeId} {size j k:Nat} {xs ys:List D} (hE:G8 P t e size j) (hk:es[k]? =some (.arr e size xs))
 {v x:Value} (hv:R ok w H (.xu k) v) {m:List Value} (I:Xz w x ys.length size m) (u:Gf ok w H (flat ys) m) (hys:∀y∈ys,y.cells.length=size) (hb:(xs.length+ys.length)*j≤140737488355328) (hn:xs.length+ys.length≤maxLen):
 ∃v' w' H',(Builtin.append_ #[t,t] ty #[v,x]).run P w=.ok v' w'∧EU ok w ok w'∧Names H H'∧DI C ok H' (es.set k .dead++[.arr e size (xs++ys)]) w'∧R ok w' H' (.aO es.length) v':=by
 obtain⟨h,hh,hok⟩:=GU Z.ent Z.hlen hk;obtain⟨h1,h2,zs,f,hrs⟩:=hok
 have key:qF w e size v xs.length zs∧Dq v=Dq h.v:=by
  cases hv with
  |xu _ ad n cap s J=>
   rw[hh]at J;obtain rfl:=Cx J;rcases f.2 with⟨L,q2⟩|⟨g,cap',cur,L,q2,q3,q4,q5,q6,q7⟩
   ·simp only[fF]at L;obtain⟨rfl,rfl,rfl⟩:=L;exact⟨⟨f.1,.inl ⟨rfl,q2⟩⟩,rfl⟩
   simp only[fF]at L;obtain⟨rfl,rfl,rfl⟩:=L;exact⟨⟨f.1,.inr ⟨g,xs.length,cur,rfl,q2,q3,EG _,Ei q4 q5,Ei (Lc _ q4) q6,q7⟩⟩,rfl⟩
 obtain⟨q,M⟩:=key;obtain⟨v',w',hr,z,O,S⟩:=adI (P:=P) (ty:=ty) hE q I hb hn
 obtain⟨h3,h4⟩:=Z.turn (h':=⟨v',size⟩) (e:=.arr e size (xs++ys)) hk rfl hh O.os O.tape O.output O.size (fun c hc hne=>O.block c hc (by rw[aOW q,M];exact fun e=>hne e.symm)) (fun g U=>⟨zQ z U,(S g U).imp (fun h=>M▸h) id⟩) (fun Y=>by
  refine⟨rfl,fun y hy=>?_,zs++m,mG,?_⟩
  ·rcases Ia.1 hy with h|h
   ·exact h2 y h
   exact hys y h
  have a1:=hrs.mono Y (Names.push H [⟨v',size⟩]);have a2:=u.mono Y (Names.push H [⟨v',size⟩]);rw[aEz]
  exact aT5 a1 a2)
 refine⟨v',w',_,hr,h4,Names.push _ _,h3,?_⟩;have J:(H++[(⟨v',size⟩:Bj)])[es.length]? =some ⟨v',size⟩:=by rw[←Z.hlen];simp
 rcases z.2 with⟨rfl,_⟩|⟨g',c',_,rfl,_⟩
 ·exact .aO _ _ _ _ size J
 exact .aO _ _ _ _ size J
def aQj {α:Type} {s x:Operand} {t e:TypeId} {size f k:Nat} (enc:α→D) {l m r:List α} (h:CY f l m=some r) (hE:G8 P t e size f) (S:es[k]? =some (.arr e size (l.map enc))) (U:∀a,(enc a).cells.length=size) (Y:0<f)
 (Z:o.op=.call { callee:=.builtin .append,args:= #[s,x],argTypes:= #[t,t] }):
 Bl P o [(s,.xu k),(x,.d (BD enc m))] es (.aO es.length) (es.set k .dead++[.arr e size (r.map enc)]):=by
 obtain⟨rfl,I⟩:=yQ h;refine .eff fun C ok H a w hm j=>?_;have J:=(El j).1;have L:=(El j).2;simp only at J L;have u:Dz ok w (.sl (m.map enc)) (a.eval x):=by cases L with |d _ _ h=>exact h
 have n:∀y∈m.map enc,y.cells.length=size:=fun y hy=>by obtain⟨a,_,rfl⟩:=GV.1 hy;exact U a
 obtain⟨M,q,z⟩:=Yp H u n;obtain⟨v',w',H',hr,r1,r2,O,r4⟩:=alh (ty:=o.type) hm hE S J q z n aCw (by simpa using aFh Y I);rw[←Jv]at O;refine⟨v',w',ok,H',.inl ?_,r1,r2,O,r4⟩;simp[execOp,Z,resolve,invoke,builtin,hr]
def aPJ {ok:Nat→Prop} {w:World} {H:List Bj} {t ty e:TypeId} {size h:Nat} (hE:G8 P t e size h) {xs ys:List D} {v x:Value} (hv:R ok w H (.clip xs) v) (M:∀y∈xs,y.cells.length=size) {j:List Value} (m:Xz w x ys.length size j) (hpos:0<ys.length)
 (O:(xs.length+ys.length)*h≤140737488355328) (S:xs.length+ys.length≤maxLen):
 ∃f v' w',Gf ok w H (flat xs) f∧(Builtin.append_ #[t,t] ty #[v,x]).run P w=.ok v' w'∧w'.ownsRow w.heap.size e size v' (xs.length+ys.length) (f++j)∧w.grownBy w' none:=by
 obtain⟨i,z,hi,hz,hs,q,s⟩:=hE.info;cases hv with
 |clip _ ad hD=>
  obtain⟨f,U,u⟩:=Yp H hD M;rcases m.at_ with⟨I,c,rfl,n⟩|⟨c,rfl,h0⟩
  ·rcases U.at_ with⟨Y,c2,J,L⟩|⟨c2,J,L⟩
   ·simp only[fF]at J;obtain⟨rfl,_,rfl⟩:=J;obtain⟨v',w',Z,r2,r3⟩:=run_append_arg_grows (P:=P) w t ty e i z size h hE.und hi hz hs q s hE.pos Y xs.length xs.length f U.len L I ys.length c j m.len n AA S O;exact⟨f,v',w',u,Z,r2,r3⟩
   simp only[fF]at J;obtain⟨rfl,_,_⟩:=J;have hx:f=[]:=H9 (by rw[U.len,L];simp);subst hx;rw[L]at S O ⊢;obtain⟨v',w',Z,r2,r3,_⟩:=run_append_own (P:=P) w w.heap.size t ty e i z size h hE.und hi hz hs q s hE.pos _ 0 [] (aGc w w.heap.size e size) I ys.length c j m.len n m.one S O (EG _);exact⟨[],v',w',u,Z,r2,r3⟩
  omega
def ae3 {ok:Nat→Prop} {w':World} {H:List Bj} {base e size:Nat} {v':Value} {xs ys:List D} {f j:List Value} (h:w'.ownsRow base e size v' (xs.length+ys.length) (f++j)) (q:Gf ok w' H (flat xs) f) (s:Gf ok w' H (flat ys) j) (m:∀y∈xs,y.cells.length=size) (n:∀y∈ys,y.cells.length=size):
 Eo ok w' H ⟨v',size⟩ (.arr e size (xs++ys)):=by
 refine⟨rfl,fun y u=>?_,f++j,?_,?_⟩
 ·rcases Ia.1 u with h|h
  ·exact m y h
  exact n y h
 ·have :=qF.of h;simpa using this
 rw[aEz];exact aT5 q s
def aT8 {w':World} {base e size n:Nat} {v':Value} {j:List Value} (h:w'.ownsRow base e size v' n j):∀g,Dq v'=some g→base≤g∧g<w'.heap.size:=by
 intro g f;rcases h.2 with⟨rfl,_⟩|⟨s,_,_,rfl,m,q,_⟩
 ·simp[Dq]at f
 simp[Dq]at f;subst f;exact⟨m,(Fv.1 q).1⟩
def adU {α:Type} {s x:Operand} {t e:TypeId} {size f:Nat} (enc:α→D) {l m r:List α} (h:CY f l m=some r) (hE:G8 P t e size f) (hc:∀a,(enc a).cells.length=size) (q:0<f)
 (I:o.op=.call { callee:=.builtin .append,args:= #[s,x],argTypes:= #[t,t] }):
 Bl P o [(s,.clip (l.map enc)),(x,.d (BD enc m))] es (.d (BD enc r)) es:=by
 obtain⟨rfl,h2⟩:=yQ h;refine .eff fun C ok H a w hm J=>?_;have Z:=(El J).1;have h3:=(El J).2;simp only at Z h3;have h3':Dz ok w (.sl (m.map enc)) (a.eval x):=by cases h3 with |d _ _ h=>exact h
 have L:∀y∈l.map enc,y.cells.length=size:=fun y hy=>adf
 have M:∀y∈m.map enc,y.cells.length=size:=fun y hy=>adf
 obtain⟨O,j,hrs⟩:=Yp H h3' M;by_cases S:m=[]
 ·subst S;obtain⟨i,z,hi,hz,hs,hby,hzs⟩:=hE.info;have n:O=[]:=H9 (by rw[j.len];simp);subst n;generalize hv:a.eval s=v at Z;generalize hu:a.eval x=u at j;cases Z with
  |clip _ ad hD=>
   refine⟨_,w,ok,H,.inl ?_,.refl _ _,.refl _,hm,.d _ _ (by rw[RZ];exact hD)⟩;have hL:∀w:World,((underlying t).run P w=.ok (.slice e) w):=fun w=>aM3
   rcases j.at_ with⟨ad',c,rfl,_⟩|⟨c,rfl,_⟩
   ·cases ad with
    |none=>simp[execOp,I,resolve,invoke,builtin,hv,hu,Builtin.append_,hL,sizeOf,typeInfo,hi,Builtin.lenOf,Builtin.firstCells,loadCells,loadCellsFrom]
    |some ad=>simp[execOp,I,resolve,invoke,builtin,hv,hu,Builtin.append_,hL,sizeOf,typeInfo,hi,Builtin.lenOf,Builtin.firstCells,loadCells,loadCellsFrom,storeCells]
   cases ad with
   |none=>simp[execOp,I,resolve,invoke,builtin,hv,hu,Builtin.append_,hL,sizeOf,typeInfo,hi,Builtin.lenOf,Builtin.firstCells]
   |some ad=>simp[execOp,I,resolve,invoke,builtin,hv,hu,Builtin.append_,hL,sizeOf,typeInfo,hi,Builtin.lenOf,Builtin.firstCells,storeCells]
 obtain⟨olds,v',w',r0,r1,r2,U⟩:=aPJ (P:=P) (ty:=o.type) hE Z L j (by simpa using l9.2 S) aHD (by simpa using aFh q h2);have Y:=aT8 r2;obtain⟨m1,g1⟩:=hm.change (ok':=fun b=>ok b∨Dq v'=some b) (H':=H) (es':=es) (w':=w') (fun _=>False) U.os U.tape U.output U.size (fun b q _=>U.block b q BP) (fun _ h=>h.elim) (fun _ h=>.inl h) (fun b h=>h.imp id fun h=>Y b h) (.refl _) hm.hlen (fun k e h he hh=>.inl ⟨he,hh,fun _ _ _ h=>h⟩);have g0:EU ok w ok w':=fun b q=>⟨q,(g1 b q).2⟩
 have hE':=ae3 r2 (r0.mono g0 (.refl _)) (hrs.mono g0 (.refl _)) L M;refine⟨v',w',_,H,.inl (by simp[execOp,I,resolve,invoke,builtin,r1]),g1,.refl _,m1,.d _ _ ?_⟩;have :=Zk hE' (ok':=fun b=>ok b∨Dq v'=some b) (fun _ h=>.inl h) (fun _ h=>.inr h)
 rwa [←Jv]at this
def aop {α:Type} {s x:Operand} {t e:TypeId} {size f:Nat} (enc:α→D) {l m r:List α} (h:CY f l m=some r) (z:m≠[]) (hE:G8 P t e size f) (O:∀a,(enc a).cells.length=size) (hb:0<f)
 (ho:o.op=.call { callee:=.builtin .append,args:= #[s,x],argTypes:= #[t,t] }):
 Bl P o [(s,.clip (l.map enc)),(x,.d (BD enc m))] es (.aO es.length) (es++[.arr e size (r.map enc)]):=by
 obtain⟨rfl,S⟩:=yQ h;refine .eff fun C ok H a w U j=>?_;have Y:=(El j).1;have Z:=(El j).2;simp only at Y Z;have I:Dz ok w (.sl (m.map enc)) (a.eval x):=by cases Z with |d _ _ h=>exact h
 have n:∀y∈l.map enc,y.cells.length=size:=fun y J=>by obtain⟨a,_,rfl⟩:=GV.1 J;exact O a
 have q:∀y∈m.map enc,y.cells.length=size:=fun y J=>by obtain⟨a,_,rfl⟩:=GV.1 J;exact O a
 obtain⟨news,u,L⟩:=Yp H I q;obtain⟨olds,v',w',r0,r1,M,r3⟩:=aPJ (P:=P) (ty:=o.type) hE Y n u (by simpa using l9.2 z) ZF (by simpa using aFh hb S)
 obtain⟨m1,g1⟩:=U.aB6 (v':=v') (size:=size) (e:=.arr e size ((l++m).map enc)) r3 (aT8 M) (fun g0=>by
  have :=ae3 M (r0.mono g0 (Names.push H [⟨v',size⟩])) (L.mono g0 (Names.push H [⟨v',size⟩])) n q
  rwa [←Jv]at this)
 refine⟨v',w',ok,_,.inl (by simp[execOp,ho,resolve,invoke,builtin,r1]),g1,Names.push _ _,m1,?_⟩;have hH:(H++[(⟨v',size⟩:Bj)])[es.length]? =some ⟨v',size⟩:=by rw[←U.hlen];simp
 rcases M.2 with⟨rfl,_⟩|⟨g',c',_,rfl,_⟩
 ·exact .aO _ _ _ _ size hH
 exact .aO _ _ _ _ size hH
end
def D.plain:D→Bool
 | .lit _=>true
 | .agg cs=>cs.all fun c=>match c with | .lit _=>true|_=>false
 |_=>false
def aeS {ok ok':Nat→Prop} {w w':World} {H H':List Bj} {xs:List D} {vs:List Value} (s:∀x∈xs,x.plain=true) (h:Gf ok w H (flat xs) vs):Gf ok' w' H' (flat xs) vs:=by
 refine⟨h.1,fun i hi=>⟨(h.2 i hi).1,?_⟩⟩;have q:=(h.2 i hi).2;have m:(flat xs).getD i .junk∈flat xs:=MX
 generalize(flat xs).getD i .junk=y at q m;unfold flat at m;simp only[Vo,GV]at m;obtain⟨x,z,c,n,rfl⟩:=m;have f:=s x z
 have j:∃u,c=.lit u:=by
  cases x with
  |lit u=>simp[D.cells]at n;exact⟨u,n⟩
  |agg cs=>
   simp only[D.cells]at n;simp only[D.plain,EZ]at f;have :=f c n;cases c with
   |lit u=>exact⟨u,rfl⟩
   |_=>simp at this
  |_=>cases f
 obtain⟨u,rfl⟩:=j;rw[q.lit];exact .d _ _ (.lit u)
def aPu {P:Program} {o:Oper} {es:List BN} {f:FuncId} {ops:Array Operand} {eU fV:List Ag} {e s:Nat} {xs:List D} (hr:Ak P f fV [] (.aO 0) [.arr e s xs]) (hp:∀x∈xs,x.plain=true) (ha:Zf es eU fV) (hl:ops.toList.length=eU.length)
 {C:EW} {ok:Nat→Prop} {H:List Bj} {a:Act} {w:World} (L:DI C ok H es w) (hn:∀n∈F8 ops.toList eU,R ok w H n.2 (a.eval n.1)):
 Calls P f (ops.toList.map a.eval).toArray w fun e' w'=>∃v,e'=.returned v∧w.grownBy w' none∧(∀g,Dq v=some g→w.heap.size≤g∧g<w'.heap.size)∧Value.isSlice v=true∧∀M H2,Eo M w' H2 ⟨v,s⟩ (.arr e s xs):=by
 let z:Nat→Prop:=fun b=>b<w.heap.size
 have Y:DI ⟨w,z,[],[]⟩ z [] [] w:=
  ⟨.refl _ _,fun _ h=>h,fun _ h=>.inl h,fun _ h=>h,.refl _,rfl,fun k e h O _=>by simp at O,fun k e h b O=>by simp at O,fun k k' e e' h h' b O=>by simp at O⟩
 refine(hr z [] [] w _ Y (by simp[hl,aJO ha]) (fun i hi=>?_)).mono ?_
 ·obtain⟨op,x,Z,S,m⟩:=aaK hl ha i hi;have J:=hn _ S
  have e1:(ops.toList.map a.eval).toArray.getD i undef=a.eval op:=by
   obtain⟨h1,h2⟩:=FN.1 Z;have h3:i<ops.size:=by simpa using h1
   have h4:ops[i]=op:=aHD
   simp[Array.getD,h3,h4]
  rw[e1];simp only at J;generalize fV.getD i .junk=y at m;generalize a.eval op=u at J;cases x with
  |d x=>
   obtain rfl:=m;cases J with |d _ _ h=>exact .d _ _ (h.mono (fun b q=>⟨L.kW b q,rfl⟩))
  |aO k=>
   obtain⟨e',s,xs,hk,rfl⟩:=m;obtain⟨h,hh,I⟩:=GU L.ent L.hlen hk;obtain rfl:=Qi J hh;exact .d _ _ (Zk I (fun b q=>L.kW b q) (fun b q=>(L.blk k _ h b hk rfl hh q).2.1))
  |_=>exact m.elim
 rintro e' w' ⟨v,ok',H',rfl,j,J⟩;have hg:w.grownBy w' none:=⟨j.fr.os,j.fr.tape,j.fr.output,j.fr.size,fun b q _=>j.fr.block b q BP⟩
 have hl':H'.length=1:=j.hlen
 match H',hl' with
 | [hd],_=>
   obtain rfl:=Qi J (h:=hd) rfl;have I:=j.ent 0 _ hd rfl rfl;have q:=fun b q=>j.blk 0 _ hd b rfl rfl rfl q;obtain⟨q1,q2,zs,q3,q4⟩:=I;obtain⟨v,Bc⟩:=hd;simp only at q1 q q3;subst q1;refine⟨v,rfl,hg,fun g hg'=>?_,?_,fun M H2=>⟨rfl,q2,zs,q3,aeS hp q4⟩⟩
   ·obtain⟨_,r2,U⟩:=q g hg';rcases U with U|U
    ·exact⟨U,r2⟩
    simp at U
   rcases q3.2 with⟨rfl,_⟩|⟨g',c',_,rfl,_⟩<;>rfl
def IL {P:Program} {o:Oper} {es:List BN} {f:FuncId} {ops:Array Operand} {ats:Array TypeId} {eU fV:List Ag} {e s:Nat} {xs:List D} (m:Ak P f fV [] (.aO 0) [.arr e s xs]) (q:∀x∈xs,x.plain=true) (u:Dw P f=true) (ha:Zf es eU fV) (z:ops.toList.length=eU.length)
 (I:o.op=.call { callee:=.value (.func f),args:=ops,argTypes:=ats }):Bl P o (F8 ops.toList eU) es (.aO es.length) (es++[.arr e s xs]):=by
 intro C ok H a w Q h J;unfold Oper.wp;rw[nJ I,TF u,ZQ];have L:ops.map a.eval=(ops.toList.map a.eval).toArray:=zl
 rw[L];refine(aPu (o:=o) m q ha z h J).mono ?_;rintro e' w' ⟨v,rfl,M,O,j,hE⟩;obtain⟨S,U⟩:=h.aB6 (v':=v) (size:=s) (e:=.arr e s xs) M O (fun _=>hE _ _);refine⟨v,ok,_,rfl,U,Names.push _ _,S,?_⟩;have Y:(H++[(⟨v,s⟩:Bj)])[es.length]? =some ⟨v,s⟩:=aDW
 cases v with
 |slice ad n c=>exact .aO _ _ _ _ s Y
 |_=>cases j
def aCP {P:Program} {o:Oper} {es:List BN} {f:FuncId} {ops:Array Operand} {ats:Array TypeId} {eU fV:List Ag} {e s:Nat} {xs:List D} (q:Ak P f fV [] (.aO 0) [.arr e s xs]) (u:∀x∈xs,x.plain=true) (z:Dw P f=true) (ha:Zf es eU fV) (I:ops.toList.length=eU.length)
 (J:o.op=.call { callee:=.value (.func f),args:=ops,argTypes:=ats }):Bl P o (F8 ops.toList eU) es (.d (.sl xs)) es:=by
 intro C ok H a w Q m L;unfold Oper.wp;rw[nJ J,TF z,ZQ];have M:ops.map a.eval=(ops.toList.map a.eval).toArray:=zl
 rw[M];refine(aPu (o:=o) q u ha I m L).mono ?_;rintro e' w' ⟨v,rfl,j,O,S,hE⟩;obtain⟨U,Y⟩:=m.change (ok':=fun b=>ok b∨Dq v=some b) (H':=H) (es':=es) (w':=w') (fun _=>False) j.os j.tape j.output j.size (fun b n _=>j.block b n BP) (fun _ h=>h.elim) (fun _ h=>.inl h) (fun b h=>h.imp id fun h=>O b h) (.refl _) m.hlen (fun k e h Z hh=>.inl ⟨Z,hh,fun _ _ _ h=>h⟩);exact⟨v,_,H,rfl,Y,.refl _,U,.d _ _ (Zk (hE ok H) (fun _ h=>.inl h) (fun _ h=>.inr h))⟩
def axk {F:Fence} {n:Nat} {P:Program} {Q:Exit→Act→World→Prop} {a:Act} {w:World} {c:Code} (h:c.wpIn F n P (Exit.noGoto Q) a w):(Code.scope c).wpIn F n P Q a w:=by
 intro b k cs u z I;have f:(lone (b.atR a (.code (.scope c)::k)) cs w).fenced P F:=fenced_calm z I rfl;have j:step P (lone (b.atR a (.code (.scope c)::k)) cs w)=.next (lone (b.atR a (.code c::.inScope c::k)) cs w):=step_lone_go aav;obtain⟨e,q,s,m,harr⟩:=h b (.inScope c::k) cs u z I;cases e with
 |normal=>exact⟨.normal,q,s,m,.head f j (StepsIn.trans harr (.one (fenced_calm z I rfl) (step_lone_go aav)))⟩
 |exit id=>
  have M:exitTo id (.inScope c::k)=exitTo id k:=by simp[exitTo]
  exact⟨.exit id,q,s,m,fun k' J=>.head f j (harr.1 k' (by rw[M];exact J)),fun L J=>let⟨O,S,U⟩:=harr.2 L (by rw[M];exact J);⟨O,S,.head f j U⟩⟩
 |goto l=>exact m.elim
 |ret=>exact⟨_,q,s,m,.of_steps (.one f j) harr⟩
 |panic Y=>exact⟨_,q,s,m,.of_steps (.one f j) harr⟩
 |outgrown=>exact⟨_,q,s,m,.of_steps (.one f j) harr⟩
def ang (Q:Exit→BI→Prop):Exit→BI→Prop
 | .goto _,_=>False
 |e,σ=>Q e σ
def AB.scope {P:Program} {σ:BI} {Q:Exit→BI→Prop} {c:Code} (h:AB P c σ (ang Q)):AB P (.scope c) σ Q:=⟨fun ro j C ok H a w m=>
 axk (UQ (h.run ro (j.imp id fun h=>h) C ok H a w m) (by
  rintro e a' w' ⟨ok',H',σ',n,f⟩;cases e with
  |goto l=>exact f.elim
  |_=>exact⟨ok',H',σ',n,f⟩))⟩
def aRR (P:Program) (f:FuncId) (args:List Ag) (u:Value):Prop:=
 ∀(ok:Nat→Prop) (X:List Nat) (H:List Bj) (w:World) (h:Array Value),DI ⟨w,ok,X,H⟩ ok H [] w→h.size=args.length→(∀i,i<args.length→R ok w H (args.getD i .junk) (h.getD i undef))→
  Calls P f h w fun e w'=>∃ok' H',e=.panicked [{ v:=u,recovered:=false }]∧DI ⟨w,ok,X,H⟩ ok' H' [] w'
def Ox {Rr:Type} (P:Program) (f:FuncId) (args:List Ag) (r:Except Value Rr) (h:Rr→Ag):Prop:=(∀x,r=.ok x→Ak P f args [] (h x) [])∧∀u,r=.error u→aRR P f args u
def aq8 {Rr:Type} (P:Program) (fn:Func) (r:Except Value Rr) (f:Rr→Ag) (e:Exit) (σ:BI):Prop:=
 (∃x,r=.ok x∧aQp P fn (f x) [] e σ)∨∃u,r=.error u∧e=qj u∧σ.base=0
def ac3 {P:Program} {fn:Func} {Rr:Ending→World→Prop} {C:EW} {m:List PanicEntry} (n:∀b,C.ok0 b→b<C.w0.heap.size) {H:List Bj} {σ:BI}
 (q:∀ok a w,Holds C ok H σ a w→Rr (.panicked m) w) {tmps:Array Value}:∀(Ds:List Nat) {ok:Nat→Prop} {a:Act} {w:World},Holds C ok H σ a w→(∀d∈Ds,ok d∧C.w0.heap.size≤d∧w.heap[d]? =some (.deferred (some [])))→Ds.Nodup→
  LeavesInM (J6 none) 0 P fn tmps Rr (Ds.map fun D=>{ target:=.collected D,args:= #[] }) (.panicking m) w
 | [],ok,a,w,h,_,_=>q ok a w h
 |D::Ds,ok,a,w,h,hd,s=>by
  obtain⟨ok',h',f⟩:=h.take n (fun d j=>hd d (IY _ j)) (hd D (Hy ..)) s;have u:=ac3 (P:=P) (fn:=fn) (tmps:=tmps) n q Ds h' f (NM.1 s).2;exact⟨BP,.inl ⟨D,_,rfl,run_takeDeferred (hd D (Hy ..)).2.2,u⟩⟩
def DI.none {C:EW} {ok:Nat→Prop} {H:List Bj} {es:List BN} {w:World} (j:DI C ok H es w) (m:C.H0=[]):DI C ok [] [] w:=
 ⟨j.fr,j.xU,j.xW,j.kW,by rw[m];exact .refl _,rfl,fun k e h f=>UJ,fun k e h b f=>UJ,fun k k' e e' h h' b f=>UJ⟩
def Ox.aI {Rr:Type} {P:Program} {f:FuncId} {fn:Func} {c:Code} {args:List Ag} {r:Except Value Rr} {q:Rr→Ag} (U:P.funcs[f]? =some fn) (Y:fn.body=some c)
 (h:AB P c (.enter args fn.ntmps []) (aq8 P fn r q)):Ox P f args r q:=by
 refine⟨fun x Z=>Ak.aI U Y (h.mono fun e σ hq=>?_),fun u hu=>?_⟩
 ·rcases hq with⟨x',m,I⟩|⟨u,m,_⟩
  ·rw[Z]at m;cases m;exact I
  rw[Z]at m;cases m
 intro ok X H w j z hs ha;have hH:H=[]:=H9 z.hlen;refine(aDa (ro:=none) (n:=0)).1 (aL8 U Y trivial (UQ (h.run none (.inl rfl) ⟨w,ok,X,H⟩ ok H _ w ?_) ?_) rfl)
 ·refine⟨z,by simp[BI.enter,hs],.nil _ _ _,z.hlen,fun t ht=>?_⟩;simp only[BI.enter];by_cases e:t<args.length
  ·have J:(args++List.replicate (fn.ntmps-args.length) Ag.junk).getD t .junk=args.getD t .junk:=aLy
   have e2:(j++Array.replicate (fn.ntmps-j.size) undef).getD t undef=j.getD t undef:=by
    simp[Gx,Ym (show t<j.size by omega)]
   rw[J,e2];exact ha t e
  have J:(args++List.replicate (fn.ntmps-args.length) Ag.junk).getD t .junk=.junk:=by
   simp only[List.getD,Jh (Tz e),aHo];split<;>rfl
  rw[J];exact .junk _
 rintro e a' w' ⟨ok',H',σ',m,I⟩;rcases I with⟨x,s,_⟩|⟨u',s,rfl,_⟩
 ·rw[hu]at s;cases s
 rw[hu]at s;cases s;obtain⟨Ds,L,M,O⟩:=m.defers;show LeavesInM (J6 none) 0 P fn a'.tmps _ a'.defers (.panicking _) w';rw[L];exact ac3 (P:=P) (C:=⟨w,ok,X,H⟩) z.kW (fun S a2 w2 h4=>⟨S,[],rfl,h4.mem.none hH⟩) Ds m O M
section
variable {P : Program} {ops : Array Oper} {o : Oper} {rest l : List Oper} {σ : BI} {K : Exit → BI → Prop}
def DX.panic {x:Operand} {t:TypeId} {u:Value} (j:o.op=.panic x) (m:σ.get x=.d (.lit (.iface t u))) (n:KP ops σ o.guard=some true) (h:K (qj (.iface t u)) σ):DX P ops (o::rest) σ K:=by
 refine⟨fun ro q Q C ok H a w f s=>?_⟩;show wpListIn (J6 ro) 0 P ops Q (o::(rest++q)) a w;unfold wpListIn;rw[D9 (Pv f (MZ n))];have z:=(m▸f.get x).lit;unfold Oper.wpIn;rw[eB _ _ _ (by rw[j];intro c h;cases h)];have I:(execOp a.eval o).run P w=.halt (.panic (.iface t u)) w:=by simp[execOp,j,z,Instr.panic,goPanic]
 rw[I];exact⟨fun _ _=>trivial,s.2 _ _ _ _ _ _ h f⟩
end
section
variable {P : Program} {ops : Array Oper}
def FH.aDV (N:Nat) {l:List Oper} {σ σ':BI} {rs:List Ag} {ess:List (List BN)} {bs:List Bool} (h:FH P ops l σ rs ess bs σ') (σ0:BI) (r:Nat→Ag) (ev:Nat→List BN) (bar:Nat→Bool):∀i,(∀k:Nat,k<l.length→l[k]? =ops[i+k]?)→i+l.length=N→σ=Ed ops σ0 r ev i→
 (∀(k:Nat) y,rs[k]? =some y→r (i+k)=y)→(∀(k:Nat) y,ess[k]? =some y→ev (i+k)=y)→(∀(k:Nat) y,bs[k]? =some y→bar (i+k)=y)→
 (∀j (o:Oper),i≤j→j<N→ops[j]? =some o→Qq P ops (Ed ops σ0 r ev j) (r j) (ev j) (bar j) o)∧σ'=Ed ops σ0 r ev N:=by
 induction h with
 |nil σ=>
  intro i z s q I _ _;have :i=N:=Pg
  subst this;exact⟨fun j o O u ho=>AA,q⟩
 | @op o rest σ σ' ns x rs ess bs d ho hn hg hd ht k U=>
   intro i z s q I J S;subst hd;have L:ops[i]? =some o:=uT
   have M:r i=x:=aCz
   have m:ev i=σ.ents:=aLw
   obtain⟨Y,Z⟩:=U (i+1) (fun k hk=>yO) Tf (by
    rw[BI.YQ];simp only[Ed,L,M,m];rw[←q]) (fun k y n=>Uy)
    (fun k y n=>qh) (fun k y n=>xC)
   refine⟨fun j o' O u f=>?_,Z⟩;by_cases e:i=j
   ·subst e;rw[L]at f;obtain rfl:=Cx f;exact⟨.inl ⟨ns,by rw[M,m,←q];exact ho,q▸hn,ht,q▸hg⟩,fun _=>Xl⟩
   exact Y j o' AA u f
 | @oe o rest σ σ' ns x es' rs ess bs d E ho hE hn hg hd ht k U=>
   intro i z s q I J S;subst hd;subst hE;have L:ops[i]? =some o:=uT
   have M:r i=x:=aCz
   have m:ev i=es':=by simpa using J 0 es' BP
   have hbr:bar i=true:=by simpa using S 0 true BP
   obtain⟨Y,Z⟩:=U (i+1) (fun k hk=>yO) Tf (by
    simp only[Ed,L,M,m];rw[←q]) (fun k y n=>Uy)
    (fun k y n=>qh) (fun k y n=>xC)
   refine⟨fun j o' O u f=>?_,Z⟩;by_cases e:i=j
   ·subst e;rw[L]at f;obtain rfl:=Cx f;exact⟨.inl ⟨ns,by rw[M,m,←q];exact ho,q▸hn,ht,q▸hg⟩,fun hf=>by rw[hbr]at hf;cases hf⟩
   exact Y j o' AA u f
 | @any o rest σ σ' x rs ess bs d hs hd k U=>
   intro i z s q I J S;subst hd;have L:ops[i]? =some o:=uT
   have M:r i=x:=aCz
   have m:ev i=σ.ents:=aLw
   obtain⟨Y,Z⟩:=U (i+1) (fun k hk=>yO) Tf (by
    rw[BI.YQ];simp only[Ed,L,M,m];rw[←q]) (fun k y n=>Uy)
    (fun k y n=>qh) (fun k y n=>xC)
   refine⟨fun j o' O u f=>?_,Z⟩;by_cases e:i=j
   ·subst e;rw[L]at f;obtain rfl:=Cx f;refine⟨?_,fun _=>Xl⟩;rw[M,m,←q];exact hs.1
   exact Y j o' AA u f
 | @afD o rest σ σ' x E br rs ess bs d hs hd k U=>
   intro i z s q I J S;subst hd;have L:ops[i]? =some o:=uT
   have M:r i=x:=aCz
   have m:ev i=E:=by simpa using J 0 E BP
   have hbr:bar i=br:=by simpa using S 0 br BP
   obtain⟨Y,Z⟩:=U (i+1) (fun k hk=>yO) Tf (by
    simp only[Ed,L,M,m];rw[←q]) (fun k y n=>Uy)
    (fun k y n=>qh) (fun k y n=>xC)
   refine⟨fun j o' O u f=>?_,Z⟩;by_cases e:i=j
   ·subst e;rw[L]at f;obtain rfl:=Cx f;rw[M,m,hbr,←q];exact hs
   exact Y j o' AA u f
 | @skip o rest σ σ' rs ess bs d hg hd k U=>
   intro i z s q I J S;subst hd;have L:ops[i]? =some o:=uT
   have M:r i=.d (.lit undef):=by simpa using I 0 (.d (.lit undef)) BP
   have m:ev i=σ.ents:=aLw
   obtain⟨Y,Z⟩:=U (i+1) (fun k hk=>yO) Tf (by
    rw[BI.YQ];simp only[Ed,L,M,m];rw[←q]) (fun k y n=>Uy)
    (fun k y n=>qh) (fun k y n=>xC)
   refine⟨fun j o' O u f=>?_,Z⟩;by_cases e:i=j
   ·subst e;rw[L]at f;obtain rfl:=Cx f;exact⟨.inr ⟨M,Xl,q▸hg⟩,fun _=>Xl⟩
   exact Y j o' AA u f
def AB.aE4 {id:Nat} {σ σ':BI} {Q:Exit→BI→Prop} {rs:List Ag} {ess:List (List BN)} {bs:List Bool} (N:Nat) (hNs:N+1=ops.size) (hm:P.follows .mixedOrders=true) (Y:(Wj ops&&Vf ops&&UC ops σ.slots.length&&Wu ops)=true) (hbl:bs.length=N) (J:XQ ops (bs++[true])=true)
 (h:FH P ops (ops.toList.take N) σ rs ess bs σ') (hL:∀(ro:Option Nat) (C:EW) (ok:Nat→Prop) (H:List Bj) (a:Act) (w:World),Holds C ok H σ' a w→wpOpIn (J6 ro) 0 P ops (fun e a' w'=>∃ok' H' σ',Holds C ok' H' σ' a' w'∧Q e σ') N (fun a' w'=>∃ok' H' σ',Holds C ok' H' σ' a' w'∧Q .normal σ') a w):AB P (.region id ops true) σ Q:=by
 refine⟨fun ro _ C ok H a w hh=>?_⟩;simp only[DL]at Y;obtain⟨⟨⟨he,hd⟩,hs⟩,hc⟩:=Y;have PI:=aHy he;have hinj:=aOE hd;have Y:=aJh hc
 have Ii:∀(i:Nat) (o:Oper) (d:Tmp),ops[i]? =some o→o.dst=some d→d<σ.slots.length:=by
  intro i o d h1 h2;unfold UC at hs;rw[EZ]at hs;simpa using hs d (aJK h1 h2)
 let r:Nat→Ag:=fun i=>rs.getD i .junk
 let ev:Nat→List BN:=fun i=>ess.getD i []
 let bar:Nat→Bool:=fun i=>(bs++[true]).getD i false
 have hbN:bar N=true:=by simp[bar,List.getD,←hbl]
 obtain⟨IW,hend⟩:=h.aDV N σ r ev bar 0 (fun k hk=>by
  simp only[GH]at hk
  rw[Ol AA];simp) E5 rfl (fun k y hy=>aJ2) (fun k y hy=>aOi) (fun k y hy=>by have :=(FN.1 hy).1;simp only[bar,List.getD,KG,GZ this,hy];rfl)
 let U:Nat→BI:=Ed ops σ r ev
 have hU:∀i,i<ops.size→(U (i+1)).ents=ev i:=by
  intro i hi;have L:ops[i]? =some ops[i]:=QY
  show(Ed ops σ r ev (i+1)).ents=_;simp only[Ed,L];rfl
 have hconst:∀n lo,(∀b,lo≤b→b<lo+n→bar b=false)→lo+n≤N→(U (lo+n)).ents=(U lo).ents:=by
  intro n
  induction n with
  |zero=>intro lo _ _;rfl
  |succ n ih=>
   intro lo u hle;have h1:=ih lo (fun b h1 h2=>u b h1 AA) AA;have hi:lo+n<ops.size:=AA
   have L:ops[lo+n]? =some ops[lo+n]:=QY
   have h2:=(IW (lo+n) _ AA AA L).2 (u (lo+n) AA AA);rw[←O5,hU _ hi,h2];exact h1
 have S:∀lo hi,lo≤hi→hi≤N→(∀b,lo≤b→b<hi→bar b=false)→(U hi).ents=(U lo).ents:=by
  intro lo hi h1 h2 h3;obtain⟨n,rfl⟩:=aMX h1;exact hconst n lo h3 h2
 refine aFB hm ?_
 let I:Array Bool→Act→World→Prop:=fun l a w=>l.size=ops.size∧l.getD N false=false∧∃ok H m,m≤N∧(∀b,bar b=true→b<ops.size→(l.getD b false=true↔b<m))∧DI C ok H (U m).ents w∧a.tmps.size=σ.slots.length∧Marks C ok w a.defers∧
  (∀t,t<σ.slots.length→(∀(j:Nat) (o:Oper),ops[j]? =some o→o.dst=some t→l.getD j false=false)→R ok w H (σ.slots.getD t .junk) (a.tmps.getD t undef))∧
  (∀(i:Nat) (o:Oper) (d:Tmp),ops[i]? =some o→o.dst=some d→l.getD i false=true→R ok w H (r i) (a.tmps.getD d undef))∧
  (∀(j:Nat) (o:Oper),ops[j]? =some o→l.getD j false=true→∀i,GK o i=true→l.getD i false=true)
 let I2:Array Bool→Act→World→Prop:=fun l a w=>I l a w∨(l.size=ops.size∧(Region.ready .any ops l=[]∧∃ok' H' σ',Holds C ok' H' σ' a w∧Q .normal σ'))
 refine aEO I2 (fun l a w h=>h.elim (fun h=>h.1) (fun h=>h.1)) ?_ ?_ ops.size _ _ _ ?_ ?_
 ·rintro l a w (⟨h1,hlN,ok,H,m,LD,aev,hmem0,hsz,hdf,h5,h6,h7⟩|⟨h1,h2,_⟩) i hi
  rotate_left
  ·rw[h2]at hi;simp at hi
  unfold Region.ready at hi;rw[Hf]at hi;obtain⟨hi1,hi2⟩:=hi;have hi':i<ops.size:=aG3
  have L:ops[i]? =some ops[i]:=by simp[hi']
  simp only[DL]at hi2;have PK:=hi2.2;rw[L]at PK;simp only[Ie,OH]at PK;have ahO:=fun e he=>(QI.1 PK) e he
  have M:∀j,GK ops[i] j=true→l.getD j false=true∧j<i:=by
   intro j s;unfold GK at s;rw[Hd]at s;obtain⟨e,hee,s⟩:=s;simp only[DL,H6]at s;have :=ahO e aHf;simp only[s.2,EM,MG]at this;rw[s.1]at this;exact⟨this,s.1▸PI i _ L e hee s.2⟩
  have O:l.getD i false=false:=by
   have h8:=hi2.1;have hil:i<l.size:=AA
   simp[Array.getD,hil]at h8 ⊢;exact h8
  have z:∀(j:Nat) (o:Oper),ops[j]? =some o→l.getD j false=true→∀m,GK o m=true→l.getD m false=true:=fun j o s hl m hm=>h7 j o s hl m hm
  have hmem:DI C ok H (U i).ents w:=by
   have hE:(U i).ents=(U m).ents:=by
    by_cases him:i≤m
    ·refine(S i m him LD (fun b h2 h3=>?_)).symm;rw[←LZ];intro u;have hbl:=(aev b u AA).2 h3;by_cases e:b=i
     ·subst e;rw[O]at hbl;cases hbl
     have hob:ops[b]? =some (ops[b]' AA):=by simp[show b<ops.size by omega]
     have :=Wv J (show b<ops.size by omega) u (D:=fun j=>l.getD j false=true) z (fun o L m hm=>z b o L hbl m hm) i AA;rw[O]at this;cases this
    refine S m i AA AA (fun b h2 h3=>?_);rw[←LZ];intro u;have :=aA8 J (show b<ops.size by omega) u (D:=fun j=>l.getD j false=true) z i h3 _ L (fun m hm=>(M m hm).1);exact absurd ((aev b u AA).1 this) AA
   rw[hE];exact hmem0
  by_cases hiN:i=N
  ·subst hiN;have aB8:∀j,j<i→l.getD j false=true:=fun j s=>Wv J hi' hbN (D:=fun j=>l.getD j false=true) z (fun o Z m hm=>aTO) j s
   have hH:Holds C ok H σ' a w:=by
    subst hend;refine⟨hmem,by rw[VE];exact hsz,hdf,aJt,fun t ht=>?_⟩;rw[VE]at ht;by_cases hw:∃(j:Nat) (o:Oper),ops[j]? =some o∧o.dst=some t
    ·obtain⟨j,o,s,q⟩:=hw;have hjn:j<ops.size:=(Fv.1 s).1;by_cases hji:j<i
     ·rw[Ue hinj s q ht i hji];exact h6 j o t s q (aB8 j hji)
     have hje:j=i:=AA
     subst hje;rw[SS j (fun j' o' hj' Z hd'=>acD)];exact h5 t ht (fun j' o' Z hd'=>by have :=hinj j j' o o' t s Z q hd';subst this;exact hlN)
    have hw':∀(j:Nat) (o:Oper),ops[j]? =some o→o.dst≠some t:=fun j o h1 h2=>hw ⟨j,o,h1,h2⟩;rw[SS i (fun j o _ s=>hw' j o s)];exact h5 t ht (fun j o s q=>absurd q (hw' j o s))
   refine wpOpIn_mono (fun a' w' hx=>.inr ⟨by simp[h1],?_,hx⟩) (hL ro C ok H a w hH);unfold Region.ready;rw[aCt];intro j s;have hjn:j<ops.size:=Pg
   have hdn:(l.setIfInBounds i true).getD j true=true:=by
    by_cases hji:j=i
    ·subst hji;simp[Array.getD,h1,hi']
    have :=aB8 j AA;simp only[Gx,KW (Ne.symm hji)];have hjl:j<l.size:=AA
    simp[Array.getD,hjl]at this;simp[hjl,this]
   rw[hdn];simp
  have hiN:i<N:=AA
  have hread:∀t,t∈tmpsOf ops[i]→R ok w H ((Ed ops σ r ev i).slots.getD t .junk) (a.tmps.getD t undef):=by
   intro t ht;by_cases hw:∃(j:Nat) (o:Oper),ops[j]? =some o∧o.dst=some t
   ·obtain⟨j,o,s,q⟩:=hw;rcases(Y i _ L).1 j o t s q ht with hce|hce
    ·obtain⟨hdj,hji⟩:=M j hce;rw[Ue hinj s q (Ii j o t s q) i hji];exact h6 j o t s q hdj
    have hij:i<j:=by
     unfold GK at hce;rw[Hd]at hce;obtain⟨e,hee,hce⟩:=hce;simp only[DL,H6]at hce;exact hce.1▸PI j _ s e hee hce.2
    rw[SS i (fun j' o' hj' Z hd'=>acD)];refine h5 t (Ii j o t s q) (fun j' o' Z hd'=>?_);have hjj:=hinj j j' o o' t s Z q hd';subst hjj;rw[←LZ];intro hd;rw[h7 j o s hd i hce]at O;cases O
   have hw':∀(j:Nat) (o:Oper),ops[j]? =some o→o.dst≠some t:=fun j o h1 h2=>hw ⟨j,o,h1,h2⟩;rw[SS i (fun j o _ s=>hw' j o s)];by_cases htn:t<σ.slots.length
   ·exact h5 t htn (fun j o s q=>absurd q (hw' j o s))
   rw[jv htn];exact .junk _
  have VF:∀j d v,GK ops[i] j=true→(ops[j]?).bind (·.dst)=some d→(Ed ops σ r ev i).slots.getD d .junk=.d (.lit v)→yielded ops a.tmps j=(match v with | .bool b=>some b|_=>none):=by
   intro j d v s q u;cases hoj:ops[j]? with
   |none=>rw[hoj]at q;simp at q
   |some oj=>
    rw[hoj]at q;simp only[Aa]at q;obtain⟨hdj,hji⟩:=M j s;have hdn:=Ii j oj d hoj q;rw[Ue hinj hoj q hdn i hji]at u;have hv:=(u▸h6 j oj d hoj q hdj).bool
    have hs:a.tmps[d]? =some v:=by
     have :d<a.tmps.size:=by rw[hsz];exact hdn
     simp[Array.getD,this]at hv;simp[this,hv]
    unfold yielded;rw[hoj];simp only[Aa,q,hs];cases v<;>rfl
  have hput:∀(x:Ag) (v:Value) (ok':Nat→Prop) (H':List Bj) (w':World),x=r i→EU ok w ok' w'→Names H H'→DI C ok' H' (ev i) w'→R ok' w' H' x v→I2 (l.setIfInBounds i true) (a.put ops[i].dst v) w':=by
   intro x v ok' H' w' hx hgr hnm hmem' hR;subst hx
   have hother:∀(d t:Nat),ops[i].dst=some d→d≠t→(a.put ops[i].dst v).tmps.getD t undef=a.tmps.getD t undef:=by
    intro d t hd hne;rw[hd];exact aKq hne
   obtain⟨m',am0,aek,am1⟩:∃m',m'≤N∧(∀b,bar b=true→b<ops.size→((l.setIfInBounds i true).getD b false=true↔b<m'))∧DI C ok' H' (U m').ents w':=by
    have hget:∀b,b≠i→(l.setIfInBounds i true).getD b false=l.getD b false:=fun b u=>by
     simp only[Gx,KW (Ne.symm u)]
    have am2:(l.setIfInBounds i true).getD i false=true:=aOR
    cases hbi:bar i with
    |false=>
     refine⟨m,LD,fun b u hbs=>?_,?_⟩
     ·have hne:b≠i:=fun e=>by subst e;rw[hbi]at u;cases u
      rw[hget b hne];exact aev b u hbs
     have h2:=(IW i _ AA hiN L).2 hbi;rw[h2]at hmem'
     have hE:(U i).ents=(U m).ents:=by
      by_cases him:i≤m
      ·refine(S i m him LD (fun b h2 h3=>?_)).symm;rw[←LZ];intro u;have hbl:=(aev b u AA).2 h3;by_cases e:b=i
       ·subst e;rw[O]at hbl;cases hbl
       have :=Wv J (show b<ops.size by omega) u (D:=fun j=>l.getD j false=true) z (fun o L m hm=>z b o L hbl m hm) i AA;rw[O]at this;cases this
      refine S m i AA AA (fun b h2 h3=>?_);rw[←LZ];intro u;have :=aA8 J (show b<ops.size by omega) u (D:=fun j=>l.getD j false=true) z i h3 _ L (fun m hm=>(M m hm).1);exact absurd ((aev b u AA).1 this) AA
     rw[←hE];exact hmem'
    |true=>
     refine⟨i+1,AA,fun b u hbs=>?_,by rw[hU i hi'];exact hmem'⟩;by_cases e:b=i
     ·subst e;rw[am2];simp
     rw[hget b e];constructor
     ·intro hbl;apply Xq;intro hn;have :=Wv J hbs u (D:=fun j=>l.getD j false=true) z (fun o L m hm=>z b o L hbl m hm) i AA;rw[O]at this;cases this
     intro hlt;exact Wv J hi' hbi (D:=fun j=>l.getD j false=true) z (fun o Z m hm=>aTO) b AA
   refine .inl ⟨by simp[h1],by simpa only[Gx,KW (show i≠N by omega)]using hlN,ok',H',m',am0,aek,am1,aHl,aJa,?_,?_,?_⟩
   ·intro t ht hno
    have hne:ops[i].dst≠some t:=by
     intro e;have :=hno i _ L e;simp[Array.getD,h1,hi']at this
    have hold:(a.put ops[i].dst v).tmps.getD t undef=a.tmps.getD t undef:=by
     cases hdi:ops[i].dst with
     |none=>rfl
     |some d=>exact hdi▸hother d t hdi (fun e=>hne (by rw[hdi,e]))
    rw[hold];refine(h5 t ht (fun j o s q=>?_)).mono hgr hnm;have hij:i≠j:=fun e=>by subst e;rw[L]at s;obtain rfl:=Cx s;exact hne q
    have :=hno j o s q;simpa only[Gx,KW hij]using this
   ·intro k o d hk hkd hl;by_cases hik:i=k
    ·subst hik;rw[L]at hk;obtain rfl:=Cx hk;rw[hkd,aN7 (by rw[hsz];exact Ii i _ d L hkd)];exact hR
    have hl':l.getD k false=true:=by
     simp only[Gx,KW hik]at hl ⊢;exact hl
    have :=(h6 k o d hk hkd hl').mono hgr hnm;cases hdst:ops[i].dst with
    |none=>exact this
    |some d'=>
     have hne:d'≠d:=fun e=>hik (hinj i k _ _ d' L hk hdst (e▸hkd));rw[←hdst,hother d' d hdst hne];exact this
   intro j o s hl k hk;have hil:i<l.size:=AA
   by_cases hik:i=k
   ·subst hik;simp[Array.getD,hil]
   have hkk:l.getD k false=true:=by
    by_cases hij:i=j
    ·subst hij;rw[L]at s;obtain rfl:=Cx s;exact(M k hk).1
    have hl':l.getD j false=true:=by
     simp only[Gx,KW hij]at hl ⊢;exact hl
    exact h7 j o s hl' k hk
   simp only[Gx,KW hik]at hkk ⊢;exact hkk
  unfold wpOpIn;rw[L];show if Region.wanted ops[i] (yielded ops a.tmps)=true then _ else _
  rcases(IW i ops[i] AA hiN L).1 with⟨ns,hop,afE,hnt,hg⟩|⟨hx,hev,hg⟩
  ·have hwant:Region.wanted ops[i] (yielded ops a.tmps)=true:=by
    unfold Region.wanted;rcases hg with hg|⟨j,want,d,b,hg,s,u,rfl⟩
    ·rw[hg]
    rw[hg];show(yielded ops a.tmps j==some b)=true;rw[VF j d _ ((Y i _ L).2 j b hg) s u];simp
   rw[D9 hwant];refine Qa ?_ (hop.inR ro C ok H a w _ hmem (fun n hn=>?_))
   ·rintro a' w' ⟨v,ok',H',rfl,hgr,hnn,hm',hx⟩;exact hput _ v ok' H' w' rfl hgr hnn hm' hx
   have hnv:=PG afE n hn;obtain⟨x,y⟩:=n;simp only at hnv ⊢;subst hnv;cases x with
   |tmp t=>
    refine hread t ?_;rw[EZ]at hnt
    have :t∈Nc ns:=by
     unfold Nc;rw[Ti];exact⟨_,hn,rfl⟩
    simpa using hnt t this
   |const v=>exact .d _ _ (.lit v)
   |global g=>exact .d _ _ (.lit _)
   |func f=>exact .d _ _ (.fn (.func f) [] [] #[] #[] rfl rfl (fun i hi=>Nl) (fun i hi=>Nl))
  have hwant:Region.wanted ops[i] (yielded ops a.tmps)=false:=by
   unfold Region.wanted;obtain⟨j,want,d,v,hg,s,u,hv⟩:=hg;rw[hg];show(yielded ops a.tmps j==some want)=false;rw[VF j d _ ((Y i _ L).2 j want hg) s u];rcases hv with rfl|rfl
   ·simp
   rfl
  rw[DN (by rw[hwant];simp)];exact⟨fun _ _=>trivial,hput _ _ ok H w hx.symm (.refl _ _) (.refl _) (by rw[hev];exact hmem) (.d _ _ (.lit _))⟩
 ·rintro l a w (⟨h1,hlN,ok,H,m,LD,aev,hmem,hsz,hdf,h5,h6,h7⟩|⟨h1,_,h2⟩) hr
  rotate_left
  ·exact h2
  have hall:∀n i,i<n→i<ops.size→l.getD i false=true:=by
   intro n
   induction n with
   |zero=>intro i hi;omega
   |succ n ih=>
    intro i hi hi2;by_cases hn:i<n
    ·exact ih i hn hi2
    have hin:i=n:=AA
    subst hin;rw[←aKr];intro hf;have L:ops[i]? =some ops[i]:=by simp[hi2]
    have hmem:i∈Region.ready .any ops l:=by
     unfold Region.ready;rw[Hf];refine⟨by simpa using hi2,?_⟩;have hil:i<l.size:=AA
     have hf':l.getD i true=false:=aEv
     rw[hf',L];simp only[IX,FX,Ie,OH];rw[QI];intro e he;cases hbe:Region.binds .any e with
     |false=>simp
     |true=>
      have hlt:=PI i _ L e qK hbe;rw[ih e.on AA AA];simp
    rw[hr]at hmem;simp at hmem
  have :=hall (N+1) N AA AA;rw[hlN]at this;cases this
 ·unfold toCome;simp
 refine .inl ⟨BP,aAB,ok,H,0,Eh _,fun b u _=>aAB,?_,hh.size,hh.defers.mono (fun b u=>⟨u,rfl⟩),fun t ht _=>?_,fun i o d _ _ hl=>?_,fun j o _ hl=>?_⟩
 ·exact⟨⟨hh.mem.fr.os,hh.mem.fr.tape,hh.mem.fr.output,hh.mem.fr.size,hh.mem.fr.block⟩,hh.mem.xU,hh.mem.xW,hh.mem.kW,hh.mem.names,hh.mem.hlen,fun k e h h1 h2=>(hh.mem.ent k e h h1 h2).drew,hh.mem.blk,hh.mem.DU⟩
 ·exact R.mono (w:=w) (ok:=ok) (w':={ w with drawn:=w.drawn+1 }) (fun b u=>⟨u,rfl⟩) (.refl _) (hh.slot t ht)
 ·simp[Array.getD]at hl
 simp[Array.getD]at hl
def AB.aB9 {id:Nat} {σ σ':BI} {Q:Exit→BI→Prop} {rs:List Ag} {ess:List (List BN)} {bs:List Bool} (N:Nat) (h:FH P ops (ops.toList.take N) σ rs ess bs σ') (u:DX P ops (ops.toList.drop N) σ' Q) (n:N+1=ops.size:=by kernel_rfl) (J:P.follows .mixedOrders=true:=by kernel_rfl) (f:(Wj ops&&Vf ops&&UC ops σ.slots.length&&Wu ops)=true:=by kernel_rfl) (q:bs.length=N:=by kernel_rfl) (j:XQ ops (bs++[true])=true:=by kernel_rfl):AB P (.region id ops true) σ Q:=by
 refine AB.aE4 N n J f q j h fun ro C ok H a w L=>?_;have z:N<ops.size:=AA
 have hd:ops.toList.drop N=[ops[N]]:=by
  rw[LY mG];simp[←n]
 rw[hd]at u;have I:=u.run ro [] (fun e a' w'=>∃ok' H' σ',Holds C ok' H' σ' a' w'∧Q e σ') C ok H a w L ⟨fun σ' ok' H' a' w' s m=>⟨ok',H',σ',m,s⟩,fun v σ' ok' H' a' w' s m=>⟨ok',H',σ',m,s⟩⟩;unfold wpOpIn;have M:ops[N]? =some ops[N]:=by simp[z]
 rw[M];simp only[aN,Hu,wpListIn]at I;exact I
end
section
variable {P : Program} {o : Oper} {es : List BN}
def aFH {t:TypeId} (e s:Nat) (q:(P.info? t).bind (·.zero)=some (.slice none 0 0)) (u:o.op=.alloc t):Bl P o [] es (.ptr (es.length+1) 0) (es++[.arr e s [],.box [.aO es.length]]):=
 .eff fun C ok H a w h O=>by
  obtain⟨n,S⟩:=aJ7 h e s;have f:(H++[(⟨.slice none 0 0,s⟩:Bj)]).length=(es++[BN.arr e s []]).length:=n.hlen;have z:(H++[(⟨.slice none 0 0,s⟩:Bj)])[es.length]? =some ⟨.slice none 0 0,s⟩:=aDW
  have I:Eo ok (w.alloc (.cells #[.slice none 0 0] t)) ((H++[⟨.slice none 0 0,s⟩])++[⟨.pointer (some ⟨w.heap.size,0,none⟩),0⟩]) ⟨.pointer (some ⟨w.heap.size,0,none⟩),0⟩ (.box [.aO es.length]):=by
   refine⟨w.heap.size, #[.slice none 0 0],t,rfl,Y9 w _,rfl,fun i hi=>?_⟩
   match i,hi with
   |0,_=>exact⟨rfl,.aO _ none 0 0 s (by rw[GZ (by simp[h.hlen])];exact z)⟩
  obtain⟨J,L⟩:=n.push (.cells #[.slice none 0 0] t) ⟨.pointer (some ⟨w.heap.size,0,none⟩),0⟩ _ (aE5 w) I;have j:DI C ok ((H++[⟨.slice none 0 0,s⟩])++[⟨.pointer (some ⟨w.heap.size,0,none⟩),0⟩]) (es++[.arr e s [],.box [.aO es.length]]) (w.alloc (.cells #[.slice none 0 0] t)):=by simpa[J7]using J
  refine⟨.pointer (some ⟨w.heap.size,0,none⟩),_,ok,_,.inl ?_,L,(Names.push _ _).trans (Names.push _ _),j,.ptr _ _ w.heap.size 0 ?_⟩
  ·obtain⟨i,hi,m⟩:=gW.1 q;have M:Value.cells (.slice none 0 0)= #[.slice none 0 0]:=rfl;simp[execOp,u,Instr.alloc,zeroValue,typeInfo,hi,m,newVar,newRow,M]
  rw[Jh (by rw[f];simp),f];simp
def aBe {α:Type} {x y:Operand} {t e:TypeId} {k n:Nat} {kd:IntKind} {i:Int} (enc:α→D) {l:List α} {a:α} (h:Aj l i=some a) (hl:l.length=n) (I:P.underlying t=some (.array n e)) (J:EF P e false 1) (L:es[k]? =some (.box (Af (Md enc l)))) (M:o.op=.indexAddr t x y):
 Bl P o [(x,.ptr k 0),(y,.d (.lit (.int kd i)))] es (.ptr k i.toNat) es:=
 .pure fun ok H O w f m u=>by
  obtain⟨S,U⟩:=FT h;obtain⟨hd,hh,_⟩:=GU f m L;have q:=(El u).1;have z:=(El u).2.lit;simp only at q z;have Y:=(FN.1 U).1;have Z:(underlying t).run P w=.ok (.array n e) w:=by simp[underlying,I]
  generalize hv:O.eval x=v at q;cases q with
  |ptr _ _ b s hH=>
   have hb:0≤i∧i<n:=⟨S,AA⟩
   refine⟨.pointer (some ⟨b,i.toNat,none⟩),?_,.ptr k _ b s hH⟩;have j:(⟨b,0,none⟩:Addr).add i.toNat=⟨b,i.toNat,none⟩:=by rw[addr_add,KG]
   simp[execOp,M,hv,z,Instr.indexAt,asIntOf,Z,Instr.sureAddr,hb,J.size w,j]
def aqo {α:Type} {i:Int} {enc:α→D} {l:List α} {a:α} (h:Aj l i=some a):(Af (Md enc l))[i.toNat]? =some (.d (enc a)):=by
 have f:=(FT h).2;simp[Af,Md,D.cells,f]
def aCy {α:Type} {x:Operand} {t:TypeId} {k:Nat} {i:Int} (enc:α→D) {l:List α} {a:α} (h:Aj l i=some a) (f:es[k]? =some (.box (Af (Md enc l)))) (j:EF P t false 1) (m:o.op=.load t x):Bl P o [(x,.ptr k i.toNat)] es (.d (enc a)) es:=aVc f (aqo h) j m
def aT9 {t:TypeId} {x:Operand} {y:D} (f:match P.underlying t with |some (.interface _)=>false|some _=>true|none=>false) (m:o.op=.makeInterface t x):Bl P o [(x,.d y)] es (.d (.PD t y)) es:=
 .pure fun ok H a w _ _ n=>by
  have q:Dz ok w y (a.eval x):=by have :=n (x,.d y) BP;cases this with |d _ _ h=>exact h
  refine⟨.iface t (a.eval x),?_,.d _ _ (.PD t y _ q)⟩;cases j:P.underlying t with
  |none=>rw[j]at f;cases f
  |some d=>
   rw[j]at f;have s:(underlying t).run P w=.ok d w:=by simp[underlying,j]
   cases d<;>first|(cases f;done)|simp[execOp,m,Instr.makeInterface,s]
def aPZ {t:TypeId} {x:Operand} (us:List Value) (f:match P.underlying t with |some (.interface _)=>false|some _=>true|none=>false) (m:o.op=.makeInterface t x):Bl P o [(x,.d (.agg (us.map .lit)))] es (.d (.lit (.iface t (.agg us.toArray)))) es:=
 .pure fun ok H a w _ _ n=>by
  have j:=(n (x,.d (.agg (us.map .lit))) BP).ahT;simp only at j;refine⟨.iface t (.agg us.toArray),?_,.d _ _ (.lit _)⟩;cases h:P.underlying t with
  |none=>rw[h]at f;cases f
  |some d=>
   rw[h]at f;have q:(underlying t).run P w=.ok d w:=aI3
   cases d<;>first|(cases f;done)|simp[execOp,m,Instr.makeInterface,q,j]
def uS (P:Program) (t:TypeId) (h:String) (f:FuncId):Bool:=
 match P.info? t with
 |some i=>(match i.methods.find? (·.name==h)with
  |some m=>m.path.toList.isEmpty&&(match m.func with |some (g,p)=>decide (g=f)&& !p|none=>false)
  |none=>false)&&(match P.underlying t with |some (.pointer _)=>false|some _=>true|none=>false)
 |none=>false
def ald {t:TypeId} {j:String} {f:FuncId} (h:uS P t j f=true) (n:Nat) (v:Value) (w:World):(method (n+1) t v j).run P w=.ok (f,v) w:=by
 unfold uS at h;split at h
 ·rename_i i hi;rw[DL]at h;obtain⟨q,s⟩:=h;split at q
  ·rename_i m I;rw[DL]at q;obtain⟨J,u⟩:=q;split at u
   ·rename_i g p L;simp only[DL,H6,RY]at u;obtain⟨rfl,rfl⟩:=u;have M:m.path.toList=[]:=List.isEmpty_iff.1 J;cases z:P.underlying t with
    |none=>rw[z]at s;cases s
    |some d=>
     rw[z]at s;have O:∀w,(underlying t).run P w=.ok d w:=fun w=>by simp[underlying,z]
     cases d<;>first|(cases s;done)|simp[method,typeInfo,hi,I,M,follow,L,receiverAt,O,Place.get]
   cases u
  cases q
 cases h
def ae2 {f:FuncId} {j:Operand} {s:String} {ops:Array Operand} {ats:Array TypeId} {t:TypeId} (x:D) (m:List D) {q:Ag} (hr:Ak P f ((x::m).map .d) [] q []) (hf:Dw P f=true) (z:uS P t s f=true) (hl:ops.toList.length=m.length) (L:q.up [] es.length=q)
 (ho:o.op=.call { callee:=.invoke j s,args:=ops,argTypes:=ats }):Bl P o ((j,.d (.PD t x))::F8 ops.toList (m.map .d)) es q es:=by
 intro C ok H a w Q hm hn;have S:=hn (j,.d (.PD t x)) BP;simp only at S;have I:=qo (xs:=ops.toList) (vs:=m.map .d) (by simpa using hl) (fun n U=>hn n (IY _ U));generalize hv:a.eval j=v at S;cases S with
 |d _ _ h=>
  cases h with
  |PD _ _ u h1=>
   unfold Oper.wp
   have he:(execOp a.eval o).run P w=.ok (.enter f (#[u]++ops.map a.eval)) w:=by
    have h2:=TF hf (#[u]++ops.map a.eval) w;have J:=ald z (P.types.size+99) u w;have Y:(#[Value.iface t u]++ops.map a.eval)[0]? =some (.iface t u):=by rw[Ym BP];rfl
    have Z:(#[Value.iface t u]++ops.map a.eval).extract 1 (#[Value.iface t u]++ops.map a.eval).size=ops.map a.eval:=by
     apply aN3;rw[Array.toList_extract];simp only[Array.size_append,Array.size_map,List.extract_eq_take_drop,Array.toList_append,fG,Ou];simp;exact Qp BP
    simp only[execOp,ho,resolve,hv,FB,G6,FK,invoke,Y,Z,callMethod];have h6:(program).run P w=.ok P w:=rfl;simp only[h6,FK];have h7:P.types.size+Made.depth=P.types.size+99+1:=rfl;rw[h7,J];exact h2
   rw[he,ZQ];have M:(ops.map a.eval).size=m.length:=by simpa using hl
   refine(aQE hm hr _ (by simp at M;simp[M];omega) (fun i hi=>?_) L).mono ?_
   ·cases i with
    |zero=>
     have e0:(#[u]++ops.map a.eval).getD 0 undef=u:=by simp[Gx,Ym]
     rw[e0];exact h1
    |succ i=>
     have O:i<m.length:=Fp
     have J:=I i aEw;have e1:(m.map Ag.d).getD i .junk=.d (m.getD i Dn):=by simp[List.getD,O]
     have hi2:i<ops.size:=aQ4
     have e2:(#[u]++ops.map a.eval).getD (i+1) undef=(ops.toList.map a.eval).getD i undef:=by
      simp only[Gx,List.getD];rw[aMg BP];simp[hi2]
     rw[e2];rw[e1]at J;have e3:(x::m).getD (i+1) Dn=m.getD i Dn:=BP
     rw[e3];cases J with |d _ _ h=>exact h
   rintro e w' ⟨v,ok',H',rfl,J,Y,Z,h6⟩;exact⟨v,ok',H',rfl,J,Y,Z,h6⟩
end
section
variable {P : Program} {ops : Array Oper} {o : Oper} {rest l : List Oper} {σ : BI} {K : Exit → BI → Prop}
def DX.Du {f:FuncId} {eU:List Ag} {u:Value} (S:aRR P f eU u) (U:Dw P f=true) (h:K (qj u) σ) (s:U4 σ o=some (f,eU):=by kernel_rfl) (hd:eU.all Ag.Ar=true:=by kernel_rfl) (Y:KP ops σ o.guard=some true:=by kernel_rfl):DX P ops (o::rest) σ K:=by
 refine⟨fun ro Z Q C ok H a w j hk=>?_⟩;show wpListIn (J6 ro) 0 P ops Q (o::(rest++Z)) a w;unfold wpListIn;rw[D9 (Pv j (MZ Y))];unfold U4 at s;split at s
 ·rename_i c J;split at s
  ·rename_i f' q;cases s;obtain⟨callee,args,ats⟩:=c;simp only at q;subst q;have n:(execOp a.eval o).run P w=.ok (.enter f (args.map a.eval)) w:=by rw[nJ J,TF U]
   unfold Oper.wpIn;rw[eB _ _ _ (by rw[J];intro c h;cases h),n]
   have I:DI ⟨w,ok,[],[]⟩ ok [] [] w:=
    ⟨.refl _ _,fun _ h=>h,fun _ h=>.inl h,j.mem.kW,.refl _,rfl,fun k e h n=>bM,fun k e h b n=>bM,fun k k' e e' h h' b n=>bM⟩
   have key:Calls P f (args.map a.eval) w fun e w'=>e=.panicked [{ v:=u,recovered:=false }]∧∃ok',Holds C ok' H σ a w':=by
    refine(S ok [] [] w _ I BP (fun i hi=>?_)).mono ?_
    ·have z:i<args.size:=Fp
     have e1:(args.toList.map σ.get).getD i .junk=σ.get args[i]:=by simp[List.getD,z]
     have e2:(args.map a.eval).getD i undef=a.eval args[i]:=by simp[Array.getD,z]
     have L:Ag.Ar (σ.get args[i])=true:=by
      rw[EZ]at hd;exact hd _ (GV.2 ⟨args[i],BP,rfl⟩)
     have M:=j.get args[i];rw[e1,e2];generalize σ.get args[i]=y at L M;cases y with
     |d y=>cases M with |d _ _ h=>exact .d _ _ h
     |_=>cases L
    rintro e w' ⟨ok',H',rfl,m⟩;obtain⟨h1,O⟩:=j.mem.change (ok':=ok) (H':=H) (es':=σ.ents) (w':=w') (fun _=>False) m.fr.os m.fr.tape m.fr.output m.fr.size (fun b hb _=>m.fr.block b hb BP) (fun _ h=>h.elim) (fun _ h=>h) (fun _ h=>.inl h) (.refl _) j.mem.hlen (fun k e h n j=>.inl ⟨n,j,fun _ _ _ h=>h⟩);exact⟨rfl,ok,h1,j.size,j.defers.mono O,j.base,fun t ht=>(j.slot t ht).mono O (.refl _)⟩
   refine⟨fun _ _=>trivial,fun h=>He,aDa.2 (key.mono ?_)⟩;rintro e w' ⟨rfl,ok',h5⟩;exact hk.2 _ _ _ _ _ _ h h5
  cases s
 cases s
end
def LM {α β:Type} (r:Except Value α) (f:α→Option (Except Value β)):Option (Except Value β):=
 match r with
 | .ok a=>f a
 | .error u=>some (.error u)
def as2 (p:Addr) (w:World):
 CallsD Tryz.prog 120 #[.pointer (some p)] .returning w fun e f w'=>e=.returned (.tuple #[])∧f=.returning∧w'=w:=by
 refine aCY Tryz.func120 rfl fun h cs j=>?_;apply PX;apply PV;simp[wpOpsS,go_sem,recoverD,j,Tryz.ntmps120,Exit.thenS];apply PX;apply PV;simp[wpOpsS,go_sem,Exit.thenS];refine kF (t:=false) fZ ?_;simp only[RD,Jq];refine wpS_of_wp (wp_skip ?_);cases h
 simp_all [bodyPostS,results,Tryz.results120]
def afX (b:Nat) (x:Value) (n:Int) (w:World) (u:w.heap[b]? =some (.cells #[x] 68 (0,0))):
 CallsD Tryz.prog 120 #[.pointer (some ⟨b,0,none⟩)] (.panicking [{ v:=.iface 150 (.agg #[.int .i64 n]),recovered:=false }]) w fun e z w'=>
  e=.returned (.tuple #[])∧z=.panicking [{ v:=.iface 150 (.agg #[.int .i64 n]),recovered:=true }]∧w.grownBy w' (some b)∧w'.heap[b]? =some (.cells #[.int .i64 n] 68 (0,0)):=by
 have h:∀(I:TypeId) (w:World),(Instr.typeAssert (.iface 150 (.agg #[.int .i64 n])) I 150 true).run Tryz.prog w=.ok (.tuple #[.agg #[.int .i64 n],.bool true]) w:=fun _ _=>A8
 have J:∀w:World,(Instr.alloc 150 true (.tuple #[])).run Tryz.prog w=.ok (.pointer (some ⟨w.heap.size,0,none⟩)) (w.alloc (.cells #[.int .i64 0] 150)):=fun w=>by
  simp[Instr.alloc,go_sem]
 have hst:∀w:World,(Instr.storeAt 150 (.pointer (some ⟨w.heap.size,0,none⟩)) (.agg #[.int .i64 n])).run Tryz.prog (w.alloc (.cells #[.int .i64 0] 150))=.ok () (w.alloc (.cells #[.int .i64 n] 150)):=fun w=>by
  simp[Instr.storeAt,go_sem]
 refine aCY Tryz.func120 rfl fun O cs L=>?_;apply PX;apply PV;simp[wpOpsS,go_sem,recoverD,L,Tryz.ntmps120,Exit.thenS];apply PX;apply PV;simp[wpOpsS,go_sem,Exit.thenS];refine kF (t:=true) fZ ?_;simp only[Jj];apply PX;apply PV;simp[wpOpsS,execOp,h,J,hst,go_sem,Exit.thenS];apply PX;apply PX;apply PV;simp[wpOpsS,go_sem,Exit.thenS];refine kF (t:=false) fZ ?_;simp only[RD,Jq];refine wpS_of_wp (wp_skip ?_);simp only[Exit.thenS];have j:b<w.heap.size:=(Fv.1 u).1;have f:(w.alloc (.cells #[.int .i64 n] 150)).heap[b]? =some (.cells #[x] 68 (0,0)):=(Ju _ _ _ j).trans u;have M:(w.alloc (.cells #[.int .i64 n] 150)).cell? ⟨b,0,none⟩=some x:=aDn
 have m:(w.alloc (.cells #[.int .i64 n] 150)).frozen? ⟨b,0,none⟩=false:=by simp[World.frozen?,f]
 apply PV;simp[wpOpsS,go_sem,Exit.thenS,M,m,bodyPostS,results,Tryz.results120]
 have key:(w.alloc (.cells #[.int .i64 n] 150)).setCell ⟨b,0,none⟩ (.int .i64 n)=(w.alloc (.cells #[.int .i64 n] 150)).putObj b (.cells #[.int .i64 n] 68 (0,0)):=by
  simp only[World.setCell,World.putObj];congr 1;apply wJ;intro i;rw[QJ,aKB];by_cases e:b=i
  ·subst e;rw[D9 rfl,D9 rfl,f,D9 (Fv.1 f).1];rfl
  rw[DN e,DN e]
 rw[key];have q:b<(w.alloc (.cells #[.int .i64 n] 150)).heap.size:=(Fv.1 f).1;refine⟨⟨rfl,rfl,rfl,BP,fun i hi s=>?_⟩,W9 q⟩;rw[Xw (fun e=>s (by rw[e]))];exact Ju _ _ _ hi
def TV {T:Type}:Except Value T→Option Int
 | .ok _=>some 0
 | .error (.iface t (.agg cs))=>bif t==150 then(match cs.toList with | [.int .i64 n]=>some n|_=>none)else none
 | .error _=>none
def aR0 (b:Nat) (n:Int) (w:World) (f:w.heap[b]? =some (.cells #[.int .i64 n] 68 (0,0))) (tmps:Array Value) (h:tmps.getD 2 undef=.pointer (some ⟨b,0,none⟩)):(results Tryz.f81 tmps).run Tryz.prog w=.ok (.int .i64 n) w:=by
 have j:w.cell? ⟨b,0,none⟩=some (.int .i64 n):=aDn
 have e:results Tryz.f81 tmps=(do let v ←loadVar 68 (←asAddr (tmps.getD 2 undef));pure v):=by simp[results,Tryz.results81]
 rw[e,h];simp[go_sem,j]
def anD {g:FuncId} {us:Array Value} {w:World} {n:Int} (he:∀(vs:Array Value) (w:World),(callFunc g vs).run Tryz.prog w=.ok (.enter g vs) w)
 (z:Calls Tryz.prog g us (w.alloc (.cells #[.int .i64 0] 68 (0,0))) fun e s=>(w.alloc (.cells #[.int .i64 0] 68 (0,0))).grownBy s none∧((∃v,e=.returned v∧n=0)∨e=.panicked [{ v:=.iface 150 (.agg #[.int .i64 n]),recovered:=false }])):
 Calls Tryz.prog 81 #[.func (.func g) #[] us] w fun e w'=>e=.returned (.int .i64 n)∧w.grownBy w' none:=by
 have S:∀(fn:Fn) (first cap:Array Value) (w:World),(Instr.makeFunc fn first cap).run Tryz.prog w=.ok (.func fn first cap) w:=fun _ _ _ _=>rfl;have q:w.grownBy (w.alloc (.cells #[.int .i64 0] 68 (0,0))) none:=⟨rfl,rfl,rfl,BP,fun i hi _=>Ju _ _ _ hi⟩
 go_enter_defers Tryz.func81,Tryz.ntmps81
 apply wp_seq;apply ZH;refine .inl ?_;simp[Oper.wp,go_sem,wpList,Exit.then];apply wp_seq;apply ZH;refine .inl ?_;simp[Oper.wp,go_sem,S,wpList,Exit.then];refine .inl ?_;apply wp_seq;apply ZH;refine .inl ?_;simp[Oper.wp,go_sem,he,wpList,Exit.then];refine .inl (z.mono ?_);rintro e s ⟨J,h⟩;have L:s.heap[w.heap.size]? =some (.cells #[.int .i64 0] 68 (0,0)):=(J.block w.heap.size BP BP).trans (l7 _ _);have M:w.heap.size<s.heap.size:=(Fv.1 L).1;have j:w.grownBy s none:=⟨J.os.trans q.os,J.tape.trans q.tape,J.output.trans q.output,Ei q.size J.size,fun i hi O=>(J.block i E5 O).trans (q.block i hi O)⟩
 have u:∀(U:World) (m:Int),s.grownBy U (some w.heap.size)→w.grownBy U none:=fun U m I=>⟨I.os.trans j.os,I.tape.trans j.tape,I.output.trans j.output,Ei j.size I.size,fun i hi O=>(I.block i (by have :=j.size;omega) E5).trans (j.block i hi O)⟩
 rcases h with⟨v,rfl,rfl⟩|rfl
 ·have hc:s.cell? ⟨w.heap.size,0,none⟩=some (.int .i64 0):=by rw[World.cell?,L];rfl
  have Y:s.frozen? ⟨w.heap.size,0,none⟩=false:=by simp[World.frozen?,L]
  apply wp_seq;apply ZH;refine .inl ?_;simp[Oper.wp,go_sem,hc,Y,wpList,Exit.then];apply wp_ret
  have key:s.setCell ⟨w.heap.size,0,none⟩ (.int .i64 0)=s.putObj w.heap.size (.cells #[.int .i64 0] 68 (0,0)):=by
   simp only[World.setCell,World.putObj];congr 1;apply wJ;intro i;rw[QJ,aKB];by_cases e:w.heap.size=i
   ·subst e;rw[D9 rfl,D9 rfl,L,D9 M];rfl
   rw[DN e,DN e]
  rw[key];refine leaves_cons (f:=120) (args:= #[.pointer (some ⟨w.heap.size,0,none⟩)]) BP aCb ?_;refine(as2 ⟨w.heap.size,0,none⟩ _).mono ?_;rintro e u' Z ⟨rfl,rfl,rfl⟩;refine⟨.int .i64 0,aR0 w.heap.size 0 _ (W9 M) _ rfl,rfl,u _ 0 ⟨rfl,rfl,rfl,BP,fun i hi hne=>Xw (fun e=>hne (by rw[e]))⟩⟩
 refine leaves_cons (f:=120) (args:= #[.pointer (some ⟨w.heap.size,0,none⟩)]) BP aCb ?_;refine(afX w.heap.size (.int .i64 0) n s L).mono ?_;rintro e u' Z ⟨rfl,rfl,I,h4⟩;exact⟨.int .i64 n,aR0 w.heap.size n _ h4 _ rfl,rfl,u _ n I⟩
def aQV {T:Type} {res:T→Ag} (g:FuncId) (f:List D) (r:Except Value T) (hr:Ox Tryz.prog g (f.map .d) r res) (J:Dw Tryz.prog g=true) (n:Int) (q:TV r=some n):
 BA 81 [.d (.fn (.func g) [] f)] [] (.d (AY n)) []:=by
 intro ok X H w z hm hs ha;obtain rfl:H=[]:=H9 hm.hlen;have Z:=ha 0 BP
 obtain⟨fv,rfl⟩:∃fv,z= #[fv]:=by
  have h1:z.size=1:=hs;exact⟨z[0],by apply lG (by simp[h1]);intro i h1 h2;simp at h2;subst h2;rfl⟩
 have Z:R ok w [] (.d (.fn (.func g) [] f)) fv:=Z;cases Z with
 |d _ _ Z=>
 cases Z with
 |fn _ _ _ vs us hl1 hl2 h1 h2=>
 obtain rfl:vs= #[]:=cO (by simpa using hl1);obtain⟨s,O⟩:∃s,s=w.alloc (.cells #[.int .i64 0] 68 (0,0)):=⟨_,rfl⟩
 have hg1:EU ok w ok s:=fun b M=>⟨M,by rw[O];exact Ju _ _ _ (hm.kW b M)⟩
 have hmc:DI ⟨s,ok,[],[]⟩ ok [] [] s:=
  ⟨.refl _ _,fun _ h=>h,fun _ h=>.inl h,fun b M=>by rw[O];simp;exact Nat.lt_succ_of_lt (hm.kW b M),.refl _,rfl,fun k e h J=>Yu,fun k e h b J=>Yu,fun k k' e e' h h' b J=>Yu⟩
 have I:∀i,i<(f.map Ag.d).length→R ok s [] ((f.map Ag.d).getD i .junk) (us.getD i undef):=fun i hi=>by
  rw[D8]at hi;have e1:(f.map Ag.d).getD i .junk=.d (f.getD i Dn):=MX
  rw[e1];exact .d _ _ ((h2 i hi).mono hg1)
 have hgr:∀{S:Nat→Prop} {H2:List Bj} {Y:World},DI ⟨s,ok,[],[]⟩ S H2 [] Y→s.grownBy Y none:=fun j=>⟨j.fr.os,j.fr.tape,j.fr.output,j.fr.size,fun b M _=>j.fr.block b M BP⟩
 have U:Calls Tryz.prog g us s fun e Y=>s.grownBy Y none∧((∃v,e=.returned v∧n=0)∨e=.panicked [{ v:=.iface 150 (.agg #[.int .i64 n]),recovered:=false }]):=by
  cases L:r with
  |ok x=>
   rw[L]at q;refine(hr.1 x L ok [] [] s us hmc (by simpa using hl2) I).mono ?_;rintro e Y ⟨v,S,H2,rfl,j,_⟩;exact⟨hgr j,.inl ⟨v,rfl,(Cx q).symm⟩⟩
  |error u=>
   rw[L]at q
   have hu:u=.iface 150 (.agg #[.int .i64 n]):=by
    unfold TV at q;split at q
    ·rename_i h;cases h
    ·rename_i t cs h;cases h;cases ht:(t==150)with
     |false=>rw[ht]at q;cases q
     |true=>
      rw[ht]at q;simp only[Ba]at q;obtain rfl:t=150:=by simpa using ht
      split at q
      ·rename_i m hcs;obtain rfl:=Cx q;rw[←eM (xs:=cs),hcs]
      cases q
    cases q
   refine(hr.2 u L ok [] [] s us hmc (by simpa using hl2) I).mono ?_;rintro e Y ⟨S,H2,rfl,j⟩;exact⟨hgr j,.inr (by rw[hu])⟩
 subst O;refine(anD (fun vs w=>TF J vs w) U).mono ?_;rintro e w' ⟨rfl,hg⟩;obtain⟨m1,_⟩:=hm.change (ok':=ok) (H':=[]) (es':=[]) (w':=w') (fun _=>False) hg.os hg.tape hg.output hg.size (fun b M _=>hg.block b M BP) (fun _ h=>h.elim) (fun _ h=>h) (fun _ h=>.inl h) (.refl _) rfl (fun k e h J=>Yu);exact⟨_,ok,[],rfl,m1,.d _ _ (.lit _)⟩
def setCell_eq {w:World} {b:Nat} {x y:Value} {t:TypeId} (f:w.heap[b]? =some (.cells #[x] t (0,0))):w.setCell ⟨b,0,none⟩ y=w.putObj b (.cells #[y] t (0,0)):=by
 simp only[World.setCell,World.putObj];congr 1;apply wJ;intro i;rw[QJ,aKB];by_cases e:b=i
 ·subst e;rw[D9 rfl,D9 rfl,f,D9 (Fv.1 f).1];rfl
 rw[DN e,DN e]
def aqM (p q:Addr) (w:World):
 CallsD Tryz.prog 369 #[.pointer (some p),.pointer (some q)] .returning w fun e f w'=>e=.returned (.tuple #[])∧f=.returning∧w'=w:=by
 refine aCY Tryz.func369 rfl fun h cs j=>?_;apply PX;apply PV;simp[wpOpsS,go_sem,recoverD,j,Tryz.ntmps369,Exit.thenS];apply PX;apply PV;simp[wpOpsS,go_sem,Exit.thenS];refine kF (t:=false) fZ ?_;simp only[RD,Jq];refine wpS_of_wp (wp_skip ?_);cases h
 simp_all [bodyPostS,results,Tryz.results369]
def alz (b c:Nat) (ad:Option Addr) (n cap:Nat) (x:Value) (w:World) (L:w.heap[b]? =some (.cells #[.slice ad n cap] 26 (0,0))) (M:w.heap[c]? =some (.cells #[x] 26 (0,0))):
 CallsD Tryz.prog 369 #[.pointer (some ⟨b,0,none⟩),.pointer (some ⟨c,0,none⟩)] (.panicking [{ v:=.iface 317 (.agg #[]),recovered:=false }]) w fun e O w'=>
  e=.returned (.tuple #[])∧O=.panicking [{ v:=.iface 317 (.agg #[]),recovered:=true }]∧w.grownBy w' (some c)∧w'.heap[c]? =some (.cells #[.slice ad n cap] 26 (0,0)):=by
 have h:∀(S:TypeId) (w:World),(Instr.typeAssert (.iface 317 (.agg #[])) S 317 true).run Tryz.prog w=.ok (.tuple #[.agg #[],.bool true]) w:=fun _ _=>A8
 refine aCY Tryz.func369 rfl fun Y cs U=>?_;apply PX;apply PV;simp[wpOpsS,go_sem,recoverD,U,Tryz.ntmps369,Exit.thenS];apply PX;apply PV;simp[wpOpsS,go_sem,Exit.thenS];refine kF (t:=true) fZ ?_;simp only[Jj];apply PX;apply PX;apply PV;simp[wpOpsS,execOp,h,go_sem,Exit.thenS];apply PX;apply PV;simp[wpOpsS,go_sem,Exit.thenS];refine kF (t:=false) fZ ?_;simp only[RD,Jq];refine wpS_of_wp (wp_skip ?_);simp only[Exit.thenS];have j:b<w.heap.size:=(Fv.1 L).1;have m:c<w.heap.size:=(Fv.1 M).1;have q:(w.alloc (.cells #[] 317)).heap[b]? =some (.cells #[.slice ad n cap] 26 (0,0)):=(Ju _ _ _ j).trans L;have f:(w.alloc (.cells #[] 317)).heap[c]? =some (.cells #[x] 26 (0,0)):=(Ju _ _ _ m).trans M;have s:(w.alloc (.cells #[] 317)).cell? ⟨b,0,none⟩=some (.slice ad n cap):=by rw[World.cell?,q];rfl
 have u:(w.alloc (.cells #[] 317)).cell? ⟨c,0,none⟩=some x:=aDn
 have z:(w.alloc (.cells #[] 317)).frozen? ⟨c,0,none⟩=false:=by simp[World.frozen?,f]
 apply PV;simp[wpOpsS,go_sem,Exit.thenS,s,u,z,bodyPostS,results,Tryz.results369];rw[setCell_eq f];have I:c<(w.alloc (.cells #[] 317)).heap.size:=(Fv.1 f).1;refine⟨⟨rfl,rfl,rfl,BP,fun i hi J=>?_⟩,W9 I⟩;rw[Xw (fun e=>J (by rw[e]))];exact Ju _ _ _ hi
def step_fin (b:Nat) (v:Value) (w:World) (f:w.heap[b]? =some (.cells #[v] 26 (0,0))) (tmps:Array Value) (h:tmps.getD 6 undef=.pointer (some ⟨b,0,none⟩)):(results Tryz.f304 tmps).run Tryz.prog w=.ok v w:=by
 have j:w.cell? ⟨b,0,none⟩=some v:=aDn
 have e:results Tryz.f304 tmps=(do let v ←loadVar 26 (←asAddr (tmps.getD 6 undef));pure v):=by simp[results,Tryz.results304]
 rw[e,h];simp[go_sem,j]
def al1 {l id:Value} {ad:Option Addr} {n cap:Nat} {w:World} {Rv:Value→World→Prop} {bad:Prop}
 (u:Calls Tryz.prog 370 #[l,.slice ad n cap,id] ((w.alloc (.cells #[.slice ad n cap] 26 (0,0))).alloc (.cells #[.slice none 0 0] 26 (0,0))) fun e j=>((w.alloc (.cells #[.slice ad n cap] 26 (0,0))).alloc (.cells #[.slice none 0 0] 26 (0,0))).grownBy j none∧((∃I Z m,e=.returned (.slice I Z m)∧Rv (.slice I Z m) j)∨(e=.panicked [{ v:=.iface 317 (.agg #[]),recovered:=false }]∧bad))):
 Calls Tryz.prog 304 #[l,.slice ad n cap,id] w fun e w'=>w.grownBy w' none∧((∃v j,e=.returned v∧Rv v j∧w.grownBy j none∧w.heap.size+1<j.heap.size∧j.grownBy w' (some (w.heap.size+1)))∨(e=.returned (.slice ad n cap)∧bad)):=by
 have hmf:∀(fn:Fn) (first cap:Array Value) (w:World),(Instr.makeFunc fn first cap).run Tryz.prog w=.ok (.func fn first cap) w:=fun _ _ _ _=>rfl;obtain⟨M,q⟩:∃M,M=(w.alloc (.cells #[.slice ad n cap] 26 (0,0))).alloc (.cells #[.slice none 0 0] 26 (0,0)):=⟨_,rfl⟩
 have hs1:M.heap.size=w.heap.size+2:=by rw[q];simp
 have S:M.heap[w.heap.size]? =some (.cells #[.slice ad n cap] 26 (0,0)):=by rw[q];exact(Ju _ _ _ BP).trans (l7 w _)
 have h1c:M.heap[w.heap.size+1]? =some (.cells #[.slice none 0 0] 26 (0,0)):=by
  have :=l7 (w.alloc (.cells #[.slice ad n cap] 26 (0,0))) (.cells #[.slice none 0 0] 26 (0,0));rw[aK7]at this;rw[q];exact this
 have z:w.grownBy M none:=by
  rw[q];exact⟨rfl,rfl,rfl,E5,fun i hi _=>(Ju _ _ _ E5).trans (Ju _ _ _ hi)⟩
 have hcb:M.cell? ⟨w.heap.size,0,none⟩=some (.slice ad n cap):=by rw[World.cell?,S];rfl
 rw[←q]at u
 go_enter_defers Tryz.func304,Tryz.ntmps304
 apply wp_seq;apply ZH;refine .inl ?_;simp[Oper.wp,go_sem,wpList,Exit.then];rw[←q];have he:∀(vs:Array Value) (w:World),(callFunc 370 vs).run Tryz.prog w=.ok (.enter 370 vs) w:=fun vs w=>TF (P:=Tryz.prog) (f:=370) A8 vs w;refine .inl ?_;apply wp_seq;apply ZH;refine .inl ?_;simp[Oper.wp,go_sem,hmf,wpList,Exit.then];refine .inl ?_;apply wp_seq;apply ZH;refine .inl ?_;simp[Oper.wp,go_sem,wpList,Exit.then,hcb,he];refine .inl (.inl (.inl (u.mono ?_)));rintro e j ⟨O,h⟩;have hb:j.heap[w.heap.size]? =some (.cells #[.slice ad n cap] 26 (0,0)):=(O.block _ AA BP).trans S;have U:j.heap[w.heap.size+1]? =some (.cells #[.slice none 0 0] 26 (0,0)):=(O.block _ AA BP).trans h1c;have Y:w.heap.size+1<j.heap.size:=(Fv.1 U).1;have s:w.grownBy j none:=⟨O.os.trans z.os,O.tape.trans z.tape,O.output.trans z.output,Ei z.size O.size,fun i hi hn=>(O.block i AA hn).trans (z.block i hi hn)⟩
 have L:∀(w3:World),j.grownBy w3 (some (w.heap.size+1))→w.grownBy w3 none:=fun w3 J=>⟨J.os.trans s.os,J.tape.trans s.tape,J.output.trans s.output,Ei s.size J.size,fun i hi hn=>(J.block i AA E5).trans (s.block i hi hn)⟩
 rcases h with⟨I,Z,m,rfl,hv⟩|⟨rfl,hbad⟩
 ·have hcc:j.cell? ⟨w.heap.size+1,0,none⟩=some (.slice none 0 0):=by rw[World.cell?,U];rfl
  have hfz:j.frozen? ⟨w.heap.size+1,0,none⟩=false:=by simp[World.frozen?,U]
  simp[hcc,hfz,go_sem,wpList,Exit.then];refine .inl (wp_ret ?_);rw[setCell_eq U];refine leaves_cons (f:=369) (args:= #[.pointer (some ⟨w.heap.size,0,none⟩),.pointer (some ⟨w.heap.size+1,0,none⟩)]) BP aCb ?_;refine(aqM ⟨w.heap.size,0,none⟩ ⟨w.heap.size+1,0,none⟩ _).mono ?_;rintro e u' w'' ⟨rfl,rfl,rfl⟩;have J:j.grownBy (j.putObj (w.heap.size+1) (.cells #[.slice I Z m] 26 (0,0))) (some (w.heap.size+1)):=⟨rfl,rfl,rfl,BP,fun i hi hne=>Xw (fun e=>hne (by rw[e]))⟩
  exact⟨.slice I Z m,step_fin (w.heap.size+1) _ _ (W9 Y) _ rfl,L _ J,.inl ⟨_,rfl,j,hv,s,Y,J⟩⟩
 refine leaves_cons (f:=369) (args:= #[.pointer (some ⟨w.heap.size,0,none⟩),.pointer (some ⟨w.heap.size+1,0,none⟩)]) BP aCb ?_;refine(alz w.heap.size (w.heap.size+1) ad n cap (.slice none 0 0) j hb U).mono ?_;rintro e u' w'' ⟨rfl,rfl,J,h4⟩;exact⟨.slice ad n cap,step_fin (w.heap.size+1) _ _ h4 _ rfl,L _ J,.inr ⟨rfl,hbad⟩⟩
def aDR {T:Type} (s:T):Except Value T→Option T
 | .ok x=>some x
 | .error (.iface t (.agg cs))=>bif t==317&&cs.toList.isEmpty then some s else none
 | .error _=>none
def agA {T:Type} (enc:T→List D) (dl di:D) (s:T) (r:Except Value T) (hr:Ox Tryz.prog 370 [.d dl,.d (.sl (enc s)),.d di] r (fun x=>.d (.sl (enc x)))) (L:T) (S:aDR s r=some L):
 BA 304 [.d dl,.d (.sl (enc s)),.d di] [] (.d (.sl (enc L))) []:=by
 intro ok X H w q Z hs ha;obtain rfl:H=[]:=H9 Z.hlen;have hsz:q.size=3:=hs
 obtain⟨l,sv,id,rfl⟩:∃l sv id,q= #[l,sv,id]:=⟨q[0],q[1],q[2],by
  apply lG (by simp[hsz]);intro i h1 h2
  match i,h2 with
  |0,_=>rfl
  |1,_=>rfl
  |2,_=>rfl⟩
 have a0:R ok w [] (.d dl) l:=ha 0 BP;have a1:R ok w [] (.d (.sl (enc s))) sv:=ha 1 BP;have a2:R ok w [] (.d di) id:=ha 2 BP
 have slv:∀{ok:Nat→Prop} {w:World} {H:List Bj} {xs:List D} {v:Value},R ok w H (.d (.sl xs)) v→∃ad n cap,v=.slice ad n cap:=fun h=>by
  cases h with
  |d _ _ h=>cases h with
   |sl0 ad cap=>exact⟨_,_,_,rfl⟩
   |sl=>exact⟨_,_,_,rfl⟩
 obtain⟨ad,n,cap,rfl⟩:=slv a1;obtain⟨z,U⟩:∃z,z=(w.alloc (.cells #[.slice ad n cap] 26 (0,0))).alloc (.cells #[.slice none 0 0] 26 (0,0)):=⟨_,rfl⟩
 have hs1:z.heap.size=w.heap.size+2:=by rw[U];simp
 have hg1:EU ok w ok z:=fun b m=>⟨m,by rw[U];exact(Ju _ _ _ (by have h:=Z.kW b m;rw[aK7];omega)).trans (Ju _ _ _ (Z.kW b m))⟩
 have hmc:DI ⟨z,ok,[],[]⟩ ok [] [] z:=
  ⟨.refl _ _,fun _ h=>h,fun _ h=>.inl h,fun b m=>by have h:=Z.kW b m;rw[hs1];omega,.refl _,rfl,fun k e h he=>by simp at he,fun k e h b he=>by simp at he,fun k k' e e' h h' b he=>by simp at he⟩
 have M:∀i,i<3→R ok z [] ([Ag.d dl,.d (.sl (enc s)),.d di].getD i .junk) ((#[l,.slice ad n cap,id]:Array Value).getD i undef):=fun i hi=>by
  match i,hi with
  |0,_=>exact a0.mono hg1 (.refl _)
  |1,_=>exact a1.mono hg1 (.refl _)
  |2,_=>exact a2.mono hg1 (.refl _)
 have hgr:∀{f:Nat→Prop} {H2:List Bj} {J:World},DI ⟨z,ok,[],[]⟩ f H2 [] J→z.grownBy J none:=fun j=>⟨j.fr.os,j.fr.tape,j.fr.output,j.fr.size,fun b m _=>j.fr.block b m BP⟩
 have O:Calls Tryz.prog 370 #[l,.slice ad n cap,id] z fun e J=>z.grownBy J none∧((∃Y n' I,e=.returned (.slice Y n' I)∧∃x f,r=.ok x∧DI ⟨z,ok,[],[]⟩ f [] [] J∧Dz f J (.sl (enc x)) (.slice Y n' I))∨(e=.panicked [{ v:=.iface 317 (.agg #[]),recovered:=false }]∧L=s)):=by
  cases hrr:r with
  |ok x=>
   refine(hr.1 x hrr ok [] [] z _ hmc rfl M).mono ?_;rintro e J ⟨v,f,H2,rfl,j,hR⟩;obtain⟨Y,n',I,rfl⟩:=slv hR;obtain rfl:H2=[]:=H9 j.hlen;exact⟨hgr j,.inl ⟨Y,n',I,rfl,x,f,rfl,j,by cases hR with |d _ _ h=>exact h⟩⟩
  |error u=>
   rw[hrr]at S
   have hu:u=.iface 317 (.agg #[])∧L=s:=by
    unfold aDR at S;split at S
    ·rename_i h;cases h
    ·rename_i t cs h;cases h;cases ht:(t==317&&cs.toList.isEmpty)with
     |false=>rw[ht]at S;cases S
     |true=>
      rw[ht]at S;simp only[DL]at ht;obtain rfl:t=317:=by simpa using ht.1
      have :cs= #[]:=by rw[←eM (xs:=cs),List.isEmpty_iff.1 ht.2]
      subst this;exact⟨rfl,(Cx S).symm⟩
    cases S
   refine(hr.2 u hrr ok [] [] z _ hmc rfl M).mono ?_;rintro e J ⟨f,H2,rfl,j⟩;exact⟨hgr j,.inr ⟨by rw[hu.1],hu.2⟩⟩
 rw[U]at O;refine(al1 O (Rv:=fun v J=>∃x f,r=.ok x∧DI ⟨_,ok,[],[]⟩ f [] [] J∧Dz f J (.sl (enc x)) v) (bad:=L=s)).mono ?_;rw[←U];rintro e w' ⟨hg,h⟩
 have mk:∀(f:Nat→Prop),(∀b,ok b→f b)→(∀b,f b→ok b∨(w.heap.size≤b∧b<w'.heap.size))→DI ⟨w,ok,X,[]⟩ f [] [] w':=fun f h1 h2=>
  (Z.change (ok':=f) (H':=[]) (es':=[]) (w':=w') (fun _=>False) hg.os hg.tape hg.output hg.size (fun b m _=>hg.block b m BP) (fun _ h=>h.elim) h1 h2 (.refl _) rfl (fun k e h he=>by simp at he)).1
 rcases h with⟨v,J,rfl,⟨x,f,hx,j,hD⟩,hg2,hlt,h3⟩|⟨rfl,rfl⟩
 ·rw[hx]at S;obtain rfl:=Cx S
  have hgg:EU f J f w':=fun b m=>⟨m,h3.block b (j.kW b m) (fun e=>by
   obtain rfl:=Cx e;rcases j.xW _ m with h|h|h
   ·have :=Z.kW _ h;omega
   ·simp only at h;omega
   simp at h)⟩
  refine⟨v,f,[],rfl,mk f j.xU (fun b m=>?_),.d _ _ (hD.mono hgg)⟩;rcases j.xW b m with h|h|h
  ·exact .inl h
  ·simp only at h;exact .inr ⟨AA,VP (j.kW b m) h3.size⟩
  simp at h
 have hgg:EU ok w ok w':=fun b m=>⟨m,hg.block b (Z.kW b m) BP⟩
 exact⟨_,ok,[],rfl,mk ok (fun _ h=>h) (fun _ h=>.inl h),a1.mono hgg (.refl _)⟩
end Go.Proofs.YtolgdkhlelfpoaaGreat
end
section
namespace Go.Proofs
open Go.Proofs.YtolgdkhlelfpoaaGreat
open Go.Shelf
def Tryz.Ze:Go.Shelf.Ren:=⟨fun |6=>421|15=>149|14=>425|28=>204|29=>205|20=>426|21=>427|22=>428|23=>429|24=>430|25=>431|26=>432|27=>433|46=>434|47=>257|48=>258|49=>435|50=>436|57=>437|n=>n,fun |22=>349|24=>351|25=>354|3=>3|39=>89|0=>0|53=>226|55=>228|4=>4|46=>220|45=>219|50=>97|5=>5|9=>9|66=>254|70=>258|76=>300|77=>301|n=>n,fun |n=>n⟩
def Tryz.asu:SlLaysF0.n6 Tryz.prog Tryz.Ze:={
 mixed:=A8
 f6:=⟨Tryz.f421.name,BQ,Tryz.func421.trans (BR some A8)⟩
 f14:=⟨Tryz.f425.name,BQ,Tryz.func425.trans (BR some A8)⟩
 f15:=Tryz.func149.trans (BR some A8)
 f20:=⟨Tryz.f426.name,BQ,Tryz.func426.trans (BR some A8)⟩
 f21:=⟨Tryz.f427.name,BQ,Tryz.func427.trans (BR some A8)⟩
 f22:=⟨Tryz.f428.name,BQ,Tryz.func428.trans (BR some A8)⟩
 f23:=⟨Tryz.f429.name,BQ,Tryz.func429.trans (BR some A8)⟩
 f24:=⟨Tryz.f430.name,BQ,Tryz.func430.trans (BR some A8)⟩
 f25:=⟨Tryz.f431.name,BQ,Tryz.func431.trans (BR some A8)⟩
 f26:=⟨Tryz.f432.name,BQ,Tryz.func432.trans (BR some A8)⟩
 f27:=⟨Tryz.f433.name,BQ,Tryz.func433.trans (BR some A8)⟩
 f28:=Tryz.func204.trans (BR some A8)
 f29:=Tryz.func205.trans (BR some A8)
 f46:=⟨Tryz.f434.name,BQ,Tryz.func434.trans (BR some A8)⟩
 f47:=Tryz.func257.trans (BR some A8)
 f48:=Tryz.func258.trans (BR some A8)
 f49:=⟨Tryz.f435.name,BQ,Tryz.func435.trans (BR some A8)⟩
 f50:=⟨Tryz.f436.name,BQ,Tryz.func436.trans (BR some A8)⟩
 f57:=⟨Tryz.f437.name,BQ,Tryz.func437.trans (BR some A8)⟩
 t0:=Tryz.underlying0
 a0:=Tryz.isAgg0
 z0:=Tryz.sizeOf0
 v0:=Tryz.zeroValue0
 t3:=EH
 a3:=Zj
 z3:=dA
 v3:=aX
 t4:=PS
 a4:=gq
 z4:=jc
 v4:=iY
 t5:=tV
 a5:=xq
 z5:=nK
 v5:=qp
 t9:=Hl
 a9:=uM
 z9:=qV
 v9:=yE
 t22:=Tryz.underlying349
 a22:=Tryz.isAgg349
 z22:=Tryz.sizeOf349
 v22:=Tryz.zeroValue349
 t25:=Tryz.underlying354
 a25:=Tryz.isAgg354
 z25:=Tryz.sizeOf354
 v25:=Tryz.zeroValue354
 t39:=aHE
 a39:=Tryz.isAgg89
 z39:=Tryz.sizeOf89
 v39:=aC3
 t45:=Tryz.underlying219
 a45:=Tryz.isAgg219
 z45:=Tryz.sizeOf219
 v45:=Tryz.zeroValue219
 t46:=Tryz.underlying220
 a46:=Tryz.isAgg220
 z46:=Tryz.sizeOf220
 v46:=Tryz.zeroValue220
 t50:=Tryz.underlying97
 a50:=Tryz.isAgg97
 z50:=Tryz.sizeOf97
 v50:=Tryz.zeroValue97
 t53:=aD4
 a53:=Tryz.isAgg226
 z53:=aB1
 v53:=aDS
 t55:=Tryz.underlying228
 a55:=Tryz.isAgg228
 z55:=Tryz.sizeOf228
 v55:=Tryz.zeroValue228
 t66:=Tryz.underlying254
 a66:=Tryz.isAgg254
 z66:=Tryz.sizeOf254
 v66:=Tryz.zeroValue254
 t70:=Tryz.underlying258
 a70:=Tryz.isAgg258
 z70:=Tryz.sizeOf258
 v70:=Tryz.zeroValue258
 t76:=Tryz.underlying300
 a76:=Tryz.isAgg300
 z76:=Tryz.sizeOf300
 v76:=Tryz.zeroValue300
 t77:=Tryz.underlying301
 a77:=Tryz.isAgg301
 z77:=Tryz.sizeOf301
 v77:=Tryz.zeroValue301 }
end Go.Proofs
end
