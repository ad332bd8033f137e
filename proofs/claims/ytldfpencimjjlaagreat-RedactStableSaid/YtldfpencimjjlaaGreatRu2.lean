/- Part 2 of what the laws' proofs lean on: states of the walk, typed functions of the program and their laws (short forms written by wip/shrink.py; no condition). -/
import Derived.Test.YtldfpencimjjlaaGreatRu1
set_option linter.defProp false
set_option linter.unnecessarySimpa false
set_option linter.unusedVariables false
set_option linter.unusedSimpArgs false
section
namespace Go.Proofs.YtldfpencimjjlaaGreat
open Go.RowKit
section
variable {P : Program} {o : Oper} {es : List Ar}
def aCB {ns:List (Operand×AY)} {v:AY} {es':List Ar} (e:TypeId) (size:Nat) (h:BU P o ((.const (.slice none 0 0),.aZ es.length)::ns) (es++[.arr e size []]) v es'):BU P o ns es v es':=by
 intro C ok H a w Q u z;obtain⟨I,J⟩:=aHe u e size;refine Oper.wp_mono ?_ (h C ok _ a w Q I (fun n j=>?_))
 ·rintro a' w' ⟨v',ok',H',L,M,m,q,O⟩;exact⟨v',ok',H',L,M,(Names.push _ _).trans m,q,O⟩
 rcases Ei.1 j with rfl|j
 ·exact J
 exact(z n j).mono (.refl _ _) (Names.push _ _)
def R.ahn {ok:Nat→Prop} {w:World} {H:List BO} {us:List Value} {v:Value} (h:R ok w H (.d (.agg (us.map .lit))) v):v=.agg us.toArray:=by
 cases h with
 |d _ _ h=>
  cases h with
  |agg _ vs hl _ h=>
   congr 1;apply ZI
   ·simpa using hl
   intro i q J;have hi:i<(us.map D.lit).length:=AA
   have j:=h i hi;have m:i<us.length:=Fp
   have z:(us.map D.lit).getD i DK=.lit (us[i]):=aAv
   have I:vs.getD i undef=vs[i]:=by simp[Array.getD,q]
   rw[z,I]at j;generalize vs[i]=u at j;cases j;simp
structure bf (P:Program) (n:Nat) (t:TypeId) (us vs:List Value) (b:Bool):Prop where
 run:∀(d:Nat) (w:World),(Op.equalIn (d+n) t (.agg us.toArray) (.agg vs.toArray)).run P w=.ok b w
def JR {t:TypeId} {cs:Array Value} {off:Nat} {v:Value} {size:Nat} (j:EL P t false size) (h:cs[off]? =some v) (w:World):(part t cs off).run P w=.ok v w:=by
 simp[part,j.agg,h]
def WB (d:Nat) (xs ys:Array Value):List (TypeId×Nat)→Sem Bool
 | []=>pure true
 |f::j=>do
  let a ←part f.1 xs f.2
  let b ←part f.1 ys f.2
  let r ←Op.equalIn d f.1 a b
  if(!r)=true then pure false else WB d xs ys j
def aR1 (d:Nat) (xs ys:Array Value):∀(j:List Field),j.all (fun f=>f.name != "_")=true→Op.eqFields d xs ys j=WB d xs ys (j.map fun f=>(f.type,f.offset))
 | [],_=>rfl
 |f::j,h=>by
  simp only[oC,CW,bne_iff_ne,ne_eq]at h;simp only[Op.eqFields,Ig,WB,ne_eq,h.1,not_false_eq_true,JZ,aR1 d xs ys j h.2]
def qW {d:Nat} {t:TypeId} {xs ys:Array Value} {l:List (TypeId×Nat)} {b:Bool} {w:World} (j:P.underlying t=some (.struct (P.fieldsOf t))) (m:P.stoodInHeld t=false) (q:(P.fieldsOf t).toList.all (fun f=>f.name != "_")=true)
 (hl:(P.fieldsOf t).toList.map (fun f=>(f.type,f.offset))=l) (h:(WB d xs ys l).run P w=.ok b w):(Op.equalIn (d+1) t (.agg xs) (.agg ys)).run P w=.ok b w:=by
 rw[run_equalIn_struct w d t xs ys j m,aR1 _ _ _ _ q,hl,h]
def vC (d:Nat) (xs ys:Array Value) (w:World):(WB d xs ys []).run P w=.ok true w:=by simp[WB]
def RP {d:Nat} {xs ys:Array Value} {t:TypeId} {off:Nat} {j:List (TypeId×Nat)} {a b:Value} {r rs:Bool} {w:World} (ha:(part t xs off).run P w=.ok a w) (m:(part t ys off).run P w=.ok b w)
 (q:(Op.equalIn d t a b).run P w=.ok r w) (hs:(WB d xs ys j).run P w=.ok rs w):(WB d xs ys ((t,off)::j)).run P w=.ok (r&&rs) w:=by
 unfold WB;simp only[FD,ha,m,q,FU];cases r<;>simp[hs]
def aky {t t':TypeId} {x y:Operand} {n:Nat} (us vs:List Value) {b:Bool} (h:bf P n t us vs b) (hd:n≤10000) (z:P.eqGuardType P.depth t=false) (I:o.op=.binOp .eql t x y t'):
 BU P o [(x,.d (.agg (us.map .lit))),(y,.d (.agg (vs.map .lit)))] es (.d (DL b)) es:=
 .pure fun _ _ a w _ _ m=>⟨.bool b,by
  have q:=(Ea m).1.ahn;have u:=(Ea m).2.ahn;simp only at q u;have j:(eqGuard .eql t x y (.agg us.toArray) (.agg vs.toArray)).run P w=.ok () w:=by simp[eqGuard,z]
  simp only[execOp,I,q,u,FD,j,FU,GK,run_eql_struct,(by have :=h.run (10000-n) w;rwa [Nat.sub_add_cancel hd]at this:(Op.equalIn 10000 t (.agg us.toArray) (.agg vs.toArray)).run P w=.ok b w)],.d _ _ (.lit _)⟩
def zH {t t':TypeId} {x y:Operand} {n:Nat} (us vs:List Value) {b:Bool} (h:bf P n t us vs b) (hd:n≤10000) (z:P.eqGuardType P.depth t=false) (I:o.op=.binOp .neq t x y t'):
 BU P o [(x,.d (.agg (us.map .lit))),(y,.d (.agg (vs.map .lit)))] es (.d (DL (!b))) es:=
 .pure fun _ _ a w _ _ m=>⟨.bool (!b),by
  have q:=(Ea m).1.ahn;have u:=(Ea m).2.ahn;simp only at q u;have j:(eqGuard .neq t x y (.agg us.toArray) (.agg vs.toArray)).run P w=.ok () w:=by simp[eqGuard,z]
  simp only[execOp,I,q,u,FD,j,FU,GK,run_neq_struct,(by have :=h.run (10000-n) w;rwa [Nat.sub_add_cancel hd]at this:(Op.equalIn 10000 t (.agg us.toArray) (.agg vs.toArray)).run P w=.ok b w)],.d _ _ (.lit _)⟩
def QV (l:List Int):ByteArray:=l.foldl (fun r n=>r.push (UInt8.ofNat n.toNat)) ByteArray.empty
def ahI {ok:Nat→Prop} {w:World} {H:List BO} {l:List Int} {j:List Value} (h:Fg ok w H (flat (l.map Eo)) j):j=l.map (.int .u8):=by
 rw[aCn]at h;apply jR
 ·simpa using h.1
 intro i u z;have hi:i<(l.map fun n=>AY.d (Eo n)).length:=U3
 have q:=(h.2 i hi).2;have m:i<l.length:=Fp
 have I:(l.map fun n=>AY.d (Eo n)).getD i .junk=.d (Eo l[i]):=aAv
 have J:j.getD i undef=j[i]:=by simp[List.getD,u]
 rw[I,J]at q;have :=q.lit;simpa using this
def ajZ {w:World} {v:Value} {m:Nat} {l:List Int} (h:VP w v m 1 (l.map (.int .u8))):(Conv.bytesToString v).run P w=.ok (.string (QV l)) w:=by
 rcases h.at_ with⟨ad,c,rfl,j⟩|⟨c,rfl,q⟩
 ·refine run_bytesToString w ad m c l ?_;have hl:=h.len;have :=aKA (P:=P) w ad (l.map (Value.int .u8)) j;rw[CM,kF]at hl;rw[CM,hl]at this;exact this
 have hl:=h.len;rw[q,Nat.zero_mul,CM]at hl;rw[Gg hl];simp[Conv.bytesToString,QV]
def Value.isSlice:Value→Bool
 | .slice _ _ _=>true
 |_=>false
def amE {w:World} {v:Value} {m size:Nat} {j:List Value} (h:VP w v m size j):Value.isSlice v=true:=by
 rcases h.at_ with⟨_,_,rfl,_⟩|⟨_,rfl,_⟩<;>rfl
def arz {s t e:TypeId} {v:Value} {w:World} {r:ByteArray} (hs:P.underlying s=some (.slice e)) (j:P.underlying e=some (.int .u8)) (m:P.underlying t=some .string) (q:Value.isSlice v=true)
 (h:(Conv.bytesToString v).run P w=.ok (.string r) w):(convert s t v).run P w=.ok (.string r) w:=by
 cases v<;>simp[Value.isSlice]at q
 simp[convert,underlying,hs,j,m,h]
def aiy {s t e:TypeId} {x:Operand} {l:List Int} (hs:P.underlying s=some (.slice e)) (I:P.underlying e=some (.int .u8)) (J:P.underlying t=some .string) (L:o.op=.convert s t x):
 BU P o [(x,.d (BF Eo l))] es (.d (DY (QV l))) es:=
 .pure fun ok H a w _ _ M=>by
  have m:=LH M;simp only at m;generalize O:a.eval x=v at m;refine⟨.string (QV l),?_,.d _ _ (.lit _)⟩;cases m with
  |d _ _ h=>
   obtain⟨z,j,q⟩:=gJ H h (size:=1) (fun y U=>by obtain⟨n,_,rfl⟩:=Ee.1 U;rfl);obtain rfl:=ahI q;have u:=amE j;simp[execOp,L,O,arz hs I J u (ajZ j)]
def Q9 {fn:Fn} {firsts j:Array Operand} {fi ca:List AY} (hl:firsts.toList.length=fi.length) (u:j.toList.length=ca.length) (I:o.op=.makeFunc fn firsts j):
 BU P o (F9 firsts.toList fi++F9 j.toList ca) es (.fn fn fi ca) es:=
 .pure fun ok H a w _ _ m=>by
  have key:∀(xs:Array Operand) (vs:List AY),xs.toList.length=vs.length→(∀n∈F9 xs.toList vs,R ok w H n.2 (a.eval n.1))→∀i,i<vs.length→R ok w H (vs.getD i .junk) ((xs.map a.eval).getD i undef):=by
   intro xs vs hl m i hi;have z:=oh hl m i hi
   have q:i<xs.size:=by have :xs.size=vs.length:=MH
                        omega
   have J:(xs.toList.map a.eval).getD i undef=(xs.map a.eval).getD i undef:=by simp[List.getD,Array.getD,q]
   rw[J]at z;exact z
  refine⟨.func fn (firsts.map a.eval) (j.map a.eval),by simp[execOp,I,Instr.makeFunc],.fn fn fi ca _ _ MH MR (key _ _ hl fun n h=>m n (by simp[h])) (key _ _ u fun n h=>m n (by simp[h]))⟩
def aK7 :∀{xs:List Operand} {vs:List AY} {ys:List Operand} {us:List AY},xs.length=vs.length→F9 (xs++ys) (vs++us)=F9 xs vs++F9 ys us
 | [],[],_,_,_=>rfl
 | [],_::_,_,_,h=>I8
 |_::_,[],_,_,h=>I8
 |x::xs,v::vs,ys,us,h=>by simp[F9,aK7 (xs:=xs) (vs:=vs) Jz]
def aJV {ok:Nat→Prop} {w:World} {H:List BO} {a:Act}:∀{us:List Value} {vs:List AY},us.length=vs.length→(∀i,i<vs.length→R ok w H (vs.getD i .junk) (us.getD i undef))→∀n∈F9 (us.map Operand.const) vs,R ok w H n.2 (a.eval n.1)
 | [],[],_,_,n,j=>by simp[F9]at j
 | [],_::_,h,_,_,_=>I8
 |_::_,[],h,_,_,_=>I8
 |u::us,v::vs,hl,h,n,j=>by
  simp only[Ig,F9,Ei]at j;rcases j with rfl|j
  ·have :=h 0 Ap;simp at this;exact this
  exact aJV (us:=us) (vs:=vs) MH (fun i hi=>by simpa using h (i+1) Fp) n j
def aTb {f:FuncId} {x:Operand} {ops:Array Operand} {ats:Array TypeId} (srcs:List DW) {fi ca eH gK:List AY} {E E':List Ar} {q:AY} (J:Am P f gK E q E') (L:Dl P f=true) (M:RY srcs es E E'=true) (hE:sH srcs es E)
 (ha:Mc srcs (fi++eH++ca) gK) (hl:ops.toList.length=eH.length) (O:o.op=.call { callee:=.value x,args:=ops,argTypes:=ats }):
 BU P o ((x,.fn (.func f) fi ca)::F9 ops.toList eH) es (q.up srcs es.length) (LW srcs es E'):=by
 intro C ok H a w Q U I;have z:=I (x,.fn (.func f) fi ca) Ap;simp only at z;generalize Y:a.eval x=v at z;cases z with
 |fn _ _ _ vs us m u Z h2=>
  unfold Oper.wp
  have he:(execOp a.eval o).run P w=.ok (.enter f ((vs++ops.map a.eval)++us)) w:=by
   have :=TL L (vs++ops.map a.eval++us) w;rw[Array.append_assoc]at this;simp[execOp,O,resolve,Y,Deferred.ofValue,invoke,this]
  rw[he,bW]
  have e:vs++ops.map a.eval++us=((vs.toList.map Operand.const++ops.toList++us.toList.map Operand.const).map a.eval).toArray:=by
   apply aNy;simp[l9,Act.eval]
  rw[e];have l1:(vs.toList.map Operand.const).length=fi.length:=Y0
  refine(aSN U srcs J M hE ha (by simp at hl;simp[m,u,hl]) (a:=a) ?_).mono ?_
  ·rw[aK7 (by simp at hl;simp[m,hl]),aK7 l1];intro n j;simp only[GU]at j;rcases j with(j|j)|j
   ·exact aJV Y0 (fun i hi=>by have :=Z i hi;simpa[List.getD,H8]using this) n j
   ·exact I n (FW _ j)
   exact aJV MR (fun i hi=>by have :=h2 i hi;simpa[List.getD,H8]using this) n j
  rintro e w' ⟨v,ok',H',rfl,h3,h4,h5,h6⟩;exact⟨v,ok',H',rfl,h3,h4,h5,h6⟩
def R.dfn {ok:Nat→Prop} {w:World} {H:List BO} {f:Fn} {fi ca:List D} {v:Value} (h:R ok w H (.d (.fn f fi ca)) v):R ok w H (.fn f (fi.map .d) (ca.map .d)) v:=by
 cases h with
 |d _ _ h=>
  cases h with
  |fn _ _ _ vs us q u z I=>
   refine .fn f _ _ vs us Nz MR (fun i hi=>?_) (fun i hi=>?_)
   ·have j:i<fi.length:=Fp
    have m:(fi.map AY.d).getD i .junk=.d (fi.getD i DK):=aAP
    rw[m];exact .d _ _ (z i j)
   have j:i<ca.length:=Fp
   have m:(ca.map AY.d).getD i .junk=.d (ca.getD i DK):=aAP
   rw[m];exact .d _ _ (I i j)
def anB {f:FuncId} {x:Operand} {ops:Array Operand} {ats:Array TypeId} (srcs:List DW) {fi ca:List D} {eH gK:List AY} {E E':List Ar} {m:AY} (u:Am P f gK E m E') (z:Dl P f=true) (I:RY srcs es E E'=true) (hE:sH srcs es E)
 (ha:Mc srcs (fi.map .d++eH++ca.map .d) gK) (hl:ops.toList.length=eH.length) (J:o.op=.call { callee:=.value x,args:=ops,argTypes:=ats }):
 BU P o ((x,.d (.fn (.func f) fi ca))::F9 ops.toList eH) es (m.up srcs es.length) (LW srcs es E'):=by
 intro C ok H a w Q L q;refine aTb (fi:=fi.map .d) (ca:=ca.map .d) srcs u z I hE ha hl J C ok H a w Q L (fun n j=>?_);rcases Ei.1 j with rfl|j
 ·exact R.dfn (q (x,.d (.fn (.func f) fi ca)) Ap)
 exact q n (FW _ j)
def TT (S:List DW) (es:List Ar):List DW→List Ar→Prop
 |s::srcs,e::E=>(match s with | .ent k=>es[k]? =some (e.up S es.length)| .nil sz=>∃t,e=.arr t sz [])∧TT S es srcs E
 | [],_=>True
 |_::_,[]=>False
def LU {S:List DW} {es:List Ar} {k:Nat} {e:Ar} {srcs:List DW} {E:List Ar} (h:es[k]? =some (e.up S es.length)) (hs:TT S es srcs E):TT S es (.ent k::srcs) (e::E):=⟨h,hs⟩
def abR {S:List DW} {es:List Ar}:∀{srcs:List DW} {E:List Ar},TT S es srcs E→∀(i:Nat) (s:DW),srcs[i]? =some s→match s with | .ent k=>(E[i]?).map (Ar.up S es.length)=es[k]? | .nil sz=>∃e,E[i]? =some (.arr e sz [])
 | [],_,_,i,s,hs=>by simp at hs
 |_::_,[],h,_,_,_=>h.elim
 |s::srcs,e::E,h,0,j,hs=>by
  simp at hs;subst hs;have m:=h.1;cases s with
  |ent k=>simp only at m;simp[m]
  |nil sz=>obtain⟨t,rfl⟩:=m;exact⟨t,rfl⟩
 |s::srcs,e::E,h,i+1,j,hs=>by
  have :=abR h.2 i j qR;cases j with
  |ent k=>simpa using this
  |nil sz=>simpa using this
def aOi {es:List Ar} {srcs:List DW} {E:List Ar} (h:TT srcs es srcs E):sH srcs es E:=abR h
def aRn {f:FuncId} {ops:Array Operand} {ats:Array TypeId} (srcs:List DW) {eH gK:List AY} {E E':List Ar} {j res':AY} (m:Am P f gK E j E') (q:Dl P f=true) (u:RY srcs es E E'=true) (hE:TT srcs es srcs E) (ha:Mc srcs eH gK) (hl:ops.toList.length=eH.length)
 (z:res'=j.up srcs es.length) (I:o.op=.call { callee:=.value (.func f),args:=ops,argTypes:=ats }):BU P o (F9 ops.toList eH) es res' (LW srcs es E'):=z▸aSD srcs m q u (aOi hE) ha hl I
def akY {f:FuncId} {x:Operand} {ops:Array Operand} {ats:Array TypeId} (srcs:List DW) (fi ca:List AY) {eH gK:List AY} {E E':List Ar} {j res':AY} (m:Am P f gK E j E') (q:Dl P f=true) (u:RY srcs es E E'=true) (hE:TT srcs es srcs E)
 (ha:Mc srcs (fi++eH++ca) gK) (hl:ops.toList.length=eH.length) (z:res'=j.up srcs es.length) (I:o.op=.call { callee:=.value x,args:=ops,argTypes:=ats }):
 BU P o ((x,.fn (.func f) fi ca)::F9 ops.toList eH) es res' (LW srcs es E'):=z▸aTb srcs m q u (aOi hE) ha hl I
def ahU {f:FuncId} {x:Operand} {ops:Array Operand} {ats:Array TypeId} (srcs:List DW) (fi ca:List D) {eH gK:List AY} {E E':List Ar} {j res':AY} (m:Am P f gK E j E') (q:Dl P f=true) (u:RY srcs es E E'=true) (hE:TT srcs es srcs E)
 (ha:Mc srcs (fi.map .d++eH++ca.map .d) gK) (hl:ops.toList.length=eH.length) (z:res'=j.up srcs es.length) (I:o.op=.call { callee:=.value x,args:=ops,argTypes:=ats }):
 BU P o ((x,.d (.fn (.func f) fi ca))::F9 ops.toList eH) es res' (LW srcs es E'):=z▸anB srcs m q u (aOi hE) ha hl I
end
structure Turns (v:Value) (w w':World):Prop where
 os:w'.os=w.os
 tape:w'.tape=w.tape
 output:w'.output=w.output
 size:w.heap.size≤w'.heap.size
 block:∀c,c<w.heap.size→D8 v≠some c→w'.heap[c]? =w.heap[c]?
def Turns.refl (v:Value) (w:World):Turns v w w:=⟨rfl,rfl,rfl,Dk _,fun _ _ _=>rfl⟩
def Turns.azK {g o n c:Nat} {s:Option Nat} {w w':World} (h:w.grownBy w' (some g)):Turns (.slice (some ⟨g,o,s⟩) n c) w w':=
 ⟨h.os,h.tape,h.output,h.size,fun k m j=>h.block k m (fun e=>j (by cases e;rfl))⟩
def DV.ahp {ok:Nat→Prop} {w:World} {u v:Value} (h:DV ok w (.lit u) v):v=u:=by cases h;rfl
def aHS :∀(l:List Int),flat (l.map Aa)=l.map fun n=>.d (Aa n)
 | []=>rfl
 |n::l=>by rw[Ig,WR,aHS l];rfl
def aDr {ok:Nat→Prop} {w:World} {H:List BO} {h:BO} {e:TypeId} {l:List Int}:Em ok w H h (.arr e 1 (List.map Aa l))↔h.size=1∧nG w e 1 h.v l.length (l.map (.int .i64)):=by
 constructor
 ·rintro⟨q,_,xs,m,u,z⟩;refine⟨q,?_⟩;rw[CM]at m
  have :xs=l.map (.int .i64):=by
   rw[aHS]at u z;rw[CM]at u;refine jR (by simp[u]) fun i hi L=>?_;have j:i<l.length:=AA
   have I:=(z i O7).2;simp only[List.getD,JC,D9 j,IW,NP,D9 hi]at I;cases I with |d _ _ h=>rw[DV.ahp h];simp
  rw[←this];exact m
 rintro⟨q,m⟩;refine⟨q,fun x J=>?_,l.map (.int .i64),by rw[CM];exact m,?_⟩
 ·obtain⟨n,_,rfl⟩:=Ee.1 J;rfl
 rw[aHS];refine⟨Ap,fun i hi=>?_⟩;have j:i<l.length:=Fp
 simp only[List.getD,JC,D9 j,IW,NP];exact⟨rfl,.d _ _ (.lit _)⟩
def abT {j:Array Value} (hs:j.size=1):j= #[j.getD 0 undef]:=by
 refine ZI (by simp[hs]) fun i q m=>?_;simp at m;subst m;simp[Array.getD,hs]
def Am.aBS {P:Program} {f:FuncId} {e:TypeId} {l r:List Int}
 (h:∀(v:Value) (w:World),nG w e 1 v l.length (l.map (.int .i64))→Calls P f #[v] w fun x w'=>x=.returned (.tuple #[])∧nG w' e 1 v r.length (r.map (.int .i64))∧Turns v w w'):
 Am P f [.aZ 0] [.arr e 1 (List.map Aa l)] (.fB []) [.arr e 1 (List.map Aa r)]:=by
 intro ok X H w Z z hs ha;have h0:=ha 0 BJ;rw[abT hs];obtain⟨hd,M,O⟩:=Fz z.ent z.hlen (k:=0) rfl;obtain hv:=Ph h0 M;rw[hv];obtain⟨hz,U⟩:=aDr.1 O;refine(h hd.v w U).mono ?_;rintro x w' ⟨rfl,I,u⟩;have m:=fun b J=>z.blk 0 _ hd b rfl rfl M J
 have hg:=z.change (ok':=ok) (H':=H) (w':=w') (es':=[.arr e 1 (List.map Aa r)]) (fun c=>D8 hd.v=some c) u.os u.tape u.output u.size u.block (fun c hc _=>⟨(m c hc).1,(m c hc).2.2⟩) (fun _ h=>h) (fun _ h=>.inl h) (.refl _) z.hlen (by
  intro k e' h' j L
  match k,j with
  |0,j=>
   simp at j;subst j;rw[M]at L;obtain rfl:=CO L;refine .inr ⟨aDr.2 ⟨hz,I⟩,fun _ b J=>⟨(m b J).1,WG (m b J).2.1 u.size,(m b J).2.2,fun k' e'' h'' Y q=>?_⟩⟩
   match k',q with
   |0,_=>exact absurd rfl Y
   |k'+1,q=>simp at q
  |k+1,j=>simp at j)
 exact⟨_,ok,H,rfl,hg.1,.fB [] #[] rfl (fun i hi=>OE)⟩
def Am.turned {P:Program} {f:FuncId} {e:TypeId} {l r:List Int}
 (h:∀(v:Value) (w:World),nG w e 1 v l.length (l.map (.int .i64))→Calls P f #[v] w fun x w'=>∃v',x=.returned v'∧nG w' e 1 v' r.length (r.map (.int .i64))∧Turns v w w'∧∀g,D8 v'=some g→D8 v=some g∨w.heap.size≤g):
 Am P f [.aZ 0] [.arr e 1 (List.map Aa l)] (.aZ 1) [.dead,.arr e 1 (List.map Aa r)]:=by
 intro ok X H w L u hs ha;have U:=ha 0 BJ;rw[abT hs];obtain⟨hd,M,I⟩:=Fz u.ent u.hlen (k:=0) rfl;obtain Y:=Ph U M;rw[Y];obtain⟨hz,J⟩:=aDr.1 I;refine(h hd.v w J).mono ?_;rintro x w' ⟨v',rfl,j,m,q⟩;have z:=u.turn (e:=.arr e 1 (List.map Aa r)) (h':=⟨v',1⟩) (w':=w') (k:=0) rfl rfl M m.os m.tape m.output m.size m.block (fun g z=>⟨vF j z,q g z⟩) (fun _=>aDr.2 ⟨rfl,j⟩);refine⟨v',ok,H++[⟨v',1⟩],rfl,z.1,?_⟩;have hl:H.length=1:=u.hlen;have O:(H++[(⟨v',1⟩:BO)])[1]? =some ⟨v',1⟩:=by rw[←hl];simp
 rcases j.2 with⟨rfl,_⟩|⟨g,cap,Z,rfl,_⟩
 ·exact .aZ 1 _ _ _ 1 O
 exact .aZ 1 _ _ _ 1 O
def Am.plain {P:Program} {f:FuncId} {vs:List Value} {j:AY} {v:Value} (M:∀ok w H,R ok w H j v)
 (h:∀w,Calls P f vs.toArray w fun x w'=>x=.returned v∧Below w.heap.size w w'):Am P f (vs.map fun u=>.d (.lit u)) [] j []:=by
 intro ok X H w m J hs ha
 have e:m=vs.toArray:=by
  refine ZI qR fun i O U=>?_;have q:i<vs.length:=ZP
  have L:=ha i Nz;simp only[List.getD,JC,D9 q,IW,NP]at L;cases L with |d _ _ h=>have :=DV.ahp h;simpa[Array.getD,O]using this
 rw[e];refine(h w).mono ?_;rintro x w' ⟨rfl,z⟩
 have Y:=J.change (ok':=ok) (H':=H) (w':=w') (es':=[]) (fun _=>False) z.os z.tape z.output z.size (fun c Z _=>z.block c Z) (fun _ h=>h.elim) (fun _ h=>h) (fun _ h=>.inl h) (.refl _) J.hlen (by
  intro k e' h' I hh'
  simp at I)
 exact⟨v,ok,H,rfl,Y.1,M _ _ _⟩
def Chain.ayk {P:Program} {ops:Array Oper} {l M:List Oper} {σ σ':Ak} (h:Chain P ops l σ σ') {ro:Option Nat} {C:EN} {H0:List BO} {Q:Exit→Act→World→Prop}:
 ∀{ok:Nat→Prop} {H:List BO} {a:Act} {w:World},Holds C ok H σ a w→Names H0 H→(∀ok' H' a' w',Holds C ok' H' σ' a' w'→Names H0 H'→wpListIn (Iz ro) 0 P ops Q M a' w')→wpListIn (Iz ro) 0 P ops Q (l++M) a w:=by
 induction h with
 |nil σ=>intro ok H a w j O u;exact u ok H a w j O
 | @op o rest σ σ' ns x d U O J hd k L=>
   intro ok H a w j m u;subst hd;rw[X5];unfold wpListIn;rw[CV (PZ j J)];refine Qh ?_ (U.inR ro C ok H a w Q j.mem (fun n z=>PK O n z▸j.get n.1));rintro a' w' ⟨v,ok',H',rfl,I,q,Y,Z⟩;exact L (j.put o.dst I q Y Z) (m.trans q) u
 | @oe o rest σ σ' ns x es' d E U he O J hd k L=>
   intro ok H a w j m u;subst hd;subst he;rw[X5];unfold wpListIn;rw[CV (PZ j J)];refine Qh ?_ (U.inR ro C ok H a w Q j.mem (fun n z=>PK O n z▸j.get n.1));rintro a' w' ⟨v,ok',H',rfl,I,q,Y,Z⟩;exact L (j.put o.dst I q Y Z) (m.trans q) u
 | @skip o rest σ σ' d J hd k L=>
   intro ok H a w j m u;subst hd;rw[X5];unfold wpListIn;rw[Cc mP];exact⟨fun _ _=>trivial,L (j.put o.dst (.refl _ _) (.refl _) j.mem (.d _ _ (.lit _))) m u⟩
 | @any o rest σ σ' x d hs hd k L=>
   intro ok H a w j m u;subst hd;rw[X5];unfold wpListIn;rcases hs.1 with⟨ns,U,O,_,J⟩|⟨rfl,_,J⟩
   ·rw[CV (PZ j J)];refine Qh ?_ (U.inR ro C ok H a w Q j.mem (fun n z=>PK O n z▸j.get n.1));rintro a' w' ⟨v,ok',H',rfl,I,q,Y,Z⟩;exact L (j.put o.dst I q Y Z) (m.trans q) u
   rw[Cc mP];exact⟨fun _ _=>trivial,L (j.put o.dst (.refl _ _) (.refl _) j.mem (.d _ _ (.lit _))) m u⟩
 | @aeR o rest σ σ' x E bar d hs hd k L=>
   intro ok H a w j m u;subst hd;rw[X5];unfold wpListIn;rcases hs.1 with⟨ns,U,O,_,J⟩|⟨rfl,rfl,J⟩
   ·rw[CV (PZ j J)];refine Qh ?_ (U.inR ro C ok H a w Q j.mem (fun n z=>PK O n z▸j.get n.1));rintro a' w' ⟨v,ok',H',rfl,I,q,Y,Z⟩;exact L (j.put o.dst I q Y Z) (m.trans q) u
   rw[Cc mP];exact⟨fun _ _=>trivial,L (j.put o.dst (.refl _ _) (.refl _) j.mem (.d _ _ (.lit _))) m u⟩
 |conv σ2 hc k L=>
  intro ok H a w j m u;obtain⟨ok',hh'⟩:=hc C ok H a w j;exact L hh' m u
def AP.awE {P:Program} {σ z:Ak} {Q:Exit→Ak→Prop} {id:Nat} {ops:Array Oper} {q:Oper} {x:Operand} {t t' e d:Nat} {es:List D} (k:Nat) (j:ops.toList.drop k=[q]) (h:Chain P ops (ops.toList.take k) σ z)
 (M:q.op=.binOp .eql t x (.const (.slice none 0 0)) t') (hd:q.dst=some d) (O:q.guard=none) (U:P.underlying t=some (.slice e)) (Y:z.get x=.d (.sl es)) (Z:∀b,(es≠[]→b=false)→Q .normal (z.rW (some d) (.d (.lit (.bool b))))):AP P (.region id ops false) σ Q:=by
 refine⟨fun ro _ C ok H a w hh=>aKX ?_⟩;rw[←Xx k ops.toList,j];refine h.ayk hh (.refl H) fun ok' H' a' w' I _=>?_;have u:=Y▸I.get x
 obtain⟨b,hb,hr⟩:∃b,(es≠[]→b=false)∧(execOp a'.eval q).run P w'=.ok (.value (.bool b)) w':=by
  cases u with
  |d _ _ u=>
   generalize m:a'.eval x=v at u
   have key:∀(ad:Option Addr) (n c:Nat),v=.slice ad n c→(execOp a'.eval q).run P w'=.ok (.value (.bool ad.isNone)) w':=fun ad n c J=>by
    have L:(eqGuard .eql t x (.const (.slice none 0 0)) (.slice ad n c) (.slice none 0 0)).run P w'=.ok () w':=by simp[eqGuard]
    have e0:a'.eval (.const (.slice none 0 0))=.slice none 0 0:=rfl;rw[J]at m;simp only[execOp,M,m,e0,FD,L,FU,Lib.run_eql_slice_nil w' t e ad n c 0 0 U,GK]
   cases u with
   |sl0 ad cap=>exact⟨ad.isNone,fun h=>absurd rfl h,key _ _ _ rfl⟩
   |sl es b off cap size=>exact⟨false,fun _=>rfl,key _ _ _ rfl⟩
 unfold wpListIn;rw[CV (by unfold Region.wanted;rw[O])];unfold Oper.wpIn;rw[iC _ _ _ (by rw[M];intro c h;cases h),hr,Oper.uponIn_value];refine⟨fun _ _=>trivial,?_⟩;unfold wpListIn;exact⟨ok',H',_,by rw[hd];exact I.put (some d) (.refl _ _) (.refl _) I.mem (.d _ _ (.lit _)),Z b hb⟩
def sJ {P:Program} {σ m:Ak} {Q:Exit→Ak→Prop} {id:Nat} {ops:Array Oper} {y:Code} {q:Oper} {x:Operand} {t t' e d:Nat} {es:List D} (k:Nat) (j:ops.toList.drop k=[q]) (h:Chain P ops (ops.toList.take k) σ m)
 (z:q.op=.binOp .eql t x (.const (.slice none 0 0)) t') (hd:q.dst=some d) (I:q.guard=none) (J:P.underlying t=some (.slice e)) (L:m.get x=.d (.sl es)) (M:∀b,(es≠[]→b=false)→AP P y (m.rW (some d) (.d (.lit (.bool b)))) Q):AP P (.seq (.region id ops false) y) σ Q:=
 AP.seq (fun s=>∃b,(es≠[]→b=false)∧s=m.rW (some d) (.d (.lit (.bool b)))) (AP.awE k j h z hd I J L fun b u=>⟨b,u,rfl⟩) (by rintro _ ⟨b,u,rfl⟩;exact M b u)
def rX {α:Type} {l:List α} {e:α→D} (h:List.map e l≠[]→true=false):l=[]:=by
 cases l with
 |nil=>rfl
 |cons a l=>exact absurd (h Ap) BJ
def aeE {α:Type} {p:Nat→α→Prop}:∀n,(∀i,i<n→∃x,p i x)→∃l:List α,l.length=n∧∀i (h:i<l.length),p i l[i]
 |0,_=>⟨[],rfl,fun i h=>I8⟩
 |n+1,h=>by
  obtain⟨l,j,m⟩:=aeE n (fun i hi=>h i AA);obtain⟨x,q⟩:=h n AA;refine⟨l++[x],iY,fun i hi=>?_⟩;simp at hi;by_cases e:i<l.length
  ·rw[aKm e];exact m i e
  have :i=n:=AA
  subst this;rw[aUx AA];simpa[j]using q
def pieces :List Nat→Nat→List Value→List Value
 | [],_,_=>[]
 |n::r,o,cs=>(cs.drop o).take n++pieces r (o+n) cs
def pieces_eq :∀(ns:List Nat) (o:Nat) (cs:List Value),cs.length=o+ns.sum→pieces ns o cs=cs.drop o
 | [],o,cs,h=>by simp at h;simp[pieces,h]
 |n::r,o,cs,h=>by
  simp only[List.sum_cons]at h;unfold pieces;rw[pieces_eq r (o+n) cs AA,←aPb,Xx]
def Bf (w:World) (m:List D) (cs:List Value):Prop:=cs.length=m.length∧∀j,j<m.length→(m.getD j DK).leaf=true∧DV (fun b=>b<w.heap.size) w (m.getD j DK) (cs.getD j undef)
def Bf.nil (w:World):Bf w [] []:=⟨rfl,fun j h=>I8⟩
def Bf.append {w:World} {m es:List D} {cs us:List Value} (h:Bf w m cs) (k:Bf w es us):Bf w (m++es) (cs++us):=by
 refine⟨by simp[h.1,k.1],fun j I=>?_⟩;by_cases e:j<m.length
 ·have q:(m++es).getD j DK=m.getD j DK:=aMp
  have u:(cs++us).getD j undef=cs.getD j undef:=by simp[List.getD,Gj (show j<cs.length by rw[h.1];exact e)]
  rw[q,u];exact h.2 j e
 have z:j-m.length<es.length:=Td
 have q:(m++es).getD j DK=es.getD (j-m.length) DK:=by simp[List.getD,Jd (Uk e)]
 have u:(cs++us).getD j undef=us.getD (j-m.length) undef:=by
  have J:=h.1;simp only[List.getD,Jd (show cs.length≤j by omega),J]
 rw[q,u];exact k.2 _ z
section
variable {H : Type} {enc : TypeId × Value → H} {w : World} {base : Nat} {spare : Nat → Bool} {held : Bool} {P : Program} {t : TypeId}
def JH {α:Type} (enc:TypeId×Value→H) (P:Program) (w:World) (base:Nat) (spare:Nat→Bool) (held:Bool) (t:TypeId) (e:α→D) (V:α→Prop):Prop:=
 ∀Af cs x,DataW.trod enc P w base spare held Af t cs=some x→∃a:α,V a∧Bf w (e a).cells cs
def Bf.one {w:World} {x:D} {v:Value} (m:x.cells=[x]) (hl:x.leaf=true) (h:DV (fun b=>b<w.heap.size) w x v):Bf w x.cells [v]:=by
 rw[m];refine⟨rfl,fun j q=>?_⟩
 match j,q with
 |0,_=>exact⟨hl,h⟩
def KO {α:Type} {e:TypeId} {sz:Nat} {U:α→D} {V:α→Prop} (ht:P.underlying t=some (.slice e)) (hc:P.cellsOf e=sz) (Z:0<sz) (hsz:∀a,(U a).cells.length=sz) (hR:JH enc P w base spare held e U V):
 JH enc P w base spare held t (BF U) (fun l=>l.length≤maxLen∧∀x∈l,V x):=by
 intro Af cs x h;rcases Go.Deep.open_slice ht h with⟨rfl, -⟩|⟨a,len,cap,m,n,D,Pl,rfl, -,hl,hm,hmm, -,hx⟩
 ·exact⟨[],⟨EZ _,fun x h=>I8⟩,.one rfl rfl (.sl0 none 0)⟩
 have hlm:len≤m:=by rw[hmm];split<;>omega
 rw[hc]at hx
 have hex:∀i,i<len→∃y:α,V y∧∃z:List Value,w.cells? base (a.add (i*sz)) sz=some z∧Bf w (U y).cells z:=by
  intro i hi;obtain⟨z,Y,h2⟩:=hx i AA;obtain⟨y,h3,I⟩:=hR _ _ _ h2;exact⟨y,h3,z,Y,I⟩
 obtain⟨l,hlen,hall⟩:=aeE len hex;subst hlen;refine⟨l,⟨AA,fun x hx=>?_⟩,?_⟩
 ·obtain⟨i,hi,rfl⟩:=GZ hx;exact(hall i hi).1
 rcases YB l.length with h0|hlp
 ·have :l=[]:=Gg h0;subst this;exact .one rfl rfl (.sl0 _ _)
 have q:∀i,(hi:i<l.length)→∀j,j<sz→∃u,w.cell? ((a.add (i*sz)).add j)=some u∧((U l[i]).cells.getD j DK).leaf=true∧DV (fun b=>b<w.heap.size) w ((U l[i]).cells.getD j DK) u:=by
  intro i hi j hj;obtain⟨-,z,Y,h2⟩:=hall i hi;obtain⟨-,h6,h5⟩:=World.cells?_some Y;have hcl:z.length=sz:=by rw[h2.1,hsz]
  have h7:=h5 j hj;rw[D9 AA]at h7;refine⟨_,h7,?_⟩;have h8:=h2.2 j (by rw[hsz];exact hj);simpa[List.getD,show j<z.length by omega]using h8
 have L:a.spot=none:=by
  obtain⟨u,I, -⟩:=q 0 hlp 0 Z;have e0:(a.add (0*sz)).add 0=a:=by simp[Addr.add]
  rw[e0]at I;unfold World.cell? at I;cases hsp:a.spot with
  |none=>rfl
  |some s=>
   rw[hsp]at I;cases hh:w.heap[a.block]? with
   |none=>rw[hh]at I;simp at I
   |some o=>rw[hh]at I;cases o<;>simp at I
 have hblk:a.block<w.heap.size:=by
  obtain⟨u,I, -⟩:=q 0 hlp 0 Z;have e0:(a.add (0*sz)).add 0=a:=by simp[Addr.add]
  rw[e0]at I;unfold World.cell? at I;apply Vq;intro hn;rw[Array.getElem?_eq_none (Uk hn)]at I;simp at I
 obtain⟨b,o,s⟩:=a;simp only at L hblk;subst L;have J:(List.map U l).length=l.length:=CM _;have M:∀i,(hi:i<l.length)→(List.map U l).getD i DK=U l[i]:=fun i hi=>MG
 have O:∀i j,((⟨b,o,none⟩:Addr).add (i*sz)).add j=⟨b,o+(i*sz+j),none⟩:=fun i j=>by simp only[Addr.add];split<;>split<;>simp_all<;>omega
 refine .one rfl rfl ?_
 have :=DV.sl (ok:=fun b=>b<w.heap.size) (w:=w) (List.map U l) b o cap sz (by rw[J];exact hl) (fun _ _=>hblk) (fun i hi=>by rw[J]at hi;rw[M i hi];exact hsz _)
  (fun i hi j hj=>by rw[J]at hi;obtain⟨u,_,h2,_⟩:=q i hi j hj;rw[M i hi];exact h2)
  (fun i hi j hj=>by rw[J]at hi;obtain⟨u,Y,_,_⟩:=q i hi j hj;rw[O]at Y;rw[Y];rfl)
  (fun i hi j hj=>by rw[J]at hi;obtain⟨u,Y,_,h3⟩:=q i hi j hj;rw[O]at Y;rw[M i hi];unfold cellAt;rw[Y];exact h3)
 rw[J]at this;exact this
def EK {k:IntKind} (j:P.underlying t=some (.int k)):JH enc P w base spare held t (fun n=>D.lit (.int k n)) (fun n:Int=>k.min≤n∧n≤k.max):=by
 intro Af cs x h;obtain⟨n,rfl, -,m⟩:=DataW.trod_int j h;exact⟨n,by simpa[Lit.wf]using m,.one rfl rfl (.lit _)⟩
def Iu (j:P.underlying t=some .string):JH enc P w base spare held t DY (fun s=>s.size≤maxLen):=by
 intro Af cs x h;obtain⟨n,rfl, -,m⟩:=DataW.trod_string j h;exact⟨n,m,.one rfl rfl (.lit _)⟩
def fO (j:P.underlying t=some .bool):JH enc P w base spare held t DL (fun _=>True):=by
 intro Af cs x h;obtain⟨n,rfl, -⟩:=DataW.trod_bool j h;exact⟨n,trivial,.one rfl rfl (.lit _)⟩
def CU {α:Type} {z:Array Field} {Af:Nat} {cs:List Value} {x:DataW H×List MemPlace} (L:P.underlying t=some (.struct z)) (h:DataW.trod enc P w base spare held Af t cs=some x) (i:Nat) (u o n:Nat) (m:(z[i]?).map (fun f=>(f.type,f.offset,P.cellsOf f.type))=some (u,o,n))
 {I:α→D} {V:α→Prop} (M:JH enc P w base spare held u I V):∃a:α,V a∧Bf w (I a).cells ((cs.drop o).take n):=by
 obtain⟨xs,k, -, -, -,hlen,q⟩:=DataW.trod_struct L h;cases j:z[i]? with
 |none=>rw[j]at m;simp at m
 |some f=>
  rw[j]at m;simp only[IW,Ll,Ru]at m;obtain⟨rfl,rfl,rfl⟩:=m;have J:=q i f j;have hi:i<z.size:=(G6.1 j).1;rw[D9 AA]at J;exact M _ _ _ J
def MQ {j:Array Field} {Af:Nat} {cs:List Value} {x:DataW H×List MemPlace} (m:P.underlying t=some (.struct j)) (h:DataW.trod enc P w base spare held Af t cs=some x) (n:Nat) (q:P.cellsOf t=n):cs.length=n:=by
 obtain⟨xs,k, -, -,hlen, -⟩:=DataW.trod_struct m h;rw[hlen,q]
def NC {cs:List Value} {j:List D} (ns:List Nat) (hl:cs.length=ns.sum) (h:Bf w j (pieces ns 0 cs)):Bf w j cs:=by
 rw[pieces_eq ns 0 cs AA]at h;simpa using h
end
def aB6 {w:World} {x:D} {v:Value} (j:x.cells=[x]) (m:v.cells= #[v]) (h:Bf w x.cells v.cells.toList):DV (fun b=>b<w.heap.size) w x v:=by
 rw[j,m]at h;exact(h.2 0 Ap).2
def Am.start {P:Program} {f:FuncId} {xs:List D} {j:Array Value} {W:World} {x:D} (h:Am P f (xs.map .d) [] (.d x) []) (hs:j.size=xs.length) (ha:∀i,i<xs.length→DV (fun b=>b<W.heap.size) W (xs.getD i DK) (j.getD i undef)):
 Calls P f j W fun e W'=>∃v ok,e=.returned v∧DV ok W' x v∧Below W.heap.size W W':=by
 refine(h (fun b=>b<W.heap.size) [] [] W j ⟨.refl _ _,fun _ h=>h,fun _ h=>.inl h,fun _ h=>h,.refl _,rfl,fun k e h m=>by simp at m,fun k e h b m=>by simp at m,fun k k' e e' h h' b m=>by simp at m⟩ qR (fun i hi=>?_)).mono ?_
 ·have q:i<xs.length:=Fp
  have :(xs.map AY.d).getD i .junk=.d (xs.getD i DK):=aLS
  rw[this];exact .d _ _ (ha i q)
 rintro e W' ⟨v,ok',H',rfl,z,u⟩;cases u with
 |d _ _ u=>exact⟨v,ok',rfl,u,z.fr.below⟩
def Am.law {P:Program} {f:FuncId} {xs:List D} {j:Array Value} {W:World} (h:Am P f (xs.map .d) [] (.d (DL true)) []) (hs:j.size=xs.length) (ha:∀i,i<xs.length→DV (fun b=>b<W.heap.size) W (xs.getD i DK) (j.getD i undef)):
 Calls P f j W fun e W'=>e=.returned (.bool true)∧Below W.heap.size W W':=by
 refine(h.start hs ha).mono ?_;rintro e W' ⟨v,ok,rfl,m,q⟩;exact⟨by rw[DV.ahp m],q⟩
end Go.Proofs.YtldfpencimjjlaaGreat
end
section
namespace Go.Proofs.YtldfpencimjjlaaGreat
def CZ (l:List Int) (x:Int):Bool:=l.contains x
def J3 {l:List Int} {x:Int}:CZ l x=true↔x∈l:=by unfold CZ;simp
def OJ {l:List Int} {x:Int}:CZ l x=false↔x∉l:=by unfold CZ;simp
def put (l:List Int) (x:Int):List Int:=if CZ l x then l else l.takeWhile (decide<| · <x)++x::l.dropWhile (decide<| · <x)
def Ed (l:List Int):List Int:=l.foldl put []
def HY (a b:List Int):List Int:=b.foldl put (Ed a)
def Nv (a b:List Int):List Int:=(Ed a).filter (fun x=> !CZ b x)
abbrev Inc (l:List Int):Prop:=l.Pairwise (· < ·)
def arw {l:List Int} {x:Int}:∀y∈l.takeWhile (decide<| · <x),y<x:=by
 intro y j;have :=List.all_takeWhile (l:=l) (p:=(decide<| · <x));rw[DT]at this;simpa using this y j
def aPz :∀{l:List Int} {x:Int},Inc l→∀y∈l.dropWhile (decide<| · <x),x≤y
 | [],x,_,y,j=>nI
 |a::l,x,h,y,j=>by
  have h':=OU.1 h;by_cases ha:a<x
  ·rw[aar (by simpa using ha)]at j;exact aPz h'.2 y j
  rw[aez (by simpa using ha)]at j;rcases Ei.1 j with rfl|j
  ·omega
  have :=h'.1 y j;omega
def Vd {l:List Int} {x y:Int}:y∈put l x↔y∈l∨y=x:=by
 unfold put;split
 ·rename_i h;have j:x∈l:=J3.1 h;constructor
  ·exact .inl
  rintro(h|rfl)
  ·exact h
  exact j
 have e:l.takeWhile (decide<| · <x)++l.dropWhile (decide<| · <x)=l:=rO
 have :y∈l↔y∈l.takeWhile (decide<| · <x)∨y∈l.dropWhile (decide<| · <x):=by
  conv=>lhs;rw[←e]
  exact GU
 rw[this,GU,Ei];constructor
 ·rintro(h|h|h)
  ·exact .inl (.inl h)
  ·exact .inr h
  exact .inl (.inr h)
 rintro((h|h)|h)
 ·exact .inl h
 ·exact .inr (.inr h)
 exact .inr (.inl h)
def SL {l:List Int} {x:Int} (h:Inc l):Inc (put l x):=by
 unfold put;split
 ·exact h
 rename_i z;have j:x∉l:=fun h=>z (J3.2 h)
 have hd:∀y∈l.dropWhile (decide<| · <x),x<y:=by
  intro y q;have u:=aPz h y q;have I:y∈l:=(aI2 _).mem q;have :y≠x:=fun e=>j (e▸I);omega
 refine aS.2 ⟨h.sublist (List.takeWhile_sublist _),OU.2 ⟨hd,h.sublist (aI2 _)⟩,?_⟩;intro a ha b m;have u:=arw a ha;rcases Ei.1 m with rfl|m
 ·exact u
 have :=hd b m;omega
def aI0 {l:List Int}:∀{acc:List Int} {y:Int},y∈l.foldl put acc↔y∈acc∨y∈l:=by
 induction l with
 |nil=>intro acc y;simp
 |cons a l j=>intro acc y;rw[Et,j,Vd,Ei,or_assoc]
def aD8 {l:List Int}:∀{acc:List Int},Inc acc→Inc (l.foldl put acc):=by
 induction l with
 |nil=>intro acc h;exact h
 |cons a l j=>intro acc h;exact j (SL h)
def JV {l:List Int} {y:Int}:y∈Ed l↔y∈l:=by unfold Ed;rw[aI0];simp
def Jt (l:List Int):Inc (Ed l):=aD8 List.Pairwise.nil
def BK :∀{a b:List Int},Inc a→Inc b→(∀x,x∈a↔x∈b)→a=b
 | [],[],_,_,_=>rfl
 | [],b::bs,_,_,h=>by have :=(h b).2 Ap;simp at this
 |a::aF8,[],_,_,h=>by have :=(h a).1 Ap;simp at this
 |a::aF8,b::bs,ha,I,h=>by
  have m:=OU.1 ha;have q:=OU.1 I
  have e:a=b:=by
   rcases Ei.1 ((h a).1 Ap)with j|j
   ·exact j
   rcases Ei.1 ((h b).2 Ap)with u|u
   ·exact u.symm
   have :=m.1 b u;have :=q.1 a j;omega
  subst e;congr 1;refine BK m.2 q.2 fun x=>?_;have z:=h x;rw[Ei,Ei]at z;constructor
  ·intro j;rcases z.1 (.inr j)with rfl|u
   ·exact absurd (m.1 x j) AA
   exact u
  intro j;rcases z.2 (.inr j)with rfl|u
  ·exact absurd (q.1 x j) AA
  exact u
def aqr {l:List Int} (h:Inc l):Ed l=l:=BK (Jt l) h fun _=>JV
def qO (a b:List Int):HY a b=Ed (a++b):=by unfold HY Ed;rw[V7]
def U7 {a b:List Int} {x:Int}:x∈HY a b↔x∈a∨x∈b:=by rw[qO,JV,GU]
def wM (a b:List Int):Inc (HY a b):=by rw[qO];exact Jt _
def aN7 {a b:List Int} {x:Int}:x∈Nv a b↔x∈a∧x∉b:=by unfold Nv;rw[EY,JV];simp[CZ]
def aIJ (a b:List Int):Inc (Nv a b):=(Jt a).sublist QB
def ams (DZ:List Int):∀m,m≤DZ.length→∀x,x∈Lib.compactUpTo DZ.toArray m↔x∈DZ.take m:=by
 intro m
 induction m with
 |zero=>intro _ x;simp[Lib.compactUpTo]
 |succ m u=>
  intro L x;rw[Lib.compactUpTo_succ,GU,u AA,Ot AA,GU];have z:DZ.toArray[m]! =DZ[m]' AA:=by simp[show m<DZ.length by omega]
  by_cases q:Lib.keeps DZ.toArray m=true
  ·rw[CV q,z]
  rw[Cc q];have j:Lib.keeps DZ.toArray m=false:=Nz
  have I:m≠0:=by intro e;subst e;simp[Lib.keeps]at j
  have J:DZ[m]' AA=DZ[m-1]' AA:=by
   simp[Lib.keeps,I]at j;simpa[show m<DZ.length by omega,show m-1<DZ.length by omega]using j
  constructor
  ·intro h;rcases h with h|h
   ·exact .inl h
   simp at h
  rintro(h|h)
  ·exact .inl h
  refine .inl ?_;simp at h;subst h;rw[J];rw[abz];exact⟨m-1,AA,rfl⟩
def aiZ (DZ:List Int) (hs:DZ.Pairwise (· ≤ ·)):∀m,m≤DZ.length→Inc (Lib.compactUpTo DZ.toArray m)∧∀x∈Lib.compactUpTo DZ.toArray m,∃i,∃_:i<m,∃u:i<DZ.length,x=DZ[i]:=by
 intro m
 induction m with
 |zero=>intro _;refine⟨by simp[Lib.compactUpTo],fun x q=>by simp[Lib.compactUpTo]at q⟩
 |succ m O=>
  intro hm;obtain⟨L,u⟩:=O AA;have U:DZ.toArray[m]! =DZ[m]' AA:=by simp[show m<DZ.length by omega]
  rw[Lib.compactUpTo_succ];by_cases z:Lib.keeps DZ.toArray m=true
  ·rw[CV z,U];refine⟨aS.2 ⟨L,Ap,?_⟩,?_⟩
   ·intro a ha b M;simp at M;subst M;obtain⟨i,hi,Y,rfl⟩:=u a ha
    have I:∀j,(Z:j<m)→DZ[j]' AA≤DZ[m-1]' AA:=by
     intro j Z;by_cases e:j=m-1
     ·subst e;omega
     exact Jq.1 hs j (m-1) AA AA AA
    have h3:=I i hi;have h4:=Jq.1 hs (m-1) m AA AA AA
    have h5:DZ[m]' AA≠DZ[m-1]' AA:=by
     have J:m≠0:=AA
     simp[Lib.keeps,J]at z;simpa[show m<DZ.length by omega,show m-1<DZ.length by omega]using z
    omega
   intro x q;rcases GU.1 q with q|q
   ·obtain⟨i,a,b,c⟩:=u x q;exact⟨i,AA,b,c⟩
   simp at q;exact⟨m,AA,AA,q⟩
  rw[Cc z,P6];refine⟨L,fun x q=>?_⟩;obtain⟨i,a,b,c⟩:=u x q;exact⟨i,AA,b,c⟩
def zh (l:List Int):Lib.compact (l.mergeSort fun x y=>decide (x≤y))=Ed l:=by
 have hs:(l.mergeSort fun x y=>decide (x≤y)).Pairwise (· ≤ ·):=by
  have :=List.pairwise_mergeSort (le:=fun x y:Int=>decide (x≤y)) (by intro a b c;simp;omega) (by intro a b;simp;omega) l;exact this.imp (by intro a b h;simpa using h)
 refine BK (aiZ _ hs _ (Dk _)).1 (Jt l) fun x=>?_;rw[JV];unfold Lib.compact;rw[ams _ _ (Dk _),GI];exact List.mem_mergeSort
def dP {R:Type} (o:Option R) (Q:R→Prop):Prop:=∃r,o=some r∧Q r
section
variable {R A B α : Type} {Q : R → Prop}
def dP.ret {r:R} (h:Q r):dP (some r) Q:=⟨r,rfl,h⟩
def dP.bind {o:Option A} {f:A→Option R} {P:A→Prop} (h:dP o P) (k:∀x,P x→dP (f x) Q):dP (o.bind f) Q:=by
 obtain⟨x,rfl,j⟩:=h;exact k x j
def dP.mono {o:Option R} {P:R→Prop} (h:dP o P) (k:∀r,P r→Q r):dP o Q:=by
 obtain⟨x,rfl,j⟩:=h;exact⟨x,rfl,k x j⟩
def dP.bif {b:Bool} {x y:Option R} (j:b=true→dP x Q) (m:b=false→dP y Q):dP (bif b then x else y) Q:=by
 cases b with
 |true=>exact j rfl
 |false=>exact m rfl
def dP.eq {o:Option R} {r:R} (h:dP o (· =r)):o=some r:=by obtain⟨x,rfl,rfl⟩:=h;rfl
def dP.of {o:Option R} {r:R} (h:o=some r):dP o (· =r):=⟨r,h,rfl⟩
def nE (l:List α) (i:Nat):Ae l (i:Int)=l[i]? :=by unfold Ae;rw[CV (aKO i)];simp
def Ba {l:List α} {i:Nat} (h:i<l.length):Ae l (i:Int)=some l[i]:=by rw[nE];simp[h]
def D7 {b:Nat} {l m:List α} (h:(l.length+m.length)*b≤140737488355328):Bz b l m=some (l++m):=by unfold Bz;rw[CV h]
def iF {l:List α} {lo hi:Nat} (j:lo≤hi) (m:hi≤l.length):Hg l (lo:Int) (hi:Int)=some ((l.drop lo).take (hi-lo)):=by
 unfold Hg;rw[CV ⟨AA,AA,AA⟩];simp
def wrap_succ (i:Nat) (h:i<9223372036854775807):Ag ((i:Int)+1)=((i+1:Nat):Int):=by
 rw[aA];omega
def P8 {x:Int} (j: -9223372036854775808≤x) (m:x≤9223372036854775807):Ag x=x:=by
 rw[aA];omega
def acR {body:(A→Option R)→A→Option R} (I:Nat→A→Prop) (hs:∀m a k,I m a→(∀j a',j<m→I j a'→dP (k a') Q)→dP (body k a) Q):
 ∀n m a,m<n→I m a→dP (bg body n a) Q
 |0,m,a,h,_=>AA
 |n+1,m,a,h,hi=>hs m a _ hi fun j a' h' q=>acR I hs n j a' AA q
def Xi {body:(A→B→Option R)→A→B→Option R} (I:Nat→A→B→Prop) (hs:∀m a b k,I m a b→(∀j a' q,j<m→I j a' q→dP (k a' q) Q)→dP (body k a b) Q):
 ∀n m a b,m<n→I m a b→dP (aQ body n a b) Q
 |0,m,a,b,h,_=>AA
 |n+1,m,a,b,h,hi=>hs m a b _ hi fun j a' q h' u=>Xi I hs n j a' q AA u
def Xv {body:(Int→Option R)→Int→Option R} (N:Nat) (j:N<Af) (I:Nat→Prop) (q:I 0)
 (hs:∀i k,i<N→I i→(I (i+1)→dP (k ((i+1:Nat):Int)) Q)→dP (body k (i:Int)) Q) (u:∀k,I N→dP (body k (N:Int)) Q):dP (bg body Af 0) Q:=by
 refine acR (body:=body) (Q:=Q) (fun m a=>∃i:Nat,a=i∧i+m=N∧I i) ?_ Af N 0 j ⟨0,rfl,AA,q⟩;rintro m a k ⟨i,rfl,J,hi⟩ z;by_cases e:i<N
 ·exact hs i k e hi fun h=>z (m-1) _ AA ⟨i+1,rfl,AA,h⟩
 have :i=N:=AA
 subst this;exact u k hi
def Jf {body:(A→Int→Option R)→A→Int→Option R} (N:Nat) (j:N<Af) (I:Nat→A→Prop) {a0:A} (q:I 0 a0)
 (hs:∀i a k,i<N→I i a→(∀a',I (i+1) a'→dP (k a' ((i+1:Nat):Int)) Q)→dP (body k a (i:Int)) Q) (u:∀a k,I N a→dP (body k a (N:Int)) Q):dP (aQ body Af a0 0) Q:=by
 refine Xi (body:=body) (Q:=Q) (fun m a b=>∃i:Nat,b=i∧i+m=N∧I i a) ?_ Af N a0 0 j ⟨0,rfl,AA,q⟩;rintro m a b k ⟨i,rfl,J,hi⟩ z;by_cases e:i<N
 ·exact hs i a k e hi fun a' h=>z (m-1) _ _ AA ⟨i+1,rfl,AA,h⟩
 have :i=N:=AA
 subst this;exact u a k hi
end
end Go.Proofs.YtldfpencimjjlaaGreat
end
section
namespace Go.Proofs
open Go.Proofs.YtldfpencimjjlaaGreat
open Go.Shelf
def Tryz.auw:Go.Shelf.Ren:=⟨fun |137=>261|217=>311|266=>360|n=>n,fun |9=>9|5=>5|3=>3|n=>n,fun |n=>n⟩
def Tryz.lays137:Go.Proofs.Lays.n137 Tryz.prog Tryz.auw:={
 mixed:=A8
 f137:=Tryz.func261.trans (BI some A8)
 f217:=Tryz.func311.trans (BI some A8)
 f266:=Tryz.func360.trans (BI some A8)
 t3:=EF
 a3:=Zy
 z3:=aj
 v3:=ZK
 t5:=rH
 a5:=uD
 z5:=uK
 v5:=sV
 t9:=H9
 a9:=nK
 z9:=oq
 v9:=vw }
open Go.RowKit in
def Tryz.strings_IndexByte (s:ByteArray) (c:Int) (w:World):
 Calls Tryz.prog 261 #[.string s,.int .u8 c] w fun e w'=>e=.returned (.int .i64 (Lib.indexByte s.data.toList c.toNat.toUInt8))∧w'=w:=Any.strings_IndexByte Tryz.lays137 s c w
def Tryz.auy:Go.Shelf.Ren:=⟨fun |215=>120|n=>n,fun |3=>3|4=>4|n=>n,fun |n=>n⟩
def Tryz.lays215:Go.Proofs.Lays.n215 Tryz.prog Tryz.auy:={
 mixed:=A8
 f215:=Tryz.func120.trans (BI some A8)
 t3:=EF
 a3:=Zy
 z3:=aj
 v3:=ZK
 t4:=Ou
 a4:=gY
 z4:=kR
 v4:=kE }
open Go.RowKit in
def Tryz.cmp_isNaN_int (x:Int) (w:World):
 Calls Tryz.prog 120 #[.int .i64 x] w fun e w'=>e=.returned (.bool false)∧w'=w:=Any.cmp_isNaN_int Tryz.lays215 x w
def Tryz.auz:Go.Shelf.Ren:=⟨fun |219=>361|217=>311|225=>374|224=>375|267=>376|266=>360|314=>379|n=>n,fun |9=>9|3=>3|4=>4|5=>5|46=>118|146=>307|51=>144|n=>n,fun |1=>0|n=>n⟩
def Tryz.lays219:Go.Proofs.Lays.n219 Tryz.prog Tryz.auz:={
 mixed:=A8
 f217:=Tryz.func311.trans (BI some A8)
 f219:=Tryz.func361.trans (BI some A8)
 f224:=Tryz.func375.trans (BI some A8)
 f225:=Tryz.func374.trans (BI some A8)
 f266:=Tryz.func360.trans (BI some A8)
 f267:=Tryz.func376.trans (BI some A8)
 f314:=Tryz.func379.trans (BI some A8)
 t3:=EF
 a3:=Zy
 z3:=aj
 v3:=ZK
 t4:=Ou
 a4:=gY
 z4:=kR
 v4:=kE
 t5:=rH
 a5:=uD
 z5:=uK
 v5:=sV
 t9:=H9
 a9:=nK
 z9:=oq
 v9:=vw
 t46:=aCP
 a46:=Tryz.isAgg118
 z46:=aGH
 v46:=aCr
 t51:=aDL
 a51:=Tryz.isAgg144
 z51:=aEq
 v51:=aCk
 t146:=Tryz.underlying307
 a146:=Tryz.isAgg307
 z146:=Tryz.sizeOf307
 v146:=Tryz.zeroValue307
 g1:=by kernel_rfl }
open Go.RowKit Go.Lib in
def Tryz.stringslite_Index_one (s:ByteArray) (c:UInt8) (w:World):
 Calls Tryz.prog 361 #[.string s,.string ⟨#[c]⟩] w fun e w'=>e=.returned (.int .i64 (Lib.indexByte s.data.toList c))∧w'=w:=Any.stringslite_Index_one Tryz.lays219 s c w
def Tryz.auA:Go.Shelf.Ren:=⟨fun |145=>262|220=>312|219=>361|217=>311|225=>374|224=>375|267=>376|266=>360|314=>379|n=>n,fun |9=>9|4=>4|59=>221|3=>3|5=>5|46=>118|146=>307|51=>144|n=>n,fun |1=>0|n=>n⟩
def Tryz.lays145:Go.Proofs.Lays.n145 Tryz.prog Tryz.auA:={
 mixed:=A8
 f145:=Tryz.func262.trans (BI some A8)
 f217:=Tryz.func311.trans (BI some A8)
 f219:=Tryz.func361.trans (BI some A8)
 f220:=Tryz.func312.trans (BI some A8)
 f224:=Tryz.func375.trans (BI some A8)
 f225:=Tryz.func374.trans (BI some A8)
 f266:=Tryz.func360.trans (BI some A8)
 f267:=Tryz.func376.trans (BI some A8)
 f314:=Tryz.func379.trans (BI some A8)
 t3:=EF
 a3:=Zy
 z3:=aj
 v3:=ZK
 t4:=Ou
 a4:=gY
 z4:=kR
 v4:=kE
 t5:=rH
 a5:=uD
 z5:=uK
 v5:=sV
 t9:=H9
 a9:=nK
 z9:=oq
 v9:=vw
 t46:=aCP
 a46:=Tryz.isAgg118
 z46:=aGH
 v46:=aCr
 t51:=aDL
 a51:=Tryz.isAgg144
 z51:=aEq
 v51:=aCk
 t59:=Tryz.underlying221
 a59:=Tryz.isAgg221
 z59:=Tryz.sizeOf221
 v59:=Tryz.zeroValue221
 t146:=Tryz.underlying307
 a146:=Tryz.isAgg307
 z146:=Tryz.sizeOf307
 v146:=Tryz.zeroValue307
 g1:=by kernel_rfl }
open Go.RowKit Go.Lib in
def Tryz.strings_Cut (s sep:ByteArray) (m:Int) (w:World) (hs:s.size<4294967281) (hm:w.cell? ⟨0,0,none⟩=some (.int .i64 m)):
 Calls Tryz.prog 262 #[.string s,.string sep] w fun e w'=>e=.returned (.tuple #[.string ⟨(Lib.cut s.data.toList sep.data.toList).1.toArray⟩,.string ⟨(Lib.cut s.data.toList sep.data.toList).2.1.toArray⟩,.bool (Lib.cut s.data.toList sep.data.toList).2.2])∧∃n,w'=w.drewN n:=Any.strings_Cut Tryz.lays145 s sep m w hs hm
def Tryz.auB:Go.Shelf.Ren:=⟨fun |189=>41|125=>76|257=>75|128=>116|129=>117|294=>108|295=>109|296=>110|297=>111|298=>112|299=>113|216=>79|300=>114|301=>115|328=>147|329=>148|330=>149|331=>150|332=>151|215=>120|343=>191|n=>n,fun |28=>24|3=>3|46=>118|0=>0|51=>144|53=>146|4=>4|183=>138|182=>137|131=>42|5=>5|9=>9|218=>176|222=>180|228=>215|229=>216|n=>n,fun |n=>n⟩
def Tryz.lays189:Go.Proofs.Lays.n189 Tryz.prog Tryz.auB:={
 mixed:=A8
 f125:=Tryz.func76.trans (BI some A8)
 f128:=Tryz.func116.trans (BI some A8)
 f129:=Tryz.func117.trans (BI some A8)
 f189:=Tryz.func41.trans (BI some A8)
 f215:=Tryz.func120.trans (BI some A8)
 f216:=Tryz.func79.trans (BI some A8)
 f257:=Tryz.func75.trans (BI some A8)
 f294:=Tryz.func108.trans (BI some A8)
 f295:=Tryz.func109.trans (BI some A8)
 f296:=Tryz.func110.trans (BI some A8)
 f297:=Tryz.func111.trans (BI some A8)
 f298:=Tryz.func112.trans (BI some A8)
 f299:=Tryz.func113.trans (BI some A8)
 f300:=Tryz.func114.trans (BI some A8)
 f301:=Tryz.func115.trans (BI some A8)
 f328:=Tryz.func147.trans (BI some A8)
 f329:=Tryz.func148.trans (BI some A8)
 f330:=Tryz.func149.trans (BI some A8)
 f331:=Tryz.func150.trans (BI some A8)
 f332:=Tryz.func151.trans (BI some A8)
 f343:=Tryz.func191.trans (BI some A8)
 t0:=Tryz.underlying0
 a0:=Tryz.isAgg0
 z0:=Tryz.sizeOf0
 v0:=Tryz.zeroValue0
 t3:=EF
 a3:=Zy
 z3:=aj
 v3:=ZK
 t4:=Ou
 a4:=gY
 z4:=kR
 v4:=kE
 t5:=rH
 a5:=uD
 z5:=uK
 v5:=sV
 t9:=H9
 a9:=nK
 z9:=oq
 v9:=vw
 t28:=Z5
 a28:=Tryz.isAgg24
 z28:=Tryz.sizeOf24
 v28:=Tryz.zeroValue24
 t46:=aCP
 a46:=Tryz.isAgg118
 z46:=aGH
 v46:=aCr
 t51:=aDL
 a51:=Tryz.isAgg144
 z51:=aEq
 v51:=aCk
 t53:=Tryz.underlying146
 a53:=Tryz.isAgg146
 z53:=Tryz.sizeOf146
 v53:=Tryz.zeroValue146
 t131:=Tryz.underlying42
 a131:=Tryz.isAgg42
 z131:=Tryz.sizeOf42
 v131:=Tryz.zeroValue42
 t182:=Tryz.underlying137
 a182:=Tryz.isAgg137
 z182:=Tryz.sizeOf137
 v182:=Tryz.zeroValue137
 t183:=Tryz.underlying138
 a183:=Tryz.isAgg138
 z183:=Tryz.sizeOf138
 v183:=Tryz.zeroValue138
 t218:=Tryz.underlying176
 a218:=Tryz.isAgg176
 z218:=Tryz.sizeOf176
 v218:=Tryz.zeroValue176
 t222:=Tryz.underlying180
 a222:=Tryz.isAgg180
 z222:=Tryz.sizeOf180
 v222:=Tryz.zeroValue180
 t228:=Tryz.underlying215
 a228:=Tryz.isAgg215
 z228:=Tryz.sizeOf215
 v228:=Tryz.zeroValue215
 t229:=Tryz.underlying216
 a229:=Tryz.isAgg216
 z229:=Tryz.sizeOf216
 v229:=Tryz.zeroValue216 }
open Go.Sort Go.RowKit in
def Tryz.slices_Sort_int (blk off cap:Nat) (DZ:List Int) (w:World) (hH:Holds Bq w blk off DZ.toArray) (hblk:blk<w.heap.size) (hsz:DZ.length<4611686018427387904):
 Calls Tryz.prog 41 #[.slice (some ⟨blk,off,none⟩) DZ.length cap] w fun e w'=>
  e=.returned (.tuple #[])∧∃n os,w'=grow (putRow Bq (Sort.ahead w n) blk off (DZ.mergeSort fun x y=>decide (x≤y)).toArray) os:=Any.slices_Sort_int Tryz.lays189 blk off cap DZ w hH hblk hsz
def Tryz.aqB:Go.Shelf.Ren:=⟨fun |20=>42|n=>n,fun |22=>24|3=>3|4=>4|0=>0|n=>n,fun |n=>n⟩
def Tryz.apC:Go.Proofs.Lays2.n20 Tryz.prog Tryz.aqB:={
 mixed:=A8
 f20:=Tryz.func42.trans (BI some A8)
 t0:=Tryz.underlying0
 a0:=Tryz.isAgg0
 z0:=Tryz.sizeOf0
 v0:=Tryz.zeroValue0
 t3:=EF
 a3:=Zy
 z3:=aj
 v3:=ZK
 t4:=Ou
 a4:=gY
 z4:=kR
 v4:=kE
 t22:=Z5
 a22:=Tryz.isAgg24
 z22:=Tryz.sizeOf24
 v22:=Tryz.zeroValue24
 i3:=by kernel_rfl }
open Go.RowKit Go.Lib Go.Sort in
def Tryz.slices_Compact_int (blk off cap:Nat) (DZ:List Int) (w:World) (hH:Holds Bq w blk off DZ.toArray) (hsz:DZ.length≤9223372036854775807) (hcap:DZ.length≤cap):
 Calls Tryz.prog 42 #[.slice (some ⟨blk,off,none⟩) DZ.length cap] w fun e w'=>e=.returned (.slice (some ⟨blk,off,none⟩) (Lib.compact DZ).length cap)∧∃q,w'=putRow Bq (Sort.ahead w q) blk off (Lib.compact DZ++List.replicate (DZ.length-(Lib.compact DZ).length) 0).toArray:=Any.slices_Compact_int Tryz.apC blk off cap DZ w hH hsz hcap
open Go.RowKit Go.Lib Go.Sort in
def Tryz.slices_Compact_int_empty (a:Option Addr) (cap:Nat) (w:World):
 Calls Tryz.prog 42 #[.slice a 0 cap] w fun e w'=>e=.returned (.slice a 0 cap)∧w'=w:=Any.slices_Compact_int_empty Tryz.apC a cap w
open Go.RowKit Go.Sort in
def Tryz.slices_Sort_int_none (p:Option Addr) (cap:Nat) (w:World):
 Calls Tryz.prog 41 #[.slice p 0 cap] w fun e w'=>e=.returned (.tuple #[])∧w'=w:=Any.slices_Sort_int_none Tryz.lays189 p cap w
end Go.Proofs
end
section
namespace Go.Proofs.YtldfpencimjjlaaGreat
open Go.RowKit
def cO (x:Int):List Int→List Int
 | []=>[x]
 |y::l=>bif decide (x≤y)then x::y::l else y::cO x l
def QZ (l:List Int):List Int:=l.foldr cO []
def aGg (x:Int):∀l,(cO x l).Perm (x::l)
 | []=>.refl _
 |y::l=>by
  unfold cO;cases h:decide (x≤y)with
  |true=>exact .refl _
  |false=>exact((aGg x l).cons y).trans (.swap x y l)
def Uj :∀l,(QZ l).Perm l
 | []=>.refl _
 |x::l=>(aGg x (QZ l)).trans ((Uj l).cons x)
def aUz (x:Int):∀l,l.Pairwise (· ≤ ·)→(cO x l).Pairwise (· ≤ ·)
 | [],_=>by simp[cO]
 |y::l,h=>by
  have h':=OU.1 h;unfold cO;cases q:decide (x≤y)with
  |true=>
   have m:x≤y:=QE q;refine OU.2 ⟨fun z j=>?_,h⟩;rcases Ei.1 j with rfl|j
   ·exact m
   have :=h'.1 z j;omega
  |false=>
   have m:¬x≤y:=Jg q;refine OU.2 ⟨fun z j=>?_,aUz x l h'.2⟩;rcases Ei.1 ((aGg x l).mem_iff.1 j)with rfl|j
   ·omega
   exact h'.1 z j
def aCW :∀l,(QZ l).Pairwise (· ≤ ·)
 | []=>.nil
 |x::l=>aUz x _ (aCW l)
def aCc (l:List Int):QZ l=l.mergeSort fun x y=>decide (x≤y):=by
 have hs:(l.mergeSort fun x y=>decide (x≤y)).Pairwise (· ≤ ·):=by
  have :=List.pairwise_mergeSort (le:=fun x y:Int=>decide (x≤y)) (by intro a b c;simp;omega) (by intro a b;simp;omega) l;exact this.imp (by intro a b h;simpa using h)
 exact((Uj l).trans (List.mergeSort_perm l _).symm).eq_of_pairwise (fun a b _ _ h k=>AA) (aCW l) hs
abbrev AL:=List Int
def Nj (l:List Int):Option AL:=if l.length≤1099511627776 then some (QZ l)else none
def Sz (l:List Int):Option AL:=if l.length≤1099511627776 then some (Lib.compact l)else none
def nG.nil (w:World) (e size:Nat):nG w e size (.slice none 0 0) 0 []:=.of (aCN w 0 e size)
def amG {w:World} {g cap n:Nat} {e:TypeId} {os:Array Obj} {j:Array Value} {m q:List Int} (hl:q.length=m.length) (u:w.heap[g]? =some (.cells j e (0,0)))
 (z:m.length≤cap) (I:cap≤maxLen) (J:cap*1≤j.size):
 nG (Go.Sort.grow (Go.Sort.putRow Bq (Go.Sort.ahead w n) g 0 q.toArray) os) e 1 (.slice (some ⟨g,0,none⟩) m.length cap) m.length (q.map Bq):=
 ⟨cV,.inr ⟨g,cap,_,rfl,EZ _,heap_sortedI _ u,z,I,by simpa[Go.Sort.putCells]using J,by rw[kF,←hl];exact take_putCellsI j q AA⟩⟩
def ahk {w:World} {e:TypeId} {g n cap q k:Nat} {DZ ys:List Int} (h:nG w e 1 (.slice (some ⟨g,0,none⟩) n cap) n (DZ.map Bq)) (L:ys.length=n) (M:k≤n):
 nG (Go.Sort.putRow Bq (Go.Sort.ahead w q) g 0 ys.toArray) e 1 (.slice (some ⟨g,0,none⟩) k cap) k ((ys.take k).map Bq):=by
 rcases h.2 with⟨m,_⟩|⟨O,u,j,m,z,I,U,J,hs,Y⟩
 ·cases m
 injection m with e1 _ e3
 injection e1 with e1
 injection e1 with e1
 subst e1;subst e3;refine⟨DU,.inr ⟨g,cap,Go.Sort.putCells Bq 0 ys.toArray j,rfl,z,?_,AA,J,by simpa[Go.Sort.putCells]using hs,?_⟩⟩
 ·simp[Go.Sort.putRow,Go.Sort.mapBlock,Go.Sort.ahead,Ol,I,Go.Sort.onCells]
 have :=take_putCellsI j ys AA;rw[kF,Ym,←this,aOW,yL AA]
def apf {l m:List Int} (h:l.Perm m):QZ l=QZ m:=by
 have hs:∀(l:List Int),(QZ l).Pairwise (· ≤ ·):=aCW;exact((Uj l).trans (h.trans (Uj m).symm)).eq_of_pairwise (fun a b _ _ j q=>AA) (hs l) (hs m)
def adP {l m:List Int} (h:l.Perm m):Nj l=Nj m:=by
 unfold Nj;rw[h.length_eq,apf h]
abbrev BG:=Am Tryz.prog
def fE (l r:List Int) (h:Nj l=some r):BG 41 [.aZ 0] [.arr 3 1 (List.map Aa l)] (.fB []) [.arr 3 1 (List.map Aa r)]:=by
 unfold Nj at h;split at h
 ·rename_i O;obtain rfl:=CO h;refine Am.aBS fun v w m=>?_;rcases m.2 with⟨rfl,L⟩|⟨g,cap,M,rfl,q,u,z,I,J,j⟩
  ·have hl:l=[]:=Gg L;subst hl;refine(Tryz.slices_Sort_int_none _ _ _).mono ?_;rintro e w' ⟨rfl,h⟩;subst h;exact⟨rfl,nG.nil _ _ _,Turns.refl _ _⟩
  have hs:(l.mergeSort fun x y=>decide (x≤y)).length=l.length:=List.length_mergeSort _;refine(Tryz.slices_Sort_int g 0 cap l w (holds_of_blockI u O7) (G6.1 u).1 AA).mono ?_;rintro e w' ⟨rfl,n,os,rfl⟩;rw[aCc];refine⟨rfl,?_,Turns.azK (grownBy_sortedI _)⟩;rw[hs];exact amG (os:=os) (n:=n) hs u z I J
 cases h
def aE3 (l r:List Int) (h:Sz l=some r):BG 42 [.aZ 0] [.arr 3 1 (List.map Aa l)] (.aZ 1) [.dead,.arr 3 1 (List.map Aa r)]:=by
 unfold Sz at h;split at h
 ·rename_i hn;obtain rfl:=CO h;refine Am.turned fun v w m=>?_;rcases m.2 with⟨rfl,M⟩|⟨g,cap,O,rfl,z,u,I,U,Y,j⟩
  ·have hl:l=[]:=Gg M;subst hl;refine(Tryz.slices_Compact_int_empty _ _ _).mono ?_;rintro e w' ⟨rfl,h⟩;subst h;exact⟨_,rfl,nG.nil _ _ _,Turns.refl _ _,fun g u=>by simp[D8]at u⟩
  refine(Tryz.slices_Compact_int g 0 cap l w (holds_of_blockI u O7) AA I).mono ?_;rintro e w' ⟨rfl,q,rfl⟩;have J:=Lib.compact_length_le l;have Z:(Lib.compact l++List.replicate (l.length-(Lib.compact l).length) 0).length=l.length:=DU
  refine⟨_,rfl,?_,?_,fun g u=>.inl u⟩
  ·have :=ahk (q:=q) m Z J;rw[oD rfl]at this;exact this
  exact⟨rfl,rfl,rfl,by simp[Sort.putRow,Sort.mapBlock,Sort.ahead],fun k hk L=>by
   have :g≠k:=fun e=>L qo
   simp[Sort.putRow,Sort.mapBlock,Sort.ahead,Ol,this]⟩
 cases h
def strings_IndexByte (s:ByteArray) (c:Int):Option Int:=some (Lib.indexByte s.data.toList c.toNat.toUInt8)
def ald (s:ByteArray) (c:Int) (r:Int) (h:strings_IndexByte s c=some r):BG 261 [.d (DY s),.d (Eo c)] [] (.d (Aa r)) []:=by
 rw[←CO h];exact Am.plain (vs:=[.string s,.int .u8 c]) (v:=.int .i64 (Lib.indexByte s.data.toList c.toNat.toUInt8)) (fun _ _ _=>.d _ _ (.lit _)) fun w=>(Tryz.strings_IndexByte s c w).mono fun e w' ⟨j,m⟩=>⟨j,by rw[m];exact⟨rfl,rfl,rfl,Dk _,fun _ _=>rfl⟩⟩
def zF (s t:ByteArray):Option Int:=match t.data.toList with
 | [c]=>some (Lib.indexByte s.data.toList c)
 |_=>none
def ajg (s t:ByteArray) (r:Int) (h:zF s t=some r):BG 361 [.d (DY s),.d (DY t)] [] (.d (Aa r)) []:=by
 unfold zF at h;split at h
 ·rename_i c j;rw[←CO h];obtain⟨⟨l⟩⟩:=t;simp only at j;subst j;exact Am.plain (vs:=[.string s,.string ⟨#[c]⟩]) (v:=.int .i64 (Lib.indexByte s.data.toList c)) (fun _ _ _=>.d _ _ (.lit _)) fun w=>(Tryz.stringslite_Index_one s c w).mono fun e w' ⟨m,q⟩=>⟨m,by rw[q];exact⟨rfl,rfl,rfl,Dk _,fun _ _=>rfl⟩⟩
 cases h
structure ZR (P:Program) (t:TypeId) (s:Nat) (z:Value):Prop where
 und:∃n e,P.underlying t=some (.array n e)∧∃i,P.info? e=some i∧i.size=s
 zero:(P.info? t).bind (·.zero)=some z
 one:z.cells.all (·.oneCell')=true
def aaL (P:Program) (t:TypeId) (s:Nat):Bool:=
 match P.underlying t with
 |some (.array _ e)=>match P.info? e with
  |some i=>decide (i.size=s)
  |none=>false
 |_=>false
def aBV {P:Program} {t:TypeId} {s:Nat} {z:Value} (h:aaL P t s=true) (j:(P.info? t).bind (·.zero)=some z) (m:z.cells.all (·.oneCell')=true):ZR P t s z:=by
 unfold aaL at h;split at h
 ·rename_i n e q;split at h
  ·rename_i i hi;exact⟨⟨n,e,q,i,hi,QE h⟩,j,m⟩
  cases h
 cases h
section
variable {P : Program} {o : Oper} {es : List Ar} {α : Type}
def aoV {t:TypeId} {j:Array (Nat×Operand)} {s:Nat} {z:Value} (hA:ZR P t s z) (vs:List AY) (hp:Nl (fun i=>some (i*s,s)) (FI z).length j.toList vs=true)
 (hd:(Jm (fun i=>some (i*s,s)) (FI z) j.toList vs).all AY.Az=true) (ho:o.op=.build t j):
 BU P o (Nb j.toList vs) es (.d (.agg (Iw (Jm (fun i=>some (i*s,s)) (FI z) j.toList vs)))) es:=
 .pure fun ok H a w _ _ hn=>by
  obtain⟨⟨n,e,hu,i,hi,hs⟩,hz,h1⟩:=hA;have q:=zV (P:=P) hz w;have u:(underlying t).run P w=.ok (.array n e) w:=aBO
  have I:(sizeOf e).run P w=.ok s w:=aMx
  obtain⟨m,hc,J⟩:=oJ (place:=fun i=>some (i*s,s)) j.toList vs (FI z) z.cells (aIm (ok:=ok) (w:=w) (H:=H) h1) hp hn;refine⟨.agg m,?_,.d _ _ ?_⟩
  ·have e:(j.map fun(i,x)=>(i,a.eval x)).toList=j.toList.map fun p=>(p.1,a.eval p.2):=Ap
   simp only[execOp,ho,Instr.build,FD,q,u,I,FU];rw[e,hc];rfl
  rw[abg hd]at J;generalize Iw (Jm (fun i=>some (i*s,s)) (FI z) j.toList vs)=xs at J ⊢;obtain⟨Y,L⟩:=J;simp only[CM]at Y L
  have Z:∀i,i<xs.length→(xs.map AY.d).getD i .junk=.d (xs.getD i DK):=by
   intro i hi;simp[List.getD,hi]
  have M:m.size=xs.length:=aDZ
  refine .agg xs m M ?_ ?_<;>intro i hi
  ·have :=(L i hi).1;rw[Z i hi]at this;exact this
  have O:=(L i hi).2;rw[Z i hi]at O;have U:i<m.size:=AA
  have e:m.toList.getD i undef=m.getD i undef:=by simp[List.getD,Array.getD,U]
  rw[e]at O;cases O with |d _ _ h=>exact h
def MZ (enc:α→D) (l:List α):D:=.agg (l.map enc)
def Res {x y:Operand} {t e:TypeId} {n:Nat} {k:IntKind} {i:Int} (enc:α→D) {l:List α} {a:α} (h:Ae l i=some a) (O:P.underlying t=some (.array n e)) (z:EL P e false 1) (hl:l.length=n) (U:o.op=.index t x y):
 BU P o [(x,.d (MZ enc l)),(y,.d (.lit (.int k i)))] es (.d (enc a)) es:=
 .pure fun ok H Y w _ _ I=>by
  obtain⟨Z,J⟩:=KQ h;have m:=(Ea I).1;have L:=(Ea I).2.lit;simp only at m L;have q:=(Fb.1 J).1;have hu:(underlying t).run P w=.ok (.array n e) w:=by simp[underlying,O]
  generalize hv:Y.eval x=v at m;cases m with
  |d _ _ m=>
   cases m with
   |agg _ vs u hf M=>
    rw[CM]at u hf M;have j:i.toNat<vs.size:=AA
    refine⟨vs[i.toNat],?_,?_⟩
    ·have hb:0≤i∧i<n:=⟨Z,AA⟩
     simp only[execOp,U,hv,L,Instr.index,asIntOf,FD,GK,hu,FU,hb,and_self,JZ,z.size w,part,z.agg w];simp[j]
    have :=M i.toNat q;simp only[Array.getD,j,dif_pos]at this;have e2:(l.map enc).getD i.toNat DK=enc a:=by simp[List.getD,J]
    rw[e2]at this;exact .d _ _ this
def aqT {x:Operand} {k off:Nat} (m:o.op=.nilCheck x):BU P o [(x,.ptr k off)] es (.ptr k off) es:=
 .pure fun ok H a w _ _ q=>by
  have j:=LH q;simp only at j;generalize z:a.eval x=u at j;cases j with
  |ptr _ _ b s h=>exact⟨_,by simp[execOp,m,z],.ptr _ _ b s h⟩
def anu {x:Operand} {k i off:Nat} (m:o.op=.nilCheck x):BU P o [(x,.lX k i off)] es (.lX k i off) es:=
 .pure fun ok H a w _ _ q=>by
  have j:=LH q;simp only at j;generalize z:a.eval x=u at j;cases j with
  |lX _ _ _ b n cap s h=>exact⟨_,by simp[execOp,m,z],.lX _ _ _ b n cap s h⟩
def alV {x:Operand} {cs:List D} {off:Nat} (q:o.op=.nilCheck x):BU P o [(x,.d (.ref cs off))] es (.d (.ref cs off)) es:=
 .pure fun ok H a w _ _ z=>by
  have j:=LH z;simp only at j;generalize I:a.eval x=u at j;cases j with
  |d _ _ h=>cases h with
   |ref _ _ b p m J L M=>exact⟨_,by simp[execOp,q,I],.d _ _ (.ref _ _ b p m J L M)⟩
def ad9 (n:Nat):D:=.fn (.func n) [] []
end
def Qg {α:Type} (p:α→Prop):List α→Prop
 | []=>True
 |x::l=>p x∧Qg p l
def Qg.mem {α:Type} {p:α→Prop}:∀{l:List α},Qg p l→∀x∈l,p x
 | [],_,x,h=>I8
 |y::l,hl,x,h=>by
  rcases Ei.1 h with rfl|h
  ·exact hl.1
  exact hl.2.mem x h
class Kn (P:Program) where
 und:List (Nat×TypeDesc)
 aly:Qg (fun p:Nat×TypeDesc=>P.underlying p.1=some p.2) und
 ty:List (Nat×Bool×Nat)
 hty:Qg (fun p:Nat×Bool×Nat=>EL P p.1 p.2.1 p.2.2) ty
 fld:List ((Nat×Nat)×Nat)
 hfld:Qg (fun p:(Nat×Nat)×Nat=>Dc P p.1.1 p.1.2 p.2) fld
 part:List ((Nat×Nat)×Nat×Bool×Nat)
 hpart:Qg (fun p:(Nat×Nat)×Nat×Bool×Nat=>mJ P p.1.1 p.1.2 p.2.1 p.2.2.1 p.2.2.2=true) part
 zero:List (Nat×Value)
 hzero:Qg (fun p:Nat×Value=>(P.info? p.1).bind (·.zero)=some p.2∧p.2.cells.all (·.oneCell')=true) zero
 st:List (Nat×List (Nat×Nat)×Value)
 hst:Qg (fun p:Nat×List (Nat×Nat)×Value=>J8 P p.1 p.2.1 p.2.2) st
 arr:List (Nat×Nat×Value)
 harr:Qg (fun p:Nat×Nat×Value=>ZR P p.1 p.2.1 p.2.2) arr
def Qi {β:Type} (t:Nat):List (Nat×β)→Option β
 | []=>none
 |(u,b)::l=>match Nat.beq t u with |true=>some b|false=>Qi t l
def OA {β:Type} {t:Nat} {b:β}:∀{l:List (Nat×β)},Qi t l=some b→(t,b)∈l
 | [],h=>GL
 |(u,c)::l,h=>by
  unfold Qi at h;split at h
  ·rename_i e;cases h;rw[aMK e];exact Ep
  exact FW _ (OA h)
def yu {β:Type} (t f:Nat):List ((Nat×Nat)×β)→Option β
 | []=>none
 |((u,g),b)::l=>match Nat.beq t u&&Nat.beq f g with |true=>some b|false=>yu t f l
def yJ {β:Type} {t f:Nat} {b:β}:∀{l:List ((Nat×Nat)×β)},yu t f l=some b→((t,f),b)∈l
 | [],h=>GL
 |((u,g),c)::l,h=>by
  unfold yu at h;split at h
  ·rename_i e;cases h;rw[CW]at e;rw[aMK e.1,aMK e.2];exact Ep
  exact FW _ (yJ h)
structure PI where
 ns:List (Operand×AY)
 x:AY
 E:List Ar
 bar:Bool
def aHx (op:BinOp) (k:IntKind) (a b:Int):Option Value:=
 match op with
 | .add=>some (.int k (k.wrap (a+b)))
 | .sub=>some (.int k (k.wrap (a-b)))
 | .mul=>some (.int k (k.wrap (a*b)))
 | .eql=>some (.bool (a==b))
 | .neq=>some (.bool (a != b))
 | .lss=>some (.bool (decide (a<b)))
 | .leq=>some (.bool (decide (a≤b)))
 | .gtr=>some (.bool (decide (a>b)))
 | .geq=>some (.bool (decide (a≥b)))
 |_=>none
def aqG {op:BinOp} {k:IntKind} {a b:Int} {r:Value} {t:TypeId} {P:Program} (h:aHx op k a b=some r) (w:World):(binOp op t (.int k a) (.int k b)).run P w=.ok r w:=by
 unfold aHx at h;cases op<;>first|(cases h;done)|(cases h;simp[binOp,Op.intArith,Op.intCmp];done)|(cases h;cases k<;>rfl)
def aIU (op:BinOp) (a b:ByteArray):Option Value:=
 match op with
 | .eql=>some (.bool (a.toList==b.toList))
 | .neq=>some (.bool (!(a.toList==b.toList)))
 | .lss=>some (.bool (Op.bytesLess a.toList b.toList))
 | .leq=>some (.bool (Op.bytesLess a.toList b.toList||a.toList==b.toList))
 | .gtr=>some (.bool (!(Op.bytesLess a.toList b.toList||a.toList==b.toList)))
 | .geq=>some (.bool (!Op.bytesLess a.toList b.toList))
 |_=>none
def afY {op:BinOp} {a b:ByteArray} {r:Value} {t:TypeId} {P:Program} (h:aIU op a b=some r) (w:World):(binOp op t (.string a) (.string b)).run P w=.ok r w:=by
 unfold aIU at h;cases op<;>first|(cases h;done)|(cases h;rfl)
def BU.aDa {P:Program} {o:Oper} {ns j:List (Operand×AY)} {es es':List Ar} {x:AY} (h:BU P o ns es x es') (m:∀n∈ns,n∈j∨n=(.const (.slice none 0 0),.d (.sl []))):BU P o j es x es':=by
 intro C ok H a w Q u z;refine h C ok H a w Q u (fun n q=>?_);rcases m n q with I|rfl
 ·exact z n I
 exact .d _ _ (.sl0 none 0)
def aPg {P:Program} (K:Kn P) (σ:Ak) (o:Oper):Option PI:=
 match o.op with
 | .move x=>match x with
   | .const (.slice none 0 0)=>some ⟨[],.d (.sl []),σ.ents,false⟩
   |x=>some ⟨[(x,σ.get x)],σ.get x,σ.ents,false⟩
 | .assign x=>match x with
   | .const (.slice none 0 0)=>some ⟨[],.d (.sl []),σ.ents,false⟩
   |x=>some ⟨[(x,σ.get x)],σ.get x,σ.ents,false⟩
 | .pick c x y=>match σ.get c with
   | .d (.lit (.bool true))=>some ⟨[(c,.d (.lit (.bool true))),(x,σ.get x)],σ.get x,σ.ents,false⟩
   | .d (.lit (.bool false))=>some ⟨[(c,.d (.lit (.bool false))),(y,σ.get y)],σ.get y,σ.ents,false⟩
   |_=>none
 | .binOp op t x y _=>match σ.get x,σ.get y with
   | .d (.lit (.int k a)),.d (.lit (.int k' b))=>if k=k' then(aHx op k a b).map fun r=>⟨[(x,.d (.lit (.int k a))),(y,.d (.lit (.int k b)))],.d (.lit r),σ.ents,false⟩else none
   | .d (.lit (.string a)),.d (.lit (.string b))=>(aIU op a b).map fun r=>⟨[(x,.d (.lit (.string a))),(y,.d (.lit (.string b)))],.d (.lit r),σ.ents,false⟩
   | .d (.lit (.bool a)),.d (.lit (.bool b))=>match Qi t K.und with
     |some .bool=>match op with
      | .eql=>some ⟨[(x,.d (DL a)),(y,.d (DL b))],.d (DL (a==b)),σ.ents,false⟩
      | .neq=>some ⟨[(x,.d (DL a)),(y,.d (DL b))],.d (DL (!(a==b))),σ.ents,false⟩
      |_=>none
     |_=>none
   |_,_=>none
 | .unOp op _ x=>match σ.get x with
   | .d (.lit (.bool b))=>match op with
     | .not=>some ⟨[(x,.d (.lit (.bool b)))],.d (.lit (.bool !b)),σ.ents,false⟩
     |_=>none
   | .d (.lit (.int k n))=>match op with
     | .neg=>some ⟨[(x,.d (.lit (.int k n)))],.d (.lit (.int k (k.wrap (0-n)))),σ.ents,false⟩
     |_=>none
   |_=>none
 | .convert s t x=>match Qi s K.und,Qi t K.und,σ.get x with
   |some (.int I),some (.int k),.d (.lit (.int J n))=>if I=J then some ⟨[(x,.d (.lit (.int I n)))],.d (.lit (.int k (k.wrap n))),σ.ents,false⟩else none
   |some .string,some .string,.d (.lit (.string u))=>some ⟨[(x,.d (DY u))],.d (DY u),σ.ents,false⟩
   |_,_,_=>none
 | .extract x i=>match σ.get x with
   | .fB xs=>match xs[i]? with
     |some v=>some ⟨[(x,.fB xs)],v,σ.ents,false⟩
     |none=>none
   |_=>none
 | .fieldAddr t x f=>match yu t f K.fld,σ.get x with
   |some off,.ptr k q=>some ⟨[(x,.ptr k q)],.ptr k (q+off),σ.ents,false⟩
   |some off,.lX k i q=>some ⟨[(x,.lX k i q)],.lX k i (q+off),σ.ents,false⟩
   |some off,.d (.ref cs q)=>some ⟨[(x,.d (.ref cs q))],.d (.ref cs (q+off)),σ.ents,false⟩
   |_,_=>none
 | .nilCheck x=>match σ.get x with
   | .ptr k q=>some ⟨[(x,.ptr k q)],.ptr k q,σ.ents,false⟩
   | .lX k i q=>some ⟨[(x,.lX k i q)],.lX k i q,σ.ents,false⟩
   | .d (.ref cs q)=>some ⟨[(x,.d (.ref cs q))],.d (.ref cs q),σ.ents,false⟩
   |_=>none
 | .field t x f=>match yu t f K.part,σ.get x with
   |some (off,agg,n),.d (.agg cs)=>if off+n≤cs.length∧(agg=false→n=1)then some ⟨[(x,.d (.agg cs))],.d (Pv agg cs off n),σ.ents,false⟩else none
   |_,_=>none
 | .load t x=>match Qi t K.ty,σ.get x with
   |some (agg,n),.d (.ref cs off)=>if off+n≤cs.length∧(agg=false→n=1)then some ⟨[(x,.d (.ref cs off))],.d (Pv agg cs off n),σ.ents,false⟩else none
   |some (agg,n),.ptr k off=>match σ.ents[k]? with
    |some (.box cs)=>if(off+n≤cs.length∧(agg=false→n=1))∧cs.all AY.Az=true then some ⟨[(x,.ptr k off)],.d (Pv agg (Iw cs) off n),σ.ents,false⟩else match agg,n,cs[off]? with
     |false,1,some v=>some ⟨[(x,.ptr k off)],v,σ.ents,false⟩
     |_,_,_=>none
    |_=>none
   |_,_=>none
 | .box _ x=>if(σ.get x).cells.all AY.leaf=true then some ⟨[(x,σ.get x)],.ptr σ.ents.length 0,σ.ents++[.box (σ.get x).cells],true⟩else none
 | .alloc t=>match Qi t K.zero with
   |some z=>some ⟨[],.ptr σ.ents.length 0,σ.ents++[.box (FI z)],true⟩
   |none=>none
 | .store t x y=>match Qi t K.ty,σ.get x with
   |some (_,n),.ptr k off=>match σ.ents[k]? with
    |some (.box cs)=>match y with
     | .const (.slice none 0 0)=>if n=1∧off+1≤cs.length then some ⟨[(x,.ptr k off)],.junk,σ.ents.set k (.box (setAt cs off [.d (.sl [])])),true⟩else none
     |y=>if((σ.get y).cells.all AY.leaf=true∧(σ.get y).cells.length=n)∧off+n≤cs.length then some ⟨[(x,.ptr k off),(y,σ.get y)],.junk,σ.ents.set k (.box (setAt cs off (σ.get y).cells)),true⟩else none
    |_=>none
   |_,_=>none
 | .build t j=>match Qi t K.st with
   |some (m,z)=>
    if Nl (fun(i:Nat)=>m[i]?) (FI z).length j.toList (j.toList.map fun p=>σ.get p.2)=true∧(Jm (fun(i:Nat)=>m[i]?) (FI z) j.toList (j.toList.map fun p=>σ.get p.2)).all AY.Az=true
    then some ⟨Nb j.toList (j.toList.map fun p=>σ.get p.2),.d (.agg (Iw (Jm (fun(i:Nat)=>m[i]?) (FI z) j.toList (j.toList.map fun p=>σ.get p.2)))),σ.ents,false⟩
    else none
   |none=>match Qi t K.arr with
    |some (s,z)=>
     if Nl (fun i=>some (i*s,s)) (FI z).length j.toList (j.toList.map fun p=>σ.get p.2)=true∧(Jm (fun i=>some (i*s,s)) (FI z) j.toList (j.toList.map fun p=>σ.get p.2)).all AY.Az=true
     then some ⟨Nb j.toList (j.toList.map fun p=>σ.get p.2),.d (.agg (Iw (Jm (fun i=>some (i*s,s)) (FI z) j.toList (j.toList.map fun p=>σ.get p.2)))),σ.ents,false⟩
     else none
    |none=>none
 | .call c=>match c.callee,c.args.toList,c.argTypes.toList with
   | .builtin .len,[x],[t]=>match Qi t K.und,σ.get x with
     |some .string,.d (.lit (.string s))=>some ⟨[(x,.d (DY s))],.d (Aa s.size),σ.ents,false⟩
     |_,_=>none
   |_,_,_=>none
 |_=>none
def aNm (σ:Ak):∀(l:List (Nat×Operand)),needs σ (Nb l (l.map fun p=>σ.get p.2))
 | []=>trivial
 |(_,x)::l=>⟨rfl,aNm σ l⟩
def akL {P:Program} (K:Kn P) {σ:Ak} {o:Oper} {r:PI} (h:aPg K σ o=some r):BU P o r.ns σ.ents r.x r.E∧needs σ r.ns∧(r.bar=false→r.E=σ.ents):=by
 unfold aPg at h;split at h
 ·rename_i x j;split at h
  ·cases h;exact⟨akF j,trivial,fun _=>rfl⟩
  cases h;exact⟨ai7 j,⟨rfl,trivial⟩,fun _=>rfl⟩
 ·rename_i x j;split at h
  ·cases h;exact⟨atd j,trivial,fun _=>rfl⟩
  cases h;exact⟨afi j,⟨rfl,trivial⟩,fun _=>rfl⟩
 ·rename_i c x y j;split at h
  ·rename_i e;cases h;exact⟨alc true rfl j,⟨e,rfl,trivial⟩,fun _=>rfl⟩
  ·rename_i e;cases h;exact⟨aqU false rfl j,⟨e,rfl,trivial⟩,fun _=>rfl⟩
  cases h
 ·rename_i op t x y t' j;split at h
  ·rename_i k a k' b O U;split at h
   ·rename_i I;subst I;rw[Ux]at h;obtain⟨v,L,rfl⟩:=h;exact⟨Nk j (aqG L) ⟨rfl,rfl⟩,⟨O,U,trivial⟩,fun _=>rfl⟩
   cases h
  ·rename_i a b O U;rw[Ux]at h;obtain⟨v,L,rfl⟩:=h;exact⟨Nk j (afY L) ⟨rfl,rfl⟩,⟨O,U,trivial⟩,fun _=>rfl⟩
  ·rename_i a b O U;split at h
   ·rename_i Y;have Y:=K.aly.mem _ (OA Y);split at h
    ·cases h;exact⟨aql Y j,⟨O,U,trivial⟩,fun _=>rfl⟩
    ·cases h;exact⟨aj8 Y j,⟨O,U,trivial⟩,fun _=>rfl⟩
    cases h
   cases h
  cases h
 ·rename_i op t x j;split at h
  ·rename_i b e;split at h
   ·cases h;exact⟨aOw j (fun _=>rfl),⟨e,trivial⟩,fun _=>rfl⟩
   cases h
  ·rename_i k n e;split at h
   ·cases h;exact⟨aOw j (fun _=>rfl),⟨e,trivial⟩,fun _=>rfl⟩
   cases h
  cases h
 ·rename_i s t x j;split at h
  ·rename_i k0 k k1 n q h2 e;split at h
   ·rename_i I;subst I;cases h;exact⟨anP (K.aly.mem _ (OA q)) (K.aly.mem _ (OA h2)) j,⟨e,trivial⟩,fun _=>rfl⟩
   cases h
  ·rename_i u q h2 e;cases h;exact⟨ahs (K.aly.mem _ (OA q)) (K.aly.mem _ (OA h2)) j,⟨e,trivial⟩,fun _=>rfl⟩
  cases h
 ·rename_i x i j;split at h
  ·rename_i xs e;split at h
   ·rename_i v L;cases h;exact⟨am1 j L,⟨e,trivial⟩,fun _=>rfl⟩
   cases h
  cases h
 ·rename_i t x f j;split at h
  ·rename_i off k o' q e;cases h;exact⟨aib (K.hfld.mem _ (yJ q)) j,⟨e,trivial⟩,fun _=>rfl⟩
  ·rename_i off k i o' q e;cases h;exact⟨anx (K.hfld.mem _ (yJ q)) j,⟨e,trivial⟩,fun _=>rfl⟩
  ·rename_i off cs o' q e;cases h;exact⟨aqS (K.hfld.mem _ (yJ q)) j,⟨e,trivial⟩,fun _=>rfl⟩
  cases h
 ·rename_i x j;split at h
  ·rename_i e;cases h;exact⟨aqT j,⟨e,trivial⟩,fun _=>rfl⟩
  ·rename_i e;cases h;exact⟨anu j,⟨e,trivial⟩,fun _=>rfl⟩
  ·rename_i e;cases h;exact⟨alV j,⟨e,trivial⟩,fun _=>rfl⟩
  cases h
 ·rename_i t x f j;split at h
  ·rename_i off agg n cs q e;split at h
   ·rename_i m;cases h;exact⟨akR rfl (K.hpart.mem _ (yJ q)) m.1 m.2 j,⟨e,trivial⟩,fun _=>rfl⟩
   cases h
  cases h
 ·rename_i t x j;split at h
  ·rename_i agg n cs off q e;split at h
   ·rename_i m;cases h;exact⟨aqQ rfl (K.hty.mem _ (OA q)) m.1 m.2 j,⟨e,trivial⟩,fun _=>rfl⟩
   cases h
  ·rename_i agg n k off q e;split at h
   ·rename_i cs I;split at h
    ·rename_i m;cases h;exact⟨arp rfl I m.2 (K.hty.mem _ (OA q)) m.1.1 m.1.2 j,⟨e,trivial⟩,fun _=>rfl⟩
    split at h
    ·rename_i v L _;cases h;exact⟨aR2 I L (K.hty.mem _ (OA q)) j,⟨e,trivial⟩,fun _=>rfl⟩
    cases h
   cases h
  cases h
 ·rename_i t x j;split at h
  ·rename_i m;cases h;exact⟨ap6 m j,⟨rfl,trivial⟩,fun M=>by cases M⟩
  cases h
 ·rename_i t j;split at h
  ·rename_i z hz;cases h;exact⟨ash (K.hzero.mem _ (OA hz)).1 (K.hzero.mem _ (OA hz)).2 j,trivial,fun M=>by cases M⟩
  cases h
 ·rename_i t x y j;split at h
  ·rename_i agg n k off q e;split at h
   ·rename_i cs I;split at h
    ·split at h
     ·rename_i m;cases h;refine⟨BU.aDa (ads (v:=.d (.sl [])) I rfl (by have h9:=(K.hty.mem _ (OA q)).size;rw[m.1]at h9;exact h9) rfl m.2 j) (fun n hn=>?_),⟨e,trivial⟩,fun M=>by cases M⟩;simp only[Ei,Ez,kV]at hn;rcases hn with rfl|rfl
      ·exact .inl Ap
      exact .inr rfl
     cases h
    split at h
    ·rename_i m;cases h;exact⟨ads I m.1.1 (K.hty.mem _ (OA q)).size m.1.2 m.2 j,⟨e,rfl,trivial⟩,fun M=>by cases M⟩
    cases h
   cases h
  cases h
 ·rename_i t parts j;split at h
  ·rename_i Z z hs;split at h
   ·rename_i m;cases h;exact⟨agw (K.hst.mem _ (OA hs)) _ j rfl m.1 m.2,aNm σ _,fun _=>rfl⟩
   cases h
  split at h
  ·rename_i s z hs;split at h
   ·rename_i m;cases h;exact⟨aoV (K.harr.mem _ (OA hs)) _ m.1 m.2 j,aNm σ _,fun _=>rfl⟩
   cases h
  cases h
 ·rename_i c j;split at h
  ·rename_i x t J ha ht
   have j:o.op=.call { callee:=.builtin .len,args:= #[x],argTypes:= #[t] }:=by
    obtain⟨cal,aF8,ts⟩:=c;simp only at J ha ht;rw[j,J,show aF8= #[x]from by rw[←lJ (xs:=aF8),ha],show ts= #[t]from by rw[←lJ (xs:=ts),ht]]
   split at h
   ·rename_i s q e;cases h;exact⟨aif s (K.aly.mem _ (OA q)) j,⟨e,trivial⟩,fun _=>rfl⟩
   cases h
  cases h
 cases h
def JL (ops:Array Oper) (σ:Ak):Option (Nat×Bool)→Option Bool
 |none=>some true
 |some (j,m)=>match(ops[j]?).bind (·.dst)with
  |some d=>match σ.slots.getD d .junk with
   | .d (.lit (.bool b))=>some (b==m)
   | .d (.lit (.tuple a))=>match a.toList with
     | []=>some false
     |_=>none
   |_=>none
  |none=>none
def MS {ops:Array Oper} {σ:Ak} {g:Option (Nat×Bool)} (h:JL ops σ g=some true):VK ops σ g:=by
 unfold JL at h;split at h
 ·exact .inl rfl
 rename_i j m;split at h
 ·rename_i d hd;split at h
  ·rename_i b hs;refine .inr ⟨j,m,d,b,rfl,hd,hs,?_⟩;simpa using h
  ·split at h<;>cases h
  cases h
 cases h
def atO {ops:Array Oper} {σ:Ak} {g:Option (Nat×Bool)} (h:JL ops σ g=some false):YG ops σ g:=by
 unfold JL at h;split at h
 ·cases h
 rename_i j m;split at h
 ·rename_i d hd;split at h
  ·rename_i b hs;refine aoR j m d b rfl hd hs ?_;have :(b==m)=false:=CO h;cases b<;>cases m<;>first|rfl|cases this
  ·rename_i a hs;split at h
   ·rename_i ha;have ha:a= #[]:=by rw[←lJ (xs:=a),ha]
    subst ha;exact akP j m d rfl hd hs
   cases h
  cases h
 cases h
def Wy {P:Program} (K:Kn P) (ops:Array Oper) (σ:Ak) (o:Oper):Option PI:=
 match JL ops σ o.guard with
 |some true=>match aPg K σ o with
  |some r=>if(Lh r.ns).all (tmpsOf o).contains=true then some r else none
  |none=>none
 |some false=>some ⟨[],.d (.lit undef),σ.ents,false⟩
 |none=>none
def Xl {P:Program} (K:Kn P) {ops:Array Oper} {σ:Ak} {o:Oper} {r:PI} (h:Wy K ops σ o=some r):Si P ops σ r.x r.E r.bar o:=by
 unfold Wy at h;split at h
 ·rename_i j;split at h
  ·rename_i J m;split at h
   ·rename_i q;cases h;obtain⟨u,z,I⟩:=akL K m;exact⟨.inl ⟨_,u,z,q,MS j⟩,I⟩
   cases h
  cases h
 ·rename_i j;cases h;exact⟨.inr ⟨rfl,rfl,atO j⟩,fun _=>rfl⟩
 cases h
def Hz {P:Program} (K:Kn P) (ops:Array Oper):Nat→List Oper→Ak→Option (Ak×List PI)
 |0,_,σ=>some (σ,[])
 |n+1,l,σ=>match l with
  |o::l=>match Wy K ops σ o with
   |some r=>match Hz K ops n l (σ.put o.dst r.x r.E)with
    |some (σ',rs)=>some (σ',r::rs)
    |none=>none
   |none=>none
  | []=>none
def SQ :Option (Ak×List PI)→Ak
 |some (σ,_)=>σ
 |none=>⟨[],[],0⟩
def Zi :Option (Ak×List PI)→List PI
 |some (_,rs)=>rs
 |none=>[]
def Chain.auto {P:Program} (K:Kn P) {ops:Array Oper}:∀(n:Nat) {l:List Oper} {σ σ':Ak},(Hz K ops n l σ).isSome=true→Chain P ops (l.drop n) (SQ (Hz K ops n l σ)) σ'→Chain P ops l σ σ'
 |0,l,σ,σ',_,k=>by simpa[Hz,SQ]using k
 |n+1,l,σ,σ',h,k=>by
  unfold Hz at h k;split at h
  ·rename_i o l';split at h
   ·rename_i r m;split at h
    ·rename_i q rs j;simp only[m,j]at k;refine .aeR o.dst (Xl K m) rfl (Chain.auto K n uI ?_);rw[j];exact k
    cases h
   cases h
  cases h
def Ew.auto {P:Program} (K:Kn P) {ops:Array Oper}:∀(n:Nat) {l:List Oper} {σ σ':Ak} {rs:List AY} {ess:List (List Ar)} {bs:List Bool},(Hz K ops n l σ).isSome=true→Ew P ops (l.drop n) (SQ (Hz K ops n l σ)) rs ess bs σ'→
 Ew P ops l σ ((Zi (Hz K ops n l σ)).map PI.x++rs) ((Zi (Hz K ops n l σ)).map PI.E++ess) ((Zi (Hz K ops n l σ)).map PI.bar++bs) σ'
 |0,l,σ,σ',rs,ess,bs,_,k=>by simpa[Hz,SQ,Zi]using k
 |n+1,l,σ,σ',rs,ess,bs,h,k=>by
  unfold Hz at h k ⊢;split at h
  ·rename_i o l';split at h
   ·rename_i r m;split at h
    ·rename_i u q j;simp only[m,j]at k ⊢;refine .aeR o.dst (Xl K m) rfl ?_;have :=Ew.auto K n (l:=l') (σ:=σ.put o.dst r.x r.E) (σ':=σ') (rs:=rs) (ess:=ess) (bs:=bs) uI (by rw[j];exact k);rw[j]at this;exact this
    cases h
   cases h
  cases h
def Chain.a {P:Program} [T:Kn P] {ops:Array Oper} {l:List Oper} {σ σ':Ak} (n:Nat) (k:Chain P ops (l.drop n) (SQ (Hz T ops n l σ)) σ') (h:(Hz T ops n l σ).isSome=true:=by kernel_rfl):Chain P ops l σ σ':=Chain.auto T n h k
def Ew.a {P:Program} [T:Kn P] {ops:Array Oper} {l:List Oper} {σ σ':Ak} {rs:List AY} {ess:List (List Ar)} {bs:List Bool} (n:Nat) (k:Ew P ops (l.drop n) (SQ (Hz T ops n l σ)) rs ess bs σ') (h:(Hz T ops n l σ).isSome=true:=by kernel_rfl):
 Ew P ops l σ ((Zi (Hz T ops n l σ)).map PI.x++rs) ((Zi (Hz T ops n l σ)).map PI.E++ess) ((Zi (Hz T ops n l σ)).map PI.bar++bs) σ':=Ew.auto T n h k
def Chain.c {P:Program} [T:Kn P] {ops:Array Oper} {o:Oper} {rest:List Oper} {σ σ':Ak} {e c:Bool} (h:some e=some c) (k:Chain P ops rest (σ.rW o.dst (.d (.lit (.bool c)))) σ') (hs:(Wy T ops σ o).map (fun r=>(r.x,r.E,r.bar))=some (.d (.lit (.bool e)),σ.ents,false):=by kernel_rfl):Chain P ops (o::rest) σ σ':=by
 rw[Ux]at hs;obtain⟨r,q,j⟩:=hs;have m:=Xl T q;simp only[Ru]at j;rw[j.1,j.2.1,j.2.2,CO h]at m;exact .aeR o.dst m rfl k
def Ew.c {P:Program} [T:Kn P] {ops:Array Oper} {o:Oper} {rest:List Oper} {σ σ':Ak} {rs:List AY} {ess:List (List Ar)} {bs:List Bool} {e c:Bool} (h:some e=some c) (k:Ew P ops rest (σ.rW o.dst (.d (.lit (.bool c)))) rs ess bs σ') (hs:(Wy T ops σ o).map (fun r=>(r.x,r.E,r.bar))=some (.d (.lit (.bool e)),σ.ents,false):=by kernel_rfl):
 Ew P ops (o::rest) σ (.d (.lit (.bool c))::rs) (σ.ents::ess) (false::bs) σ':=by
 rw[Ux]at hs;obtain⟨r,q,j⟩:=hs;have m:=Xl T q;simp only[Ru]at j;rw[j.1,j.2.1,j.2.2,CO h]at m;exact .aeR o.dst m rfl k
def aQP (σ:Ak) (ns:List (Operand×AY)):Prop:=(ns.map fun n=>σ.get n.1)=ns.map (·.2)
def Ua {σ:Ak}:∀{ns:List (Operand×AY)},aQP σ ns→needs σ ns
 | [],_=>trivial
 |n::ns,h=>by
  simp only[aQP,Ig,aDS]at h;exact⟨h.1,Ua h.2⟩
def Chain.p {P:Program} {ops:Array Oper} {o:Oper} {rest:List Oper} {σ σ':Ak} {ns:List (Operand×AY)} {x:AY} (h:BU P o ns σ.ents x σ.ents) (k:Chain P ops rest (σ.rW o.dst x) σ') (j:(ns.map fun n=>σ.get n.1)=ns.map (·.2):=by kernel_rfl) (m:JL ops σ o.guard=some true:=by kernel_rfl):Chain P ops (o::rest) σ σ':=
 .op o.dst h (Ua j) (MS m) rfl k
def Ew.p {P:Program} {ops:Array Oper} {o:Oper} {rest:List Oper} {σ σ':Ak} {ns:List (Operand×AY)} {x:AY} {rs:List AY} {ess:List (List Ar)} {bs:List Bool} (h:BU P o ns σ.ents x σ.ents) (k:Ew P ops rest (σ.rW o.dst x) rs ess bs σ') (j:(ns.map fun n=>σ.get n.1)=ns.map (·.2):=by kernel_rfl) (m:JL ops σ o.guard=some true:=by kernel_rfl)
 (q:(Lh ns).all (tmpsOf o).contains=true:=by kernel_rfl):Ew P ops (o::rest) σ (x::rs) (σ.ents::ess) (false::bs) σ':=
 .op o.dst h (Ua j) (MS m) rfl q k
def Chain.e {P:Program} {ops:Array Oper} {o:Oper} {rest:List Oper} {σ σ':Ak} {ns:List (Operand×AY)} {x:AY} {es':List Ar} (E:List Ar) (h:BU P o ns σ.ents x es') (k:Chain P ops rest (σ.put o.dst x E) σ') (j:es'=E:=by kernel_rfl) (m:(ns.map fun n=>σ.get n.1)=ns.map (·.2):=by kernel_rfl) (q:JL ops σ o.guard=some true:=by kernel_rfl):Chain P ops (o::rest) σ σ':=
 .oe o.dst E h j (Ua m) (MS q) rfl k
def Ew.e {P:Program} {ops:Array Oper} {o:Oper} {rest:List Oper} {σ σ':Ak} {ns:List (Operand×AY)} {x:AY} {es':List Ar} {rs:List AY} {ess:List (List Ar)} {bs:List Bool} (E:List Ar) (h:BU P o ns σ.ents x es') (k:Ew P ops rest (σ.put o.dst x E) rs ess bs σ') (j:es'=E:=by kernel_rfl) (m:(ns.map fun n=>σ.get n.1)=ns.map (·.2):=by kernel_rfl) (q:JL ops σ o.guard=some true:=by kernel_rfl)
 (u:(Lh ns).all (tmpsOf o).contains=true:=by kernel_rfl):Ew P ops (o::rest) σ (x::rs) (E::ess) (true::bs) σ':=
 .oe o.dst E h j (Ua m) (MS q) rfl u k
def Uh (σ:Ak) (o:Oper):Option (FuncId×List AY):=
 match o.op with
 | .call c=>match c.callee with
   | .value (.func f)=>some (f,c.args.toList.map σ.get)
   |_=>none
 |_=>none
def aTo {srcs:List DW}:∀{l:List AY},l.all AY.Az=true→Mc srcs l l
 | [],_=>trivial
 |x::l,h=>by
  simp only[oC,CW]at h;refine⟨?_,aTo h.2⟩;cases x with
  |d x=>exact .inl rfl
  |_=>cases h.1
def aTE (σ:Ak):∀(l:List Operand),needs σ (F9 l (l.map σ.get))
 | []=>trivial
 |_::l=>⟨rfl,aTE σ l⟩
def aCg {P:Program} {σ:Ak} {o:Oper} {f:FuncId} {eH:List AY} {q:AY} (L:Am P f eH [] q []) (M:Dl P f=true) (m:Uh σ o=some (f,eH)) (hd:eH.all AY.Az=true):∃ns,BU P o ns σ.ents (q.up [] σ.ents.length) σ.ents∧needs σ ns∧(Lh ns).all (tmpsOf o).contains=true:=by
 unfold Uh at m;split at m
 ·rename_i c J;split at m
  ·rename_i Y j;cases m;obtain⟨callee,args,ats⟩:=c;simp only at j;subst j;refine⟨_,adM L M (aTo hd) Ap rfl J,aTE σ _,?_⟩;rw[DT];intro t z;unfold Lh at z;rw[U5]at z;obtain⟨n,O,I⟩:=z
   have u:n.1∈args.toList:=by
    have :∀(l:List Operand) (vs:List AY),n∈F9 l vs→n.1∈l:=by
     intro l
     induction l with
     |nil=>intro vs h;cases vs<;>simp[F9]at h
     |cons x l U=>
      intro vs h;cases vs with
      |nil=>simp[F9]at h
      |cons v vs=>
       simp only[F9,Ei]at h;rcases h with rfl|h
       ·exact Ep
       exact FW _ (U vs h)
    exact this _ _ O
   unfold tmpsOf;simp only[List.contains_iff_mem,U5];refine⟨n.1,?_,I⟩;rw[J];show n.1∈(#[Operand.func f]++args).toList;simp[u]
  cases m
 cases m
def Chain.call {P:Program} {ops:Array Oper} {o:Oper} {rest:List Oper} {σ σ':Ak} {f:FuncId} {eH:List AY} {j:AY} (m:Am P f eH [] j []) (q:Dl P f=true) (k:Chain P ops rest (σ.rW o.dst (j.up [] σ.ents.length)) σ') (u:Uh σ o=some (f,eH):=by kernel_rfl)
 (hd:eH.all AY.Az=true:=by kernel_rfl) (z:JL ops σ o.guard=some true:=by kernel_rfl):Chain P ops (o::rest) σ σ':=by
 obtain⟨ns,I,J,_⟩:=aCg m q u hd;exact .op o.dst I J (MS z) rfl k
def Ew.call {P:Program} {ops:Array Oper} {o:Oper} {rest:List Oper} {σ σ':Ak} {f:FuncId} {eH:List AY} {j:AY} {rs:List AY} {ess:List (List Ar)} {bs:List Bool} (m:Am P f eH [] j []) (q:Dl P f=true) (k:Ew P ops rest (σ.rW o.dst (j.up [] σ.ents.length)) rs ess bs σ') (u:Uh σ o=some (f,eH):=by kernel_rfl)
 (hd:eH.all AY.Az=true:=by kernel_rfl) (z:JL ops σ o.guard=some true:=by kernel_rfl):Ew P ops (o::rest) σ (j.up [] σ.ents.length::rs) (σ.ents::ess) (false::bs) σ':=by
 obtain⟨ns,I,J,L⟩:=aCg m q u hd;exact .op o.dst I J (MS z) rfl L k
def yC (v:Value):Exit:=.panic [{ v,recovered:=false }]
structure Ch (P:Program) (ops:Array Oper) (l:List Oper) (σ:Ak) (K:Exit→Ak→Prop):Prop where
 run:∀(ro:Option Nat) (l2:List Oper) (Q:Exit→Act→World→Prop) (C:EN) (ok:Nat→Prop) (H:List BO) (a:Act) (w:World),Holds C ok H σ a w→
  ((∀σ' ok' H' a' w',K .normal σ'→Holds C ok' H' σ' a' w'→wpListIn (Iz ro) 0 P ops Q l2 a' w')∧(∀v σ' ok' H' a' w',K (yC v) σ'→Holds C ok' H' σ' a' w'→Q (yC v) a' w'))→wpListIn (Iz ro) 0 P ops Q (l++l2) a w
section
variable {P : Program} {ops : Array Oper} {o : Oper} {rest l : List Oper} {σ : Ak} {K : Exit → Ak → Prop}
def Ch.nil (h:K .normal σ):Ch P ops [] σ K:=⟨fun _ _ _ _ _ _ _ _ j m=>m.1 _ _ _ _ _ h j⟩
def Ch.bJ {M:Ak→Prop} (h:M σ):Ch P ops [] σ (Ko M K):=.nil h
def Ch.step {x:AY} {E:List Ar} {bar:Bool} (hs:Si P ops σ x E bar o) (k:Ch P ops rest (σ.put o.dst x E) K):Ch P ops (o::rest) σ K:=by
 refine⟨fun ro m Q C ok H a w j J=>?_⟩;show wpListIn (Iz ro) 0 P ops Q (o::(rest++m)) a w;unfold wpListIn;rcases hs.1 with⟨ns,L,M,_,q⟩|⟨rfl,rfl,q⟩
 ·rw[CV (PZ j q)];refine Qh ?_ (L.inR ro C ok H a w Q j.mem (fun n u=>PK M n u▸j.get n.1));rintro a' w' ⟨v,ok',H',rfl,z,I,O,U⟩;exact k.run ro m Q C _ _ _ _ (j.put o.dst z I O U) J
 rw[Cc (by rw[aMO j q];simp)];exact⟨fun _ _=>trivial,k.run ro m Q C _ _ _ _ (j.put o.dst (.refl _ _) (.refl _) j.mem (.d _ _ (.lit _))) J⟩
def Ch.conv (m:Ak) (h:∀C ok H a w,Holds C ok H σ a w→∃ok',Holds C ok' H m a w) (k:Ch P ops l m K):Ch P ops l σ K:=⟨fun ro q Q C ok H a w u z=>by
 obtain⟨ok',j⟩:=h C ok H a w u
 exact k.run ro q Q C _ _ _ _ j z⟩
def Ch.auto (T:Kn P):∀(n:Nat) {l:List Oper} {σ:Ak},(Hz T ops n l σ).isSome=true→Ch P ops (l.drop n) (SQ (Hz T ops n l σ)) K→Ch P ops l σ K
 |0,l,σ,_,k=>by simpa[Hz,SQ]using k
 |n+1,l,σ,h,k=>by
  unfold Hz at h k;split at h
  ·rename_i o l';split at h
   ·rename_i r m;split at h
    ·rename_i q rs j;simp only[m,j]at k;refine .step (Xl T m) (Ch.auto T n uI ?_);rw[j];exact k
    cases h
   cases h
  cases h
def Ch.a [T:Kn P] (n:Nat) (k:Ch P ops (l.drop n) (SQ (Hz T ops n l σ)) K) (h:(Hz T ops n l σ).isSome=true:=by kernel_rfl):Ch P ops l σ K:=Ch.auto T n h k
def Ch.p {ns:List (Operand×AY)} {x:AY} (h:BU P o ns σ.ents x σ.ents) (k:Ch P ops rest (σ.rW o.dst x) K) (j:(ns.map fun n=>σ.get n.1)=ns.map (·.2):=by kernel_rfl) (m:JL ops σ o.guard=some true:=by kernel_rfl) (q:(Lh ns).all (tmpsOf o).contains=true:=by kernel_rfl):Ch P ops (o::rest) σ K:=
 .step (aQr h (Ua j) (MS m) q) k
def Ch.e {ns:List (Operand×AY)} {x:AY} {es':List Ar} (E:List Ar) (h:BU P o ns σ.ents x es') (k:Ch P ops rest (σ.put o.dst x E) K) (j:es'=E:=by kernel_rfl) (m:(ns.map fun n=>σ.get n.1)=ns.map (·.2):=by kernel_rfl) (q:JL ops σ o.guard=some true:=by kernel_rfl) (u:(Lh ns).all (tmpsOf o).contains=true:=by kernel_rfl):Ch P ops (o::rest) σ K:=
 .step (bar:=true) ⟨.inl ⟨ns,j▸h,Ua m,u,MS q⟩,fun h=>GL⟩ k
def Ch.call {f:FuncId} {eH:List AY} {j:AY} (m:Am P f eH [] j []) (q:Dl P f=true) (k:Ch P ops rest (σ.rW o.dst (j.up [] σ.ents.length)) K) (u:Uh σ o=some (f,eH):=by kernel_rfl)
 (hd:eH.all AY.Az=true:=by kernel_rfl) (z:JL ops σ o.guard=some true:=by kernel_rfl):Ch P ops (o::rest) σ K:=by
 obtain⟨ns,I,J,L⟩:=aCg m q u hd;exact .step (aQr I J (MS z) L) k
def Ch.c [T:Kn P] {e c:Bool} (h:some e=some c) (k:Ch P ops rest (σ.rW o.dst (.d (.lit (.bool c)))) K) (hs:(Wy T ops σ o).map (fun r=>(r.x,r.E,r.bar))=some (.d (.lit (.bool e)),σ.ents,false):=by kernel_rfl):Ch P ops (o::rest) σ K:=by
 rw[Ux]at hs;obtain⟨r,q,j⟩:=hs;have m:=Xl T q;simp only[Ru]at j;rw[j.1,j.2.1,j.2.2,CO h]at m;exact .step m k
def Ak.wipe (j:List Nat) (σ:Ak):Ak:=⟨j.foldl (fun l d=>l.set d .junk) σ.slots,σ.ents,σ.base⟩
def Holds.wipe {C:EN} {ok:Nat→Prop} {H:List BO} {a:Act} {w:World}:∀(j:List Nat) {σ:Ak},Holds C ok H σ a w→Holds C ok H (σ.wipe j) a w
 | [],σ,h=>h
 |d::j,σ,h=>by
  refine Holds.wipe j (σ:=⟨σ.slots.set d .junk,σ.ents,σ.base⟩) ⟨h.mem,by simpa using h.size,h.defers,h.base,fun t m=>?_⟩;simp only[eS]at m;by_cases e:d=t
  ·subst e;have q:(σ.slots.set d .junk).getD d .junk=.junk:=aAv
   rw[q];exact .junk _
  have q:(σ.slots.set d .junk).getD t .junk=σ.slots.getD t .junk:=aLe
  rw[q];exact h.slot t m
def alD (n:Nat) (l j:List Oper):l++j=l.take n++(l.drop n++j):=by
 rw[←Hr,Xx]
def Ch.join (n:Nat) (M:Ak→Prop) (u:∀s,M s→Ch P ops (l.drop n) s K) (z:Ch P ops (l.take n) σ (Ko M K)):Ch P ops l σ K:=⟨fun ro m Q C ok H a w I q=>by
 rw[alD n l m]
 exact z.run ro _ Q C ok H a w I ⟨fun σ' ok' H' a' w' J j=>(u σ' J).run ro m Q C ok' H' a' w' j q,q.2⟩⟩
def Ch.merge (n:Nat) (j:List Nat) (d:Nat) (x:AY) (q:Ch P ops (l.take n) σ (Ko (fun s=>s.wipe j=(σ.wipe j).rW (some d) x) K)) (u:Ch P ops (l.drop n) ((σ.wipe j).rW (some d) x) K):Ch P ops l σ K:=
 .join n _ (fun s hs=>⟨fun ro z Q C ok H a w I J=>by
  have e:s.wipe j=(σ.wipe j).rW (some d) x:=hs;have m:=I.wipe j;rw[e]at m
  exact u.run ro z Q C ok H a w m J⟩) q
def Aw {id:Nat} {Q:Exit→Ak→Prop} (h:Ch P ops ops.toList σ Q):AP P (.region id ops false) σ Q:=⟨fun ro _ C ok H a w q=>by
 refine aKX ?_;have :=h.run ro [] (fun e a' w'=>∃ok' H' σ',Holds C ok' H' σ' a' w'∧Q e σ') C ok H a w q ⟨fun σ' ok' H' a' w' m j=>⟨ok',H',σ',j,m⟩,fun v σ' ok' H' a' w' m j=>⟨ok',H',σ',j,m⟩⟩
 rwa [P6]at this⟩
def AO {id:Nat} {y:Code} {Q:Exit→Ak→Prop} (h:Ch P ops ops.toList σ (Ko (fun s=>AP P y s Q) Q)):AP P (.seq (.region id ops false) y) σ Q:=
 AP.seq (fun s=>AP P y s Q) (Aw h) (fun _ h=>h)
end
def BH (n:Nat) (l:List (Nat×AY)):List AY:=(List.range n).map fun i=>(Qi i l).getD .junk
def mk (n w:Nat):List Bool:=(List.range n).map fun i=>Nat.testBit w i
def arF {σ S:Ak} (m:List Bool) (π:List (Nat×Bool)) (j:Us σ.base σ.ents π=true:=by kernel_rfl) (q:S=⟨Kv π m σ.slots,Rs σ.ents π,σ.base⟩:=by kernel_rfl):CS σ S:=aEm.sub ⟨m,π,j,q⟩
inductive MI (P:Program) where
 |call (i:Nat) (f:FuncId) (eH:List AY) (res:AY) (run:Am P f eH [] res []) (ent:Dl P f=true) (dat:eH.all AY.Az=true)
 |dat (i:Nat) (op:Op) (ns:List (Operand×AY)) (x:AY) (h:∀(o:Oper) (es:List Ar),o.op=op→BU P o ns es x es)
 |at_ (i:Nat) (op:Op) (ns:List (Operand×AY)) (k:Nat) (e:Ar) (x:AY) (h:∀(o:Oper) (es:List Ar),es[k]? =some e→o.op=op→BU P o ns es x es)
 |fix (i:Nat) (op:Op) (ns:List (Operand×AY)) (es:List Ar) (x:AY) (E:List Ar) (h:∀(o:Oper),o.op=op→BU P o ns es x E)
def MI.ix {P:Program}:MI P→Nat
 | .call i .. =>i
 | .dat i .. =>i
 | .at_ i .. =>i
 | .fix i .. =>i
inductive XZ where
 |call (c:Option (FuncId×List AY))
 |dat (op:Op) (vs:List AY)
 |at_ (op:Op) (vs:List AY) (e:Option Ar)
 |fix (op:Op) (vs:List AY) (es:List Ar)
def aPA {P:Program} (i:Nat):List (MI P)→Option (MI P)
 | []=>none
 |c::l=>match Nat.beq i c.ix with |true=>some c|false=>aPA i l
section
variable {P : Program}
def yY (σ:Ak) (o:Oper):MI P→Ak×Option XZ
 | .call _ _ _ j _ _ _=>(σ.rW o.dst (j.up [] σ.ents.length),some (.call (Uh σ o)))
 | .dat _ _ ns x _=>(σ.rW o.dst x,some (.dat o.op (ns.map fun n=>σ.get n.1)))
 | .at_ _ _ ns k _ x _=>(σ.rW o.dst x,some (.at_ o.op (ns.map fun n=>σ.get n.1) σ.ents[k]?))
 | .fix _ _ ns _ x E _=>(σ.put o.dst x E,some (.fix o.op (ns.map fun n=>σ.get n.1) σ.ents))
def ou :MI P→XZ
 | .call _ f eH _ _ _ _=>.call (some (f,eH))
 | .dat _ op ns _ _=>.dat op (ns.map (·.2))
 | .at_ _ op ns _ e _ _=>.at_ op (ns.map (·.2)) (some e)
 | .fix _ op ns es _ _ _=>.fix op (ns.map (·.2)) es
def Vy (T:Kn P) (L:List (MI P)) (ops:Array Oper) (σ:Ak) (i:Nat):Option (Ak×Option XZ):=
 match ops[i]? with
 |none=>none
 |some o=>match aPA i L with
  |some c=>match JL ops σ o.guard with
   |some true=>some (yY σ o c)
   |_=>none
  |none=>match Wy T ops σ o with
   |some r=>some (σ.put o.dst r.x r.E,none)
   |none=>none
def N8 (T:Kn P) (L:List (MI P)) (ops:Array Oper) (σ:Ak):List Nat→Ak
 | []=>σ
 |i::l=>match Vy T L ops (N8 T L ops σ l) i with
  |some (σ',_)=>σ'
  |none=>σ
def ZT (ops:Array Oper) (m:List Nat) (i:Nat):Bool:=match ops[i]? with
 |some o=>o.after.toList.all fun e=> !Region.binds .any e||(m.contains e.on&&decide (e.on<ops.size))
 |none=>false
def aKT (ops:Array Oper) (N:List (List Nat)) (F:List Nat) (k:Nat) (m:List Nat) (T:List (Nat×Nat×Nat)):Bool:=
 ((List.range ops.size).all fun i=>m.contains i|| !ZT ops m i||
   T.any fun t=>t.2.1==i&&decide (t.2.2<N.length)&&(fun q=>(List.range ops.size).all fun j=>q.contains j==(m.contains j||j==i)) (N.getD t.2.2 []))&&
 (F.contains k||(List.range ops.size).any fun i=> !m.contains i&&ZT ops m i)
def aDz (ops:Array Oper) (N:List (List Nat)) (F:List Nat):Nat→List (List Nat)→List (Nat×Nat×Nat)→Bool
 |_,[],_=>true
 |k,m::M,Tr=>aKT ops N F k m (Tr.takeWhile fun t=>t.1==k)&&aDz ops N F (k+1) M (Tr.dropWhile fun t=>t.1==k)
def xZ (ops:Array Oper) (N:List (List Nat)) (Tr:List (Nat×Nat×Nat)) (F:List Nat):Bool:=aDz ops N F 0 N Tr
def ael {α:Type} {p:α→Bool}:∀{l:List α} {x:α},x∈l.takeWhile p→p x=true
 | [],_,h=>I8
 |y::l,x,h=>by
  rw[List.takeWhile_cons]at h;cases j:p y with
  |true=>
   rw[j]at h;rcases Ei.1 h with rfl|h
   ·exact j
   exact ael h
  |false=>rw[j]at h;simp at h
def afC {ops:Array Oper} {N:List (List Nat)} {F:List Nat}:∀(M:List (List Nat)) (k:Nat) (Tr:List (Nat×Nat×Nat)),aDz ops N F k M Tr=true→∀j,j<M.length→
 ∃T,aKT ops N F (k+j) (M.getD j []) T=true∧∀t∈T,t∈Tr∧t.1=k+j
 | [],_,_,_,j,u=>by simp at u
 |m::M,k,Tr,h,j,u=>by
  unfold aDz at h;rw[CW]at h;cases j with
  |zero=>exact⟨_,h.1,fun t q=>⟨(List.takeWhile_sublist _).subset q,by have :=ael q;simpa using this⟩⟩
  |succ j=>
   obtain⟨T,I,z⟩:=afC M (k+1) _ h.2 j MR;refine⟨T,?_,fun t q=>⟨(aI2 _).subset (z t q).1,?_⟩⟩
   ·rw[show k+(j+1)=k+1+j by omega];simpa using I
   rw[(z t q).2];omega
def YU (L:List (MI P)) (i:Nat):Option XZ:=(aPA i L).map ou
def ag7 (T:Kn P) {L:List (MI P)} {ops:Array Oper} {σ σ':Ak} {i:Nat} {o:Oper} (z:ops[i]? =some o) (h:Vy T L ops σ i=some (σ',YU L i)):
 ∃x E,((∃ns,BU P o ns σ.ents x E∧needs σ ns∧VK ops σ o.guard)∨(x=.d (.lit undef)∧E=σ.ents∧YG ops σ o.guard))∧σ'=σ.put o.dst x E:=by
 unfold Vy YU at h;rw[z]at h;simp only at h;split at h
 ·rename_i c I;split at h
  ·rename_i m;simp only[I,IW,Ll]at h;cases c with
   |call i f eH J run ent dat=>
    simp only[yY,ou,Ru,Ll,XZ.call.injEq]at h;obtain⟨ns,q,u,O⟩:=aCg run ent h.2 dat;exact⟨_,_,.inl ⟨ns,q,u,MS m⟩,h.1.symm⟩
   |dat i op ns x j=>
    simp only[yY,ou,Ru,Ll,XZ.dat.injEq]at h;exact⟨_,_,.inl ⟨ns,j o _ h.2.1,Ua h.2.2,MS m⟩,h.1.symm⟩
   |at_ i op ns k e x j=>
    simp only[yY,ou,Ru,Ll,XZ.at_.injEq]at h;exact⟨_,_,.inl ⟨ns,j o _ h.2.2.2 h.2.1,Ua h.2.2.1,MS m⟩,h.1.symm⟩
   |fix i op ns es x E j=>
    simp only[yY,ou,Ru,Ll,XZ.fix.injEq]at h;exact⟨_,_,.inl ⟨ns,h.2.2.2▸j o h.2.1,Ua h.2.2.1,MS m⟩,h.1.symm⟩
  cases h
 split at h
 ·rename_i r M;simp only[Ll,Ru]at h;obtain⟨q,u⟩:=Xl T M;refine⟨_,_,?_,h.1.symm⟩;rcases q with⟨ns,a,b,_,c⟩|⟨a,b,c⟩
  ·exact .inl ⟨ns,a,b,c⟩
  exact .inr ⟨a,b,c⟩
 cases h
def vU (s t:Ak):Prop:=∀C ok H a w,Holds C ok H s a w→∃ok' H',Holds C ok' H' t a w
def amf (s:Ak):vU s s:=fun _ ok H _ _ h=>⟨ok,H,h⟩
def jy {s t:Ak} (h:CS s t):vU s t:=h
def AP.nodes (T:Kn P) {id:Nat} {ops:Array Oper} {σ:Ak} {Q:Exit→Ak→Prop} (L:List (MI P)) (N:List (List Nat)) (Tr:List (Nat×Nat×Nat)) (F:List Nat) (fin:Ak) (hm:P.follows .mixedOrders=true) (hN:xZ ops N Tr F=true) (h0:N.getD 0 [0]=[])
 (hT:(Tr.map fun t=>Vy T L ops (N8 T L ops σ (N.getD t.1 [])) t.2.1)=Tr.map fun t=>some (N8 T L ops σ (N.getD t.2.2 []),YU L t.2.1))
 (hF:Qg (fun k=>vU (N8 T L ops σ (N.getD k [])) fin) F) (hQ:Q .normal fin):AP P (.region id ops true) σ Q:=by
 refine⟨fun ro _ C ok H a w m=>?_⟩;refine aEp hm ?_
 let S:Nat→Ak:=fun k=>N8 T L ops σ (N.getD k [])
 let I:Array Bool→Act→World→Prop:=fun l a w=>l.size=ops.size∧∃k ok H,k<N.length∧(∀i,i<ops.size→l.getD i false=(N.getD k []).contains i)∧Holds C ok H (S k) a w
 have hNN:∀k,k<N.length→(((List.range ops.size).all fun i=>(N.getD k []).contains i|| !ZT ops (N.getD k []) i||
  Tr.any fun t=>t.1==k&&t.2.1==i&&decide (t.2.2<N.length)&&(List.range ops.size).all fun j=>(N.getD t.2.2 []).contains j==((N.getD k []).contains j||j==i))&&
  (F.contains k||(List.range ops.size).any fun i=> !(N.getD k []).contains i&&ZT ops (N.getD k []) i))=true:=fun k hk=>by
  obtain⟨T,z,M⟩:=afC N 0 Tr hN k hk;unfold aKT at z;rw[JI,CW,DT]at z;rw[CW,DT];refine⟨fun i hi=>?_,z.2⟩;have q:=z.1 i hi;rw[XT]at q ⊢;rcases q with q|q
  ·exact .inl q
  obtain⟨t,ht,h4⟩:=Fv.1 q;obtain⟨Y,O⟩:=M t ht;rw[JI]at O;refine .inr (Fv.2 ⟨t,Y,?_⟩);rw[show(t.1==k)=true by simpa using O,Fe];exact h4
 refine Opn I (fun l a w h=>h.1) ?_ ?_ ops.size _ _ _ ?_ ?_
 ·rintro l a w ⟨z,k,ok,H,hk,hl,m⟩ i hi;unfold Region.ready at hi;rw[EY]at hi;obtain⟨hi1,hi2⟩:=hi;have hi':i<ops.size:=aEW
  have ho:ops[i]? =some ops[i]:=by simp[hi']
  simp only[CW]at hi2;have u:=hi2.2;rw[ho]at u;simp only[IW,NP]at u;have U:=fun e he=>(QW.1 u) e he
  have hself:l.getD i false=false:=by
   have h8:=hi2.1;have hil:i<l.size:=AA
   simp[Array.getD,hil]at h8 ⊢;exact h8
  have hnc:(N.getD k []).contains i=false:=by rw[←hl i hi'];exact hself
  have hrd:ZT ops (N.getD k []) i=true:=by
   unfold ZT;rw[ho];simp only[DT];intro e he;have h9:=U e tq;cases hb:Region.binds .any e with
   |false=>simp
   |true=>
    simp only[hb,Dz,ML]at h9 ⊢;by_cases hon:e.on<ops.size
    ·rw[←hl e.on hon,h9];simp[hon]
    have :l.getD e.on false=false:=by simp[Array.getD,show ¬e.on<l.size by omega]
    rw[this]at h9;cases h9
  have M:=hNN k hk;simp only[CW,DT]at M;have q:=M.1 i (by simpa using hi');rw[hnc,hrd]at q;simp only[Dz,Bool.or_self,ML,Fv]at q;obtain⟨⟨k',J,t⟩,htm,h4⟩:=q;simp only[CW,Q5,G8,DT]at h4;obtain⟨⟨⟨rfl,rfl⟩,ht⟩,Y⟩:=h4;have O:Vy T L ops (S k') J=some (S t,YU L J):=List.map_inj_left.1 hT (k',J,t) htm;obtain⟨x,E,hs,he⟩:=ag7 T ho O
  have Z:∀(a':Act) (w':World) (ok':Nat→Prop) (H':List BO),Holds C ok' H' ((S k').put ops[J].dst x E) a' w'→I (l.setIfInBounds J true) a' w':=by
   intro a' w' ok' H' hp;refine⟨by simp[z],t,ok',H',ht,fun j hj=>?_,he▸hp⟩;have h7:=Y j (by simpa using hj);rw[h7,←hl j hj];by_cases hij:J=j
   ·subst hij;simp[Array.getD,z,hj]
   have :(j==J)=false:=DU
   rw[this,Kr];simp only[H8,KD hij]
  unfold wpOpIn;rw[ho];show if Region.wanted ops[J] (yielded ops a.tmps)=true then _ else _
  rcases hs with⟨ns,hop,aeS,hg⟩|⟨rfl,rfl,hg⟩
  ·rw[CV (PZ m hg)];refine Qh ?_ (hop.inR ro C ok H a w _ m.mem (fun n hn'=>PK aeS n hn'▸m.get n.1));rintro a' w' ⟨v,ok',H',rfl,hgr,hnn,hm',hx⟩;exact Z _ _ _ _ (m.put ops[J].dst hgr hnn hm' hx)
  rw[Cc (by rw[aMO m hg];simp)];exact⟨fun _ _=>trivial,Z _ _ _ _ (m.put ops[J].dst (.refl _ _) (.refl _) m.mem (.d _ _ (.lit _)))⟩
 ·rintro l a w ⟨z,k,ok,H,hk,hl,m⟩ hr;have M:=hNN k hk;simp only[CW,XT]at M
  have hFk:k∈F:=by
   rcases M.2 with h|h
   ·simpa using h
   rw[Fv]at h;obtain⟨i,hi,q⟩:=h;simp only[sS]at hi;simp only[CW,Sl]at q;obtain⟨h4,Y⟩:=q;have ho:ops[i]? =some ops[i]:=Qp
   have hmem:i∈Region.ready .any ops l:=by
    unfold Region.ready;rw[EY];refine⟨Fp,?_⟩;have hf:l.getD i false=false:=by rw[hl i hi];exact h4
    have hil:i<l.size:=AA
    have hf':l.getD i true=false:=aDG
    rw[hf',ho];simp only[IU,Fe,IW,NP];rw[QW];intro e he;unfold ZT at Y;rw[ho]at Y;simp only[DT]at Y;have O:=Y e tq;cases hb:Region.binds .any e with
    |false=>simp
    |true=>
     simp only[hb,Dz,ML]at O ⊢;rw[CW,G8]at O;rw[hl e.on O.2];exact O.1
   rw[hr]at hmem;simp at hmem
  obtain⟨ok',H',q⟩:=hF.mem k hFk C ok H a w m;exact⟨ok',H',fin,q,hQ⟩
 ·unfold toCome;simp
 refine⟨Ap,0,ok,H,?_,fun i hi=>?_,?_⟩
 ·cases N with
  |nil=>cases h0
  |cons x l=>simp
 ·have e:N.getD 0 []=[]:=by
   cases N with
   |nil=>rfl
   |cons x l=>simpa using h0
  rw[e];simp[Array.getD]
 have e:S 0=σ:=by
  show N8 T L ops σ (N.getD 0 [])=σ;cases N with
  |nil=>rfl
  |cons x l=>have :x=[]:=by simpa using h0
             subst this;rfl
 rw[e];refine⟨⟨⟨m.mem.fr.os,m.mem.fr.tape,m.mem.fr.output,m.mem.fr.size,m.mem.fr.block⟩,m.mem.yR,m.mem.yS,m.mem.kL,m.mem.names,m.mem.hlen,fun k e h z M=>(m.mem.ent k e h z M).drew,m.mem.blk,m.mem.E5⟩,m.size,m.defers.mono (fun b hb=>⟨hb,rfl⟩),m.base,fun t ht=>R.mono (w:=w) (ok:=ok) (w':={ w with drawn:=w.drawn+1 }) (fun b hb=>⟨hb,rfl⟩) (.refl _) (m.slot t ht)⟩
def aGX {f:FuncId} {eH:List AY} {j:AY} (i:Nat) (run:Am P f eH [] j []) (ent:Dl P f=true) (dat:eH.all AY.Az=true:=by kernel_rfl):MI P:=.call i f eH j run ent dat
def qx {ns:List (Operand×AY)} {x:AY} (i:Nat) (op:Op) (k:Nat) (e:Ar) (h:∀(o:Oper) (es:List Ar),es[k]? =some e→o.op=op→BU P o ns es x es):MI P:=.at_ i op ns k e x h
def aJR {ns:List (Operand×AY)} {x:AY} (i:Nat) (op:Op) (es E:List Ar) (h:∀(o:Oper),o.op=op→BU P o ns es x E):MI P:=.fix i op ns es x E h
section
variable [T : Kn P] {id : Nat} {ops : Array Oper} {σ : Ak} {Q : Exit → Ak → Prop} {y : Code}
def AP.aEf (L:List (MI P)) (N:List (List Nat)) (Tr:List (Nat×Nat×Nat)) (j:Nat) (m:AP P y (N8 T L ops σ (N.getD j [])) Q) (q:P.follows .mixedOrders=true:=by kernel_rfl) (u:xZ ops N Tr [j]=true:=by kernel_rfl) (z:N.getD 0 [0]=[]:=by kernel_rfl)
 (I:(Tr.map fun t=>Vy T L ops (N8 T L ops σ (N.getD t.1 [])) t.2.1)=Tr.map fun t=>some (N8 T L ops σ (N.getD t.2.2 []),YU L t.2.1):=by kernel_rfl):AP P (.seq (.region id ops true) y) σ Q:=
 AP.seq1 _ (AP.nodes T L N Tr [j] _ q u z I ⟨amf _,trivial⟩ rfl) m
def AP.aEg (L:List (MI P)) (N:List (List Nat)) (Tr:List (Nat×Nat×Nat)) (F:List Nat) (j:Ak) (m:Qg (fun k=>vU (N8 T L ops σ (N.getD k [])) j) F) (q:AP P y j Q) (u:P.follows .mixedOrders=true:=by kernel_rfl) (z:xZ ops N Tr F=true:=by kernel_rfl) (I:N.getD 0 [0]=[]:=by kernel_rfl)
 (J:(Tr.map fun t=>Vy T L ops (N8 T L ops σ (N.getD t.1 [])) t.2.1)=Tr.map fun t=>some (N8 T L ops σ (N.getD t.2.2 []),YU L t.2.1):=by kernel_rfl):AP P (.seq (.region id ops true) y) σ Q:=
 AP.seq1 j (AP.nodes T L N Tr F j u z I J m rfl) q
end
end
section
variable {P : Program} {ops : Array Oper} {es : List Ar}
def WX (ops:Array Oper) (bs:List Bool) (sl:List Nat):Bool:=(List.range ops.size).all fun i=> !(bs.getD i false)||(!sl.contains i&&
 ((List.range i).all fun j=>sl.contains j||(List.range (i+1)).any fun m=>(decide (j<m)&& !sl.contains m)&&(match ops[m]? with |some o=>GR o j|none=>false))&&
  ((List.range ops.size).all fun k=> !decide (i<k)||(List.range k).any fun m=>decide (i≤m)&&(match ops[k]? with |some o=>GR o m|none=>false)))
def aLi {bs:List Bool} {sl:List Nat} (h:WX ops bs sl=true) {i:Nat} (hi:i<ops.size) (Y:bs.getD i false=true) {D:Nat→Prop} (hd:∀(j:Nat) (o:Oper),ops[j]? =some o→D j→∀m,GR o m=true→D m)
 (Z:∀(o:Oper),ops[i]? =some o→∀m,GR o m=true→D m):∀j,j<i→sl.contains j=false→D j:=by
 unfold WX at h;rw[DT]at h;have L:=h i Fp;simp only[Y,Dz,ML,CW,DT]at L
 have key:∀n j,i-j≤n→j<i→sl.contains j=false→D j:=by
  intro n
  induction n with
  |zero=>intro j h2 M _;omega
  |succ n ih=>
   intro j h2 M q;have O:=L.1.2 j aCG;rw[q,ML,Fv]at O;obtain⟨m,hm,U⟩:=O;simp only[sS]at hm;simp only[CW,G8,Sl]at U;obtain⟨⟨h6,u⟩,z⟩:=U;have I:m<ops.size:=AA
   have J:ops[m]? =some ops[m]:=by simp[I]
   rw[J]at z;by_cases e:m=i
   ·subst e;exact Z _ J j z
   exact hd m _ J (ih m AA AA u) j z
 exact fun j hj hs=>key (i-j) j (Dk _) hj hs
def akc {bs:List Bool} {sl:List Nat} (h:WX ops bs sl=true) {i:Nat} (hi:i<ops.size) (Z:bs.getD i false=true) {D:Nat→Prop} (hd:∀(j:Nat) (o:Oper),ops[j]? =some o→D j→∀m,GR o m=true→D m):
 ∀k,i<k→∀(o:Oper),ops[k]? =some o→(∀m,GR o m=true→D m)→D i:=by
 unfold WX at h;rw[DT]at h;have L:=h i Fp;simp only[Z,Dz,ML,CW,DT]at L;intro k
 induction k using Nat.strongRecOn with
 |_ k ih=>
  intro I o M q;have hk:k<ops.size:=(G6.1 M).1;have O:=L.2 k aUE;simp only[I,decide_true,Dz,ML,Fv]at O;obtain⟨m,U,Y⟩:=O;simp only[sS]at U;simp only[CW,G8,M]at Y;obtain⟨h6,h7⟩:=Y;have u:=q m h7;by_cases e:m=i
  ·subst e;exact u
  have J:m<ops.size:=AA
  have z:ops[m]? =some ops[m]:=by simp[J]
  exact ih m U AA _ z (hd m _ z u)
def aeV {bs:List Bool} {sl:List Nat} (h:WX ops bs sl=true) {i:Nat} (hi:i<ops.size) (m:bs.getD i false=true):sl.contains i=false:=by
 unfold WX at h;rw[DT]at h;have j:=h i Fp;simp only[m,Dz,ML,CW,Sl]at j;exact j.1.1
def AP.aBq {id:Nat} {σ σ':Ak} {Q:Exit→Ak→Prop} {rs:List AY} {ess:List (List Ar)} {bs:List Bool} (hm:P.follows .mixedOrders=true) (M:(Vs ops&&VX ops&&V9 ops σ.slots.length&&X9 ops)=true) (sl:List Nat) (O:WX ops bs sl=true)
 (h:Ew P ops ops.toList σ rs ess bs σ')
 (hsl:∀i,i∈sl→bs.getD i false=false∧∀m,i≤m→m≤ops.size→∀o,ops[i]? =some o→Si P ops ⟨(Ec ops σ (fun i=>rs.getD i .junk) (fun i=>ess.getD i []) i).slots,(Ec ops σ (fun i=>rs.getD i .junk) (fun i=>ess.getD i []) m).ents,σ.base⟩ (rs.getD i .junk) (Ec ops σ (fun i=>rs.getD i .junk) (fun i=>ess.getD i []) m).ents false o) (hQ:Q .normal σ'):AP P (.region id ops true) σ Q:=by
 refine⟨fun ro _ C ok H a w hh=>?_⟩;simp only[CW]at M;obtain⟨⟨⟨he,hd⟩,hs⟩,hc⟩:=M;have PX:=aH4 he;have hinj:=aKN hd;have M:=aNF hc
 have Ip:∀(i:Nat) (o:Oper) (d:Tmp),ops[i]? =some o→o.dst=some d→d<σ.slots.length:=by
  intro i o d h1 h2;unfold V9 at hs;rw[DT]at hs;simpa using hs d (aKJ h1 h2)
 let r:Nat→AY:=fun i=>rs.getD i .junk
 let ev:Nat→List Ar:=fun i=>ess.getD i []
 let bar:Nat→Bool:=fun i=>bs.getD i false
 obtain⟨I4,hend⟩:=h.facts σ r ev bar 0 (fun k=>Ap) Ap rfl (fun k y hy=>aIf) (fun k y hy=>aL1) (fun k y hy=>by simp[bar,List.getD,hy])
 let U:Nat→Ak:=Ec ops σ r ev
 have hU:∀i,i<ops.size→(U (i+1)).ents=ev i:=by
  intro i hi;have L:ops[i]? =some ops[i]:=Qp
  show(Ec ops σ r ev (i+1)).ents=_;simp only[Ec,L];rfl
 have hconst:∀n lo,(∀b,lo≤b→b<lo+n→bar b=false)→lo+n≤ops.size→(U (lo+n)).ents=(U lo).ents:=by
  intro n
  induction n with
  |zero=>intro lo _ _;rfl
  |succ n ih=>
   intro lo z hle;have h1:=ih lo (fun b h1 h2=>z b h1 AA) AA;have hi:lo+n<ops.size:=AA
   have L:ops[lo+n]? =some ops[lo+n]:=Qp
   have h2:=(I4 (lo+n) _ AA L).2 (z (lo+n) AA AA);rw[←O9,hU _ hi,h2];exact h1
 have Y:∀lo hi,lo≤hi→hi≤ops.size→(∀b,lo≤b→b<hi→bar b=false)→(U hi).ents=(U lo).ents:=by
  intro lo hi h1 h2 h3;obtain⟨n,rfl⟩:=aPR h1;exact hconst n lo h3 h2
 refine aEp hm ?_
 let I:Array Bool→Act→World→Prop:=fun l a w=>l.size=ops.size∧∃ok H m,m≤ops.size∧(∀b,bar b=true→b<ops.size→(l.getD b false=true↔b<m))∧Cb C ok H (U m).ents w∧a.tmps.size=σ.slots.length∧Marks C ok w a.defers∧
  (∀t,t<σ.slots.length→(∀(j:Nat) (o:Oper),ops[j]? =some o→o.dst=some t→l.getD j false=false)→R ok w H (σ.slots.getD t .junk) (a.tmps.getD t undef))∧
  (∀(i:Nat) (o:Oper) (d:Tmp),ops[i]? =some o→o.dst=some d→l.getD i false=true→R ok w H (r i) (a.tmps.getD d undef))∧
  (∀(j:Nat) (o:Oper),ops[j]? =some o→l.getD j false=true→∀i,GR o i=true→l.getD i false=true)
 refine Opn I (fun l a w h=>h.1) ?_ ?_ ops.size _ _ _ ?_ ?_
 ·rintro l a w ⟨h1,ok,H,m,MC,J,hmem0,hsz,hdf,h5,h6,h7⟩ i hi;unfold Region.ready at hi;rw[EY]at hi;obtain⟨hi1,hi2⟩:=hi;have hi':i<ops.size:=aEW
  have L:ops[i]? =some ops[i]:=by simp[hi']
  simp only[CW]at hi2;have PY:=hi2.2;rw[L]at PY;simp only[IW,NP]at PY;have ahi:=fun e he=>(QW.1 PY) e he
  have Z:∀j,GR ops[i] j=true→l.getD j false=true∧j<i:=by
   intro j u;unfold GR at u;rw[Fv]at u;obtain⟨e,hee,u⟩:=u;simp only[CW,G8]at u;have :=ahi e aJd;simp only[u.2,Dz,ML]at this;rw[u.1]at this;exact⟨this,u.1▸PX i _ L e hee u.2⟩
  have hself:l.getD i false=false:=by
   have h8:=hi2.1;have hil:i<l.size:=AA
   simp[Array.getD,hil]at h8 ⊢;exact h8
  have aow:∀(j:Nat) (o:Oper),ops[j]? =some o→l.getD j false=true→∀m,GR o m=true→l.getD m false=true:=fun j o u hl m hm=>h7 j o u hl m hm
  have hEi:(i≤m→sl.contains i=false)→(U i).ents=(U m).ents:=fun hns=>by
   by_cases him:i≤m
   ·refine(Y i m him MC (fun b h2 h3=>?_)).symm;rw[←KX];intro z;have hbl:=(J b z AA).2 h3;by_cases e:b=i
    ·subst e;rw[hself]at hbl;cases hbl
    have :=aLi O (show b<ops.size by omega) z (D:=fun j=>l.getD j false=true) aow (fun o L m hm=>aow b o L hbl m hm) i AA (hns him);rw[hself]at this;cases this
   refine Y m i AA AA (fun b h2 h3=>?_);rw[←KX];intro z;have :=akc O (show b<ops.size by omega) z (D:=fun j=>l.getD j false=true) aow i h3 _ L (fun m hm=>(Z m hm).1);exact absurd ((J b z AA).1 this) AA
  obtain⟨E0,E1,hmem,hfact,hE1,hE2⟩:∃E0 E1,Cb C ok H E0 w∧Si P ops ⟨(U i).slots,E0,σ.base⟩ (r i) E1 (bar i) ops[i]∧(bar i=false→E1=(U m).ents)∧(bar i=true→E1=ev i):=by
   by_cases hs:i≤m∧i∈sl
   ·have h9:=hsl i hs.2;refine⟨(U m).ents,(U m).ents,hmem0,?_,fun _=>rfl,fun z=>?_⟩
    ·rw[show bar i=false from h9.1];exact h9.2 m hs.1 MC _ L
    rw[show bar i=false from h9.1]at z;cases z
   have hE:=hEi (fun him=>by
    rw[←KX]
    intro hc;exact hs ⟨him,by simpa using hc⟩)
   refine⟨(U i).ents,ev i,by rw[hE];exact hmem0,?_,fun z=>?_,fun _=>rfl⟩
   ·have hf:=I4 i ops[i] AA L;have hbase:(U i).base=σ.base:=aFC i;have :U i=⟨(U i).slots,(U i).ents,σ.base⟩:=by rw[←hbase]
    exact this▸hf
   rw[(I4 i _ AA L).2 z];exact hE
  have hread:∀t,t∈tmpsOf ops[i]→R ok w H ((Ec ops σ r ev i).slots.getD t .junk) (a.tmps.getD t undef):=by
   intro t ht;by_cases hw:∃(j:Nat) (o:Oper),ops[j]? =some o∧o.dst=some t
   ·obtain⟨j,o,u,q⟩:=hw;rcases(M i _ L).1 j o t u q ht with hce|hce
    ·obtain⟨hdj,hji⟩:=Z j hce;rw[UH hinj u q (Ip j o t u q) i hji];exact h6 j o t u q hdj
    have hij:i<j:=by
     unfold GR at hce;rw[Fv]at hce;obtain⟨e,hee,hce⟩:=hce;simp only[CW,G8]at hce;exact hce.1▸PX j _ u e hee hce.2
    rw[TA i (fun j' o' hj' ho' hd'=>aDj)];refine h5 t (Ip j o t u q) (fun j' o' ho' hd'=>?_);have hjj:=hinj j j' o o' t u ho' q hd';subst hjj;rw[←KX];intro hd;rw[h7 j o u hd i hce]at hself;cases hself
   have hw':∀(j:Nat) (o:Oper),ops[j]? =some o→o.dst≠some t:=fun j o h1 h2=>hw ⟨j,o,h1,h2⟩;rw[TA i (fun j o _ u=>hw' j o u)];by_cases htn:t<σ.slots.length
   ·exact h5 t htn (fun j o u q=>absurd q (hw' j o u))
   rw[dw htn];exact .junk _
  have Vm:∀j d v,GR ops[i] j=true→(ops[j]?).bind (·.dst)=some d→(Ec ops σ r ev i).slots.getD d .junk=.d (.lit v)→yielded ops a.tmps j=(match v with | .bool b=>some b|_=>none):=by
   intro j d v u q z;cases hoj:ops[j]? with
   |none=>rw[hoj]at q;simp at q
   |some oj=>
    rw[hoj]at q;simp only[AQ]at q;obtain⟨hdj,hji⟩:=Z j u;have hdn:=Ip j oj d hoj q;rw[UH hinj hoj q hdn i hji]at z;have hv:=(z▸h6 j oj d hoj q hdj).bool
    have hs:a.tmps[d]? =some v:=by
     have :d<a.tmps.size:=by rw[hsz];exact hdn
     simp[Array.getD,this]at hv;simp[this,hv]
    unfold yielded;rw[hoj];simp only[AQ,q,hs];cases v<;>rfl
  have hput:∀(x:AY) (v:Value) (ok':Nat→Prop) (H':List BO) (w':World),x=r i→ES ok w ok' w'→Names H H'→Cb C ok' H' E1 w'→R ok' w' H' x v→I (l.setIfInBounds i true) (a.put ops[i].dst v) w':=by
   intro x v ok' H' w' hx hgr hnm hmem' hR;subst hx
   have hother:∀(d t:Nat),ops[i].dst=some d→d≠t→(a.put ops[i].dst v).tmps.getD t undef=a.tmps.getD t undef:=by
    intro d t hd hne;rw[hd];exact aMb hne
   obtain⟨m',amM,adD,amN⟩:∃m',m'≤ops.size∧(∀b,bar b=true→b<ops.size→((l.setIfInBounds i true).getD b false=true↔b<m'))∧Cb C ok' H' (U m').ents w':=by
    have hget:∀b,b≠i→(l.setIfInBounds i true).getD b false=l.getD b false:=fun b z=>by
     simp only[H8,KD (Ne.symm z)]
    have amO:(l.setIfInBounds i true).getD i false=true:=aLr
    cases hbi:bar i with
    |false=>
     refine⟨m,MC,fun b z hbs=>?_,?_⟩
     ·have hne:b≠i:=fun e=>by subst e;rw[hbi]at z;cases z
      rw[hget b hne];exact J b z hbs
     rw[←hE1 hbi];exact hmem'
    |true=>
     refine⟨i+1,AA,fun b z hbs=>?_,by rw[hU i hi',←hE2 hbi];exact hmem'⟩;by_cases e:b=i
     ·subst e;rw[amO];simp
     rw[hget b e];constructor
     ·intro hbl;apply Vq;intro hn;have :=aLi O hbs z (D:=fun j=>l.getD j false=true) aow (fun o L m hm=>aow b o L hbl m hm) i AA (aeV O hi' hbi);rw[hself]at this;cases this
     intro hlt;exact aLi O hi' hbi (D:=fun j=>l.getD j false=true) aow (fun o ho' m hm=>by rw[L]at ho';obtain rfl:=CO ho';exact(Z m hm).1) b AA (aeV O hbs z)
   refine⟨by simp[h1],ok',H',m',amM,adD,amN,aLb,aLw,?_,?_,?_⟩
   ·intro t ht hno
    have hne:ops[i].dst≠some t:=by
     intro e;have :=hno i _ L e;simp[Array.getD,h1,hi']at this
    have hold:(a.put ops[i].dst v).tmps.getD t undef=a.tmps.getD t undef:=by
     cases hdi:ops[i].dst with
     |none=>rfl
     |some d=>exact hdi▸hother d t hdi (fun e=>hne (by rw[hdi,e]))
    rw[hold];refine(h5 t ht (fun j o u q=>?_)).mono hgr hnm;have hij:i≠j:=fun e=>by subst e;rw[L]at u;obtain rfl:=CO u;exact hne q
    have :=hno j o u q;simpa only[H8,KD hij]using this
   ·intro k o d hk hkd hl;by_cases hik:i=k
    ·subst hik;rw[L]at hk;obtain rfl:=CO hk;rw[hkd,aKs (by rw[hsz];exact Ip i _ d L hkd)];exact hR
    have hl':l.getD k false=true:=by
     simp only[H8,KD hik]at hl ⊢;exact hl
    have :=(h6 k o d hk hkd hl').mono hgr hnm;cases hdst:ops[i].dst with
    |none=>exact this
    |some d'=>
     have hne:d'≠d:=fun e=>hik (hinj i k _ _ d' L hk hdst (e▸hkd));rw[←hdst,hother d' d hdst hne];exact this
   intro j o u hl k hk;have hil:i<l.size:=AA
   by_cases hik:i=k
   ·subst hik;simp[Array.getD,hil]
   have hkk:l.getD k false=true:=by
    by_cases hij:i=j
    ·subst hij;rw[L]at u;obtain rfl:=CO u;exact(Z k hk).1
    have hl':l.getD j false=true:=by
     simp only[H8,KD hij]at hl ⊢;exact hl
    exact h7 j o u hl' k hk
   simp only[H8,KD hik]at hkk ⊢;exact hkk
  unfold wpOpIn;rw[L];show if Region.wanted ops[i] (yielded ops a.tmps)=true then _ else _
  rcases hfact.1 with⟨ns,hop,aeS,hnt,hg⟩|⟨hx,hev,hg⟩
  ·have hwant:Region.wanted ops[i] (yielded ops a.tmps)=true:=by
    unfold Region.wanted;rcases hg with hg|⟨j,want,d,b,hg,u,z,rfl⟩
    ·rw[hg]
    rw[hg];show(yielded ops a.tmps j==some b)=true;rw[Vm j d _ ((M i _ L).2 j b hg) u z];simp
   rw[CV hwant];refine Qh ?_ (hop.inR ro C ok H a w _ hmem (fun n hn=>?_))
   ·rintro a' w' ⟨v,ok',H',rfl,hgr,hnn,hm',hx⟩;exact hput _ v ok' H' w' rfl hgr hnn hm' hx
   have hnv:=PK aeS n hn;obtain⟨x,y⟩:=n;simp only at hnv ⊢;subst hnv;cases x with
   |tmp t=>
    refine hread t ?_;rw[DT]at hnt
    have :t∈Lh ns:=by
     unfold Lh;rw[U5];exact⟨_,hn,rfl⟩
    simpa using hnt t this
   |const v=>exact .d _ _ (.lit v)
   |global g=>exact .d _ _ (.lit _)
   |func f=>exact .d _ _ (.fn (.func f) [] [] #[] #[] rfl rfl (fun i hi=>OE) (fun i hi=>OE))
  have hwant:Region.wanted ops[i] (yielded ops a.tmps)=false:=by
   unfold Region.wanted;obtain⟨j,want,d,v,hg,u,z,hv⟩:=hg;rw[hg];show(yielded ops a.tmps j==some want)=false;rw[Vm j d _ ((M i _ L).2 j want hg) u z];rcases hv with rfl|rfl
   ·simp
   rfl
  rw[Cc (by rw[hwant];simp)];exact⟨fun _ _=>trivial,hput _ _ ok H w hx.symm (.refl _ _) (.refl _) aIZ (.d _ _ (.lit _))⟩
 ·rintro l a w ⟨h1,ok,H,m,MC,J,hmem,hsz,hdf,h5,h6,h7⟩ hr
  have hall:∀n i,i<n→i<ops.size→l.getD i false=true:=by
   intro n
   induction n with
   |zero=>intro i hi;omega
   |succ n ih=>
    intro i hi hi2;by_cases hn:i<n
    ·exact ih i hn hi2
    have hin:i=n:=AA
    subst hin;rw[←aKP];intro hf;have L:ops[i]? =some ops[i]:=by simp[hi2]
    have hmem:i∈Region.ready .any ops l:=by
     unfold Region.ready;rw[EY];refine⟨by simpa using hi2,?_⟩;have hil:i<l.size:=AA
     have hf':l.getD i true=false:=aDG
     rw[hf',L];simp only[IU,Fe,IW,NP];rw[QW];intro e he;cases hbe:Region.binds .any e with
     |false=>simp
     |true=>
      have hlt:=PX i _ L e tq hbe;rw[ih e.on AA AA];simp
    rw[hr]at hmem;simp at hmem
  refine⟨ok,H,σ',?_,hQ⟩;subst hend
  have hE:(U ops.size).ents=(U m).ents:=Y m ops.size MC (Dk _) (fun b h2 h3=>by
   rw[←KX];intro z
   exact absurd ((J b z h3).1 (hall (b+1) b AA h3)) AA)
  refine⟨aQR,by rw[Ud];exact hsz,hdf,aLZ,fun t ht=>?_⟩;rw[Ud]at ht;by_cases hw:∃(j:Nat) (o:Oper),ops[j]? =some o∧o.dst=some t
  ·obtain⟨j,o,u,q⟩:=hw;have hjn:j<ops.size:=(G6.1 u).1;rw[UH hinj u q ht ops.size hjn];exact h6 j o t u q (hall (j+1) j AA hjn)
  have hw':∀(j:Nat) (o:Oper),ops[j]? =some o→o.dst≠some t:=fun j o h1 h2=>hw ⟨j,o,h1,h2⟩;rw[TA ops.size (fun j o _ u=>hw' j o u)];exact h5 t ht (fun j o u q=>absurd q (hw' j o u))
 ·unfold toCome;simp
 refine⟨Ap,ok,H,0,EZ _,fun b z _=>aC4,?_,hh.size,hh.defers.mono (fun b z=>⟨z,rfl⟩),fun t ht _=>?_,fun i o d _ _ hl=>?_,fun j o _ hl=>?_⟩
 ·exact⟨⟨hh.mem.fr.os,hh.mem.fr.tape,hh.mem.fr.output,hh.mem.fr.size,hh.mem.fr.block⟩,hh.mem.yR,hh.mem.yS,hh.mem.kL,hh.mem.names,hh.mem.hlen,fun k e h h1 h2=>(hh.mem.ent k e h h1 h2).drew,hh.mem.blk,hh.mem.E5⟩
 ·exact R.mono (w:=w) (ok:=ok) (w':={ w with drawn:=w.drawn+1 }) (fun b z=>⟨z,rfl⟩) (.refl _) (hh.slot t ht)
 ·simp[Array.getD]at hl
 simp[Array.getD]at hl
def YK (n:Nat) (sl:List Nat):List (Nat×Nat):=sl.flatMap fun i=>((List.range (n+1)).filter fun m=>decide (i≤m)).map fun m=>(i,m)
def uJ (ops:Array Oper) (σ:Ak) (rs:List AY) (ess:List (List Ar)) (i:Nat):Ak:=Ec ops σ (fun i=>rs.getD i .junk) (fun i=>ess.getD i []) i
def aDT (T:Kn P) (ops:Array Oper) (σ:Ak) (rs:List AY) (ess:List (List Ar)) (p:Nat×Nat):Option (AY×List Ar×Bool):=
 match ops[p.1]? with
 |some o=>(Wy T ops ⟨(uJ ops σ rs ess p.1).slots,(uJ ops σ rs ess p.2).ents,σ.base⟩ o).map fun r=>(r.x,r.E,r.bar)
 |none=>none
def aPx (T:Kn P) {σ:Ak} {rs:List AY} {ess:List (List Ar)} {bs:List Bool} {sl:List Nat} (u:(sl.all fun i=> !(bs.getD i false))=true)
 (z:(YK ops.size sl).map (aDT T ops σ rs ess)=(YK ops.size sl).map fun p=>some (rs.getD p.1 .junk,(uJ ops σ rs ess p.2).ents,false)):
 ∀i,i∈sl→bs.getD i false=false∧∀m,i≤m→m≤ops.size→∀o,ops[i]? =some o→Si P ops ⟨(Ec ops σ (fun i=>rs.getD i .junk) (fun i=>ess.getD i []) i).slots,(Ec ops σ (fun i=>rs.getD i .junk) (fun i=>ess.getD i []) m).ents,σ.base⟩ (rs.getD i .junk) (Ec ops σ (fun i=>rs.getD i .junk) (fun i=>ess.getD i []) m).ents false o:=by
 intro i hi;refine⟨by have :=DT.1 u i hi;simpa using this,fun m J U o L=>?_⟩
 have M:(i,m)∈YK ops.size sl:=by
  unfold YK;rw[TW];exact⟨i,hi,Ee.2 ⟨m,EY.2 ⟨DU,Uu⟩,rfl⟩⟩
 have j:=List.map_inj_left.1 z (i,m) M;unfold aDT at j;rw[L]at j;simp only[Ux]at j;obtain⟨r,O,q⟩:=j;have I:=Xl T O;simp only[Ru]at q;rw[q.1,q.2.1,q.2.2]at I;exact I
def AP.aEh [T:Kn P] {id:Nat} {σ σ':Ak} {Q:Exit→Ak→Prop} {rs:List AY} {ess:List (List Ar)} {bs:List Bool} (sl:List Nat) (h:Ew P ops ops.toList σ rs ess bs σ') (z:Q .normal σ') (I:P.follows .mixedOrders=true:=by kernel_rfl)
 (j:(Vs ops&&VX ops&&V9 ops σ.slots.length&&X9 ops)=true:=by kernel_rfl) (m:WX ops bs sl=true:=by kernel_rfl) (q:(sl.all fun i=> !(bs.getD i false))=true:=by kernel_rfl)
 (u:(YK ops.size sl).map (aDT T ops σ rs ess)=(YK ops.size sl).map fun p=>some (rs.getD p.1 .junk,(uJ ops σ rs ess p.2).ents,false):=by kernel_rfl):AP P (.region id ops true) σ Q:=
 AP.aBq I j sl m h (aPx T q u) z
def AP.aBr [T:Kn P] {id:Nat} {y:Code} {σ σ':Ak} {Q:Exit→Ak→Prop} {rs:List AY} {ess:List (List Ar)} {bs:List Bool} (sl:List Nat) (h:Ew P ops ops.toList σ rs ess bs σ') (z:AP P y σ' Q) (I:P.follows .mixedOrders=true:=by kernel_rfl)
 (j:(Vs ops&&VX ops&&V9 ops σ.slots.length&&X9 ops)=true:=by kernel_rfl) (m:WX ops bs sl=true:=by kernel_rfl) (q:(sl.all fun i=> !(bs.getD i false))=true:=by kernel_rfl)
 (u:(YK ops.size sl).map (aDT T ops σ rs ess)=(YK ops.size sl).map fun p=>some (rs.getD p.1 .junk,(uJ ops σ rs ess p.2).ents,false):=by kernel_rfl):AP P (.seq (.region id ops true) y) σ Q:=
 AP.seq1 σ' (AP.aBq I j sl m h (aPx T q u) rfl) z
def AP.conv {c:Code} {σ m:Ak} {Q:Exit→Ak→Prop} (h:∀C ok H a w,Holds C ok H σ a w→∃ok',Holds C ok' H m a w) (k:AP P c m Q):AP P c σ Q:=⟨fun ro q C ok H a w u=>by
 obtain⟨ok',j⟩:=h C ok H a w u
 exact k.run ro q C ok' H a w j⟩
end
def aGR (es:List Ar) (H:List BO):List Nat:=(es.zip H).filterMap fun p=>if p.1.live then D8 p.2.v else none
def aQc {es:List Ar} {H:List BO} {b:Nat}:b∈aGR es H↔∃(k:Nat) (e:Ar) (h:BO),es[k]? =some e∧e.live=true∧H[k]? =some h∧D8 h.v=some b:=by
 unfold aGR;rw[U5];constructor
 ·rintro⟨⟨e,h⟩,q,j⟩;obtain⟨k,m⟩:=List.mem_iff_getElem?.1 q;rw[aaZ]at m;split at j
  ·rename_i hl;exact⟨k,e,h,m.1,hl,m.2,j⟩
  cases j
 rintro⟨k,e,h,u,z,I,J⟩;exact⟨(e,h),List.mem_iff_getElem?.2 ⟨k,aaZ.2 ⟨u,I⟩⟩,by simp[z,J]⟩
def EN.now (w:World) (ok:Nat→Prop) (es:List Ar) (H:List BO):EN:=⟨w,ok,aGR es H,H⟩
section
variable {C : EN} {ok ok' : Nat → Prop} {H H' : List BO} {es es' : List Ar} {w w' : World}
def Cb.inner (j:Cb C ok H es w):Cb (EN.now w ok es H) ok H es w:=
 ⟨.refl _ _,fun _ h=>h,fun _ h=>.inl h,j.kL,.refl _,j.hlen,j.ent,
  fun k e h b m hl q u=>⟨(j.blk k e h b m hl q u).1,(j.blk k e h b m hl q u).2.1,.inr (aQc.2 ⟨k,e,h,m,hl,q,u⟩)⟩,j.E5⟩
def Cb.outer (j:Cb C ok H es w) (h:Cb (EN.now w ok es H) ok' H' es' w'):ES ok w ok' w'∧Names H H'∧Cb C ok' H' es' w':=by
 have z:∀b,b∈aGR es H→¬ok b∧b<w.heap.size∧(C.w0.heap.size≤b∨b∈C.X):=fun b q=>by
  obtain⟨k,e,hd,m,J,u,U⟩:=aQc.1 q;exact j.blk k e hd b m J u U
 refine⟨fun b q=>⟨h.yR b q,h.fr.block b (j.kL b q) fun I=>(z b I).1 q⟩,h.names,⟨h.fr.os.trans j.fr.os,h.fr.tape.trans j.fr.tape,h.fr.output.trans j.fr.output,Eh j.fr.size h.fr.size,fun k O I=>?_⟩,fun b q=>h.yR b (j.yR b q),fun b q=>?_,h.kL,j.names.trans h.names,h.hlen,h.ent,fun k e hd b Y hl Z q=>?_,h.E5⟩
 ·have L:k<w.heap.size:=WG O j.fr.size;refine(h.fr.block k L fun M=>?_).trans (j.fr.block k O I);rcases(z k M).2.2 with m|m
  ·omega
  exact I m
 ·rcases h.yS b q with m|m|m
  ·exact j.yS b m
  ·exact .inr (.inl (Eh j.fr.size m))
  exact .inr ((z b m).2.2)
 obtain⟨m,J,u⟩:=h.blk k e hd b Y hl Z q;refine⟨m,J,?_⟩;rcases u with u|u
 ·exact .inl (Eh j.fr.size u)
 exact(z b u).2.2
def Cb.ajO (u:Cb C ok H es w) {n:Nat} {e e':Ar} {h:BO} {b:Nat} {o:Obj} (J:es[n]? =some e) (hl:e.live=true) (L:H[n]? =some h) (M:D8 h.v=some b) (he:ES ok w ok (w.putObj b o)→Em ok (w.putObj b o) H h e'):
 Cb C ok H (es.set n e') (w.putObj b o)∧ES ok w ok (w.putObj b o):=by
 obtain⟨O,h2,h3⟩:=u.blk n e h b J hl L M;have hg:ES ok w ok (w.putObj b o):=fun c j=>⟨j,XR fun e=>O (e▸j)⟩
 have z:=(Fb.1 J).1;refine u.change (fun c=>c=b) rfl rfl rfl Ap (fun c _ j=>XR j) (fun c j _=>by subst j;exact⟨O,h3⟩) (fun _ h=>h) (fun _ h=>.inl h) (.refl _) (by simpa using u.hlen) fun k e2 h4 hk m=>?_;rcases N7 z hk with⟨rfl,rfl⟩|⟨q,I⟩
 ·right;rw[L]at m;obtain rfl:=CO m;refine⟨he hg,fun _ c j=>?_⟩;rw[M]at j;obtain rfl:=CO j;refine⟨O,rY,h3,fun k' e3 h5 q U Y Z hb3=>?_⟩;rcases N7 z U with⟨rfl,_⟩|⟨_,hk4⟩
  ·exact q rfl
  exact q (u.E5 k' _ e3 e h5 h _ hk4 J Y hl Z L hb3 M)
 left;exact⟨I,m,fun hl2 c j hcb=>q (u.E5 k n e2 e h4 h c I J hl2 hl m L j (by rw[hcb];exact M))⟩
def bM :List Tmp→List AY→List AY→List AY
 |p::j,x::xs,sl=>bM j xs (sl.set p x)
 |_,_,sl=>sl
def aTd :∀(j:List Tmp) (xs:List AY) (vs:List Value) (sl:List AY) (tm:Array Value),xs.length=j.length→vs.length=j.length→(∀i,i<xs.length→R ok w H (xs.getD i .junk) (vs.getD i undef))→
 tm.size=sl.length→(∀t,t<sl.length→R ok w H (sl.getD t .junk) (tm.getD t undef))→
 ((j.zip vs).foldl (fun t p=>t.setIfInBounds p.1 p.2) tm).size=(bM j xs sl).length∧∀t,t<(bM j xs sl).length→R ok w H ((bM j xs sl).getD t .junk) (((j.zip vs).foldl (fun t p=>t.setIfInBounds p.1 p.2) tm).getD t undef)
 | [],xs,vs,sl,tm,_,_,_,hs,q=>by
   have e:bM [] xs sl=sl:=by cases xs<;>rfl
   rw[e];exact⟨hs,q⟩
 |p::j,[],vs,sl,tm,h,_,_,_,_=>I8
 |p::j,x::xs,[],sl,tm,_,h,_,_,_=>I8
 |p::j,x::xs,v::vs,sl,tm,J,L,I,hs,q=>by
  refine aTd j xs vs (sl.set p x) (tm.setIfInBounds p v) Uu eK (fun i hi=>by simpa using I (i+1) Fp) qR (fun t m=>?_);rw[eS]at m;by_cases e:p=t
  ·subst e;have u:(sl.set p x).getD p .junk=x:=aAv
   have z:(tm.setIfInBounds p v).getD p undef=v:=by simp[Array.getD,hs,m]
   rw[u,z];simpa using I 0 Ap
  have u:(sl.set p x).getD t .junk=sl.getD t .junk:=aLe
  have z:(tm.setIfInBounds p v).getD t undef=tm.getD t undef:=by simp[H8,KD e]
  rw[u,z];exact q t m
end
def Xe :Exit→Option (LoopState×Option Code)
 | .normal=>some (.ready,none)
 | .ret=>some (.done,some .ret)
 | .exit i=>some (.done,some (.exit i))
 |_=>none
section
variable {P : Program} {ops : Array Oper} {o : Oper} {rest l : List Oper} {σ : Ak} {K : Exit → Ak → Prop}
def aDl {h:BO} {l:Nat} (e:h.v=.func (.yield l) #[] #[]):D8 h.v=some l:=qo
def Ch.yield {f:Operand} {xs:Array Operand} {ts:Array TypeId} {tm:Array Value} {slots:List AY} {rc:Array Tmp×Code×Code} (k:Nat) (eH:List AY)
 (ho:o.op=.call { callee:=.value f,args:=xs,argTypes:=ts }) (hf:σ.get f=.mp k) (hk:σ.ents[k]? =some (.loop tm slots rc .ready none)) (hx:xs.toList.map σ.get=eH) (z:rc.1.size=xs.size)
 (hg:JL ops σ o.guard=some true) (I:(PN rc.2.1&&PN rc.2.2)=true)
 (h:AP P rc.2.1 ⟨bM rc.1.toList eH slots,σ.ents,σ.ents.length⟩ fun e s=>e=.normal∧∃sl,s.ents[k]? =some (.loop tm sl rc .ready none)∧
  AP P rc.2.2 ⟨s.slots,s.ents.set k (.loop tm sl rc .busy none),s.base⟩ fun e s2=>∃u j,s2.ents[k]? =some (.loop tm u rc .busy none)∧Xe e=some j∧
   Ch P ops rest (Ak.rW ⟨σ.slots,s2.ents.set k (.loop tm u rc j.1 j.2),σ.base⟩ o.dst (.d (.lit (.bool j.2.isNone)))) K):Ch P ops (o::rest) σ K:=by
 rw[CW]at I;refine⟨fun ro l2 Q C ok H a w q J=>?_⟩;show wpListIn (Iz ro) 0 P ops Q (o::(rest++l2)) a w;unfold wpListIn;rw[CV (PZ q (MS hg))];have hv:=hf▸q.get f;obtain⟨hd,L,Y⟩:=Fz q.mem.ent q.mem.hlen hk;obtain⟨l,fn,D,e1,e2,e3,e4⟩:=Y
 have Z:a.eval f=.func (.yield l) #[] #[]:=by
  cases hv with
  |mp _ v s hl hH=>
   rw[L]at hH;obtain rfl:=CO hH;exact e1
 have hrun:(execOp a.eval o).run P w=.ok (.round l fn ((rc.1.zip (xs.map a.eval)).foldl (fun tmps (t,a)=>tmps.setIfInBounds t a) tm) rc.2.1 rc.2.2) w:=by
  have :=run_yield (P:=P) e2 (args:=xs.map a.eval) (by simp[z]);simp[execOp,ho,resolve,Z,Deferred.ofValue,invoke,this]
 unfold Oper.wpIn;rw[iC _ _ _ (by rw[ho];intro c h;cases h),hrun,Oper.uponIn_round];refine⟨fun _ _=>trivial,fun h=>GL,roundIn_of_wpIn trivial ?_⟩
 have hT:(rc.1.zip (xs.map a.eval)).foldl (fun tmps (t,a)=>tmps.setIfInBounds t a) tm=(rc.1.toList.zip (xs.toList.map a.eval)).foldl (fun t p=>t.setIfInBounds p.1 p.2) tm:=by
  rw[←Array.foldl_toList,Array.toList_zip,Array.toList_map]
 rw[hT];have hpl:eH.length=rc.1.toList.length:=by rw[←hx];simp[z]
 obtain⟨p1,p2⟩:=aTd (ok:=ok) (w:=w) (H:=H) rc.1.toList eH (xs.toList.map a.eval) slots tm hpl (by simp[z]) (fun i hi=>by
  have hi':i<xs.toList.length:=by rw[←hx]at hi;simpa using hi
  have hi2:i<xs.size:=by simpa using hi'
  have U:eH.getD i .junk=σ.get xs.toList[i]:=by rw[←hx];simp[List.getD,hi2]
  have q2:(xs.toList.map a.eval).getD i undef=a.eval xs.toList[i]:=by simp[List.getD,hi2]
  rw[U,q2];exact q.get _) e3 e4
 have hin:Holds (EN.now w ok σ.ents H) ok H ⟨bM rc.1.toList eH slots,σ.ents,σ.ents.length⟩ { tmps:=(rc.1.toList.zip (xs.toList.map a.eval)).foldl (fun t p=>t.setIfInBounds p.1 p.2) tm,defers:=[] } w:=
  ⟨q.mem.inner,p1,.nil _ _ _,q.mem.hlen,p2⟩
 show Code.wpIn (Iz (some l)) 0 P _ _ _ _;refine Uc (h.run (some l) (.inr I.1) _ _ _ _ _ hin) ?_;rintro e a1 w1 ⟨ok1,H1,s1,m,rfl,sl,hs1,h2⟩;obtain⟨g1,n1,m1⟩:=q.mem.outer m.mem;have hk1:=n1 k hd L;obtain⟨l',fn',D',U,q2,q3,q4⟩:=m.mem.ent k _ hd hs1 hk1;have M:l'=l:=by rw[e1]at U;cases U;rfl
 subst M
 obtain⟨m2,g2⟩:=m.mem.ajO (o:=.loop { state:=.busy,pending:=none,fn:=fn',tmps:=tm,params:=rc.1,assign:=rc.2.1,body:=rc.2.2,defers:=D' }) (e':=.loop tm sl rc .busy none) hs1 rfl hk1 (aDl U)
  (fun g=>⟨l',fn',D',U,WI (G6.1 q2).1,q3,fun t O=>(q4 t O).mono g (.refl _)⟩)
 refine⟨_,run_beginRound q2 rfl,?_⟩;refine Uc (h2.run (some l') (.inr I.2) _ _ _ _ _ ⟨m2,m.size,m.defers.mono g2,m.base,fun t O=>(m.slot t O).mono g2 (.refl _)⟩) ?_;rintro e a2 w3 ⟨ok2,H2,s2,hh2,u,j,hs2,hj,hL⟩;obtain⟨g3,n3,m3⟩:=q.mem.outer hh2.mem;have hk2:=n3 k hd L;obtain⟨l3,fn3,D3,r1,r2,r3,r4⟩:=hh2.mem.ent k _ hd hs2 hk2;have M:l3=l':=by rw[e1]at r1;cases r1;rfl
 subst M
 have key:j.1=(if j.2.isNone then LoopState.ready else .done)→∃v w',(Instr.endRound l3 j.2).run P w3=.ok v w'∧wpListIn (Iz ro) 0 P ops Q (rest++l2) (a.put o.dst v) w':=by
  intro hst
  obtain⟨m4,g4⟩:=m3.ajO (o:=.loop { state:=(if j.2.isNone then LoopState.ready else .done),pending:=j.2,fn:=fn3,tmps:=tm,params:=rc.1,assign:=rc.2.1,body:=rc.2.2,defers:=D3 }) (e':=.loop tm u rc j.1 j.2) hs2 rfl hk2 (aDl r1)
   (fun g=>⟨l3,fn3,D3,r1,by rw[hst];exact WI (G6.1 r2).1,r3,fun t O=>(r4 t O).mono g (.refl _)⟩)
  refine⟨_,_,run_endRound j.2 r2,hL.run ro l2 Q C _ _ _ _ (Holds.put (σ:=⟨σ.slots,s2.ents.set k (.loop tm u rc j.1 j.2),σ.base⟩) ⟨m4,q.size,q.defers.mono (g3.trans g4),q.base,fun t O=>(q.slot t O).mono (g3.trans g4) n3⟩ o.dst (.refl _ _) (.refl _) m4 (.d _ _ (.lit _))) J⟩
 cases e with
 |normal=>obtain rfl:=CO hj;exact key rfl
 |ret=>obtain rfl:=CO hj;exact key rfl
 |exit i=>obtain rfl:=CO hj;exact key rfl
 |_=>cases hj
def AP.ayr {Q:Exit→Ak→Prop} {g:Operand} {U:Array Tmp} {assign body c:Code} {gf:FuncId} {fn:Func} (m:List AY) (hg:∀(C:EN) (ok:Nat→Prop) (H:List BO) (a:Act) (w:World),Holds C ok H σ a w→R ok w H (.fn (.func gf) [] m) (a.eval g)) (hf:P.funcs[gf]? =some fn) (he:Dl P gf=true) (I:fn.body=some c) (hres:fn.results= #[])
 (h:∀tm,AP P c ⟨(.mp σ.ents.length::m)++List.replicate (fn.ntmps-(m.length+1)) .junk,σ.ents++[.loop tm σ.slots (U,assign,body) .ready none],σ.ents.length+1⟩ fun e s=>(e=.normal∨e=.ret)∧
  ∃sl j x,s.ents[σ.ents.length]? =some (.loop tm sl (U,assign,body) j.1 j.2)∧Xe x=some j∧Q x ⟨σ.slots,s.ents.set σ.ents.length .dead,σ.base⟩):AP P (.rangeFunc g U assign body) σ Q:=by
 refine⟨fun ro hr C ok H a w q=>?_⟩;obtain rfl:ro=none:=hr.resolve_right (by simp[PN]);have hv:=hg C ok H a w q;generalize hav:a.eval g=v at hv;cases hv with
 |fn _ _ _ vs us hl1 hl2 h1 h2=>
  obtain rfl:vs= #[]:=dG (by simpa using hl1);refine wpIn_rangeFunc ?_;intro fnm _;obtain⟨L,hrec⟩:∃L:Loop,L={ state:=.ready,pending:=none,fn:=fnm,tmps:=a.tmps,params:=U,assign,body,defers:=w.heap.size }:=⟨_,rfl⟩
  obtain⟨z,J⟩:∃z,(w.alloc (.deferred (some []))).alloc (.loop L)=z:=⟨_,rfl⟩
  have hsz:z.heap.size=w.heap.size+2:=by rw[←J];simp
  have hL:z.heap[w.heap.size+1]? =some (.loop L):=by
   rw[←J];have :=gV (w.alloc (.deferred (some []))) (.loop L);rwa [aOp]at this
  have hD:z.heap[w.heap.size]? =some (.deferred (some [])):=by
   rw[←J];exact(Jk _ _ _ Ap).trans (gV w _)
  have hold:∀b,b<w.heap.size→z.heap[b]? =w.heap[b]? :=fun b I=>by
   rw[←J];exact(Jk _ _ _ DU).trans (Jk _ _ _ I)
  have hos:z.os=w.os∧z.tape=w.tape∧z.output=w.output:=by rw[←J];exact⟨rfl,rfl,rfl⟩
  obtain⟨hd,hhd⟩:∃hd:BO,hd=⟨.func (.yield (w.heap.size+1)) #[] #[],0⟩:=⟨_,rfl⟩
  have Y:hd.v=.func (.yield (w.heap.size+1)) #[] #[]:=by rw[hhd]
  have hgr:ES ok w (fun b=>ok b∨b=w.heap.size) z:=fun b I=>⟨.inl I,hold b (q.mem.kL b I)⟩
  have hHn:(H++[hd])[σ.ents.length]? =some hd:=by rw[←q.mem.hlen];simp
  obtain⟨m2,g2⟩:=q.mem.change (ok':=fun b=>ok b∨b=w.heap.size) (H':=H++[hd]) (es':=σ.ents++[.loop a.tmps σ.slots (U,assign,body) .ready none]) (w':=z) (fun _=>False) hos.1 hos.2.1 hos.2.2 AA (fun b I _=>hold b I) (fun _ h=>h.elim)
   (fun _ h=>.inl h) (fun b I=>I.imp id fun h=>AA) (.push _ _) (by simp[q.mem.hlen]) (fun k e hk he Z=>by
    rcases Vt he with he'|⟨rfl,rfl⟩
    ·left;have hkl:k<H.length:=by rw[q.mem.hlen];exact(Fb.1 he').1
     rw[Gj hkl]at Z;exact⟨he',Z,fun _ _ _ h=>h⟩
    right;rw[hHn]at Z;obtain rfl:=CO Z;refine⟨⟨w.heap.size+1,fnm,w.heap.size,Y,by rw[hL,hrec],q.size,fun t ht=>(q.slot t ht).mono hgr (.push _ _)⟩,fun _ b I=>?_⟩;rw[aDl Y]at I;obtain rfl:=CO I;refine⟨fun hx=>?_,AA,.inl (by have :=q.mem.fr.size;omega),fun k' e' h' hne he' hl' M hb'=>?_⟩
    ·rcases hx with hx|hx
     ·have :=q.mem.kL _ hx;omega
     omega
    rcases Vt he' with he2|⟨rfl,_⟩
    ·have hkl:k'<H.length:=by rw[q.mem.hlen];exact(Fb.1 he2).1
     rw[Gj hkl]at M;have :=(q.mem.blk k' e' h' _ he2 hl' M hb').2.1;omega
    exact hne rfl)
  have hargs:∀t,t<((.mp σ.ents.length::m)++List.replicate (fn.ntmps-(m.length+1)) .junk:List AY).length→
   R (fun b=>ok b∨b=w.heap.size) z (H++[hd]) (((.mp σ.ents.length::m)++List.replicate (fn.ntmps-(m.length+1)) .junk:List AY).getD t .junk)
     (((#[.func (.yield (w.heap.size+1)) #[] #[]]++us)++Array.replicate (fn.ntmps-(#[.func (.yield (w.heap.size+1)) #[] #[]]++us:Array Value).size) undef:Array Value).getD t undef):=by
   intro t ht;by_cases h0:t<m.length+1
   ·have q1:((.mp σ.ents.length::m)++List.replicate (fn.ntmps-(m.length+1)) .junk:List AY).getD t .junk=(.mp σ.ents.length::m:List AY).getD t .junk:=by
     simp only[List.getD];rw[Gj (by simpa using h0)]
    have q2:((#[.func (.yield (w.heap.size+1)) #[] #[]]++us)++Array.replicate (fn.ntmps-(#[.func (.yield (w.heap.size+1)) #[] #[]]++us:Array Value).size) undef:Array Value).getD t undef=(#[.func (.yield (w.heap.size+1)) #[] #[]]++us:Array Value).getD t undef:=by
     simp only[H8];rw[dc DU]
    rw[q1,q2];cases t with
    |zero=>
     have q3:(#[.func (.yield (w.heap.size+1)) #[] #[]]++us:Array Value).getD 0 undef=.func (.yield (w.heap.size+1)) #[] #[]:=by
      simp only[H8];rw[dc Ap];rfl
     rw[q3];exact .mp _ _ 0 rfl (by rw[hHn,hhd])
    |succ t=>
     have q3:(#[.func (.yield (w.heap.size+1)) #[] #[]]++us:Array Value).getD (t+1) undef=us.getD t undef:=by
      simp only[H8];rw[aHy Ap];rfl
     rw[q3];simpa using(h2 t AA).mono hgr (.push _ _)
   have q1:((.mp σ.ents.length::m)++List.replicate (fn.ntmps-(m.length+1)) .junk:List AY).getD t .junk=.junk:=by
    simp only[List.getD];rw[Jd DU,aNg];split<;>rfl
   rw[q1];exact .junk _
  have hin:Holds (EN.now z (fun b=>ok b∨b=w.heap.size) (σ.ents++[.loop a.tmps σ.slots (U,assign,body) .ready none]) (H++[hd])) (fun b=>ok b∨b=w.heap.size) (H++[hd])
   ⟨(.mp σ.ents.length::m)++List.replicate (fn.ntmps-(m.length+1)) .junk,σ.ents++[.loop a.tmps σ.slots (U,assign,body) .ready none],σ.ents.length+1⟩
   { tmps:=(#[.func (.yield (w.heap.size+1)) #[] #[]]++us)++Array.replicate (fn.ntmps-(#[.func (.yield (w.heap.size+1)) #[] #[]]++us:Array Value).size) undef,defers:=[] } z:=
   ⟨m2.inner,by simp[hl2];omega,.nil _ _ _,by simp[EN.now,q.mem.hlen],hargs⟩
  refine⟨w.heap.size+1,[{ target:=.collected w.heap.size,args:= #[] }],z,{ target:=.fn (.func gf) us,args:= #[.func (.yield (w.heap.size+1)) #[] #[]] },z,gf, #[.func (.yield (w.heap.size+1)) #[] #[]]++us,z,?_,?_,fun _ _=>trivial,?_,fun h=>GL,?_⟩
  ·rw[←J,hrec];exact run_enterLoop_outer _ _ _ _ _
  ·have e9:a.eval (.const (.func (.yield (w.heap.size+1)) #[] #[]))=.func (.yield (w.heap.size+1)) #[] #[]:=rfl;simp[resolve,hav,Deferred.ofValue,e9]
  ·have :=TL he (#[.func (.yield (w.heap.size+1)) #[] #[]]++us) z;simpa[invoke]using this
  refine aNo hf I trivial (Uc ((h a.tmps).run none (.inl rfl) _ _ _ _ _ hin) ?_) rfl;rintro e a' w' ⟨ok',H',s,M,hee,sl,j,x,hs,hj,hQ⟩;obtain⟨Ds,hDs,hnd,hds⟩:=M.defers
  have key:LeavesInM (Iz none) 0 P fn a'.tmps (rangePost (Iz none) 0 P (w.heap.size+1) (fun e a' w'=>∃ok' H' σ',Holds C ok' H' σ' a' w'∧Q e σ') { a with defers:=[{ target:=.collected w.heap.size,args:= #[] }]++a.defers }) a'.defers .returning w':=by
   rw[hDs];refine aHn (P:=P) (C:=EN.now z (fun b=>ok b∨b=w.heap.size) (σ.ents++[.loop a.tmps σ.slots (U,assign,body) .ready none]) (H++[hd])) m2.kL (fun ok3 a3 w3 h3=>?_) Ds M hds hnd;refine⟨.tuple #[],by simp[results,hres],?_⟩;obtain⟨g3,n3,m3⟩:=m2.outer h3.mem;have hk3:=n3 _ hd hHn;obtain⟨l3,fn3,D3,r1,r2,r3,r4⟩:=h3.mem.ent _ _ hd hs hk3;have hll:l3=w.heap.size+1:=by rw[Y]at r1;cases r1;rfl
   subst hll
   have hnb:j.1≠ .busy:=by
    cases x<;>simp[Xe]at hj<;>rw[←hj]<;>simp
   obtain⟨m4,g4⟩:=m3.ajO (o:=.loop { state:=.exhausted,pending:=j.2,fn:=fn3,tmps:=a.tmps,params:=U,assign:=assign,body:=body,defers:=D3 }) (e':=.dead) hs rfl hk3 (aDl Y) (fun _=>trivial);have O:=(g2.trans g3).trans g4
   have u:Holds C ok3 H' ⟨σ.slots,s.ents.set σ.ents.length .dead,σ.base⟩ { a with defers:=[{ target:=.collected w.heap.size,args:= #[] }]++a.defers }
    (w3.putObj (w.heap.size+1) (.loop { state:=.exhausted,pending:=j.2,fn:=fn3,tmps:=a.tmps,params:=U,assign:=assign,body:=body,defers:=D3 })):=by
    refine⟨m4,q.size,?_,q.base,fun t ht=>(q.slot t ht).mono O ((Names.push _ _).trans n3)⟩;obtain⟨Es,q1,q2,q3⟩:=q.defers.mono O;obtain⟨Fs,p1,p2,p3⟩:=q.defers
    have hEF:Es=Fs:=by
     have :=q1.symm.trans p1;exact(List.map_inj_right (fun a b h=>Jz)).1 this
    subst hEF;refine⟨w.heap.size::Es,by simp[q1],Jy.2 ⟨fun hm=>?_,q2⟩,fun D hDm=>?_⟩
    ·have :=q.mem.kL _ (p3 _ hm).1;omega
    rcases Ei.1 hDm with rfl|hDm
    ·have hok2:(fun b=>ok b∨b=w.heap.size) w.heap.size:=.inr rfl;have q4:=(g3.trans g4) _ hok2;exact⟨q4.1,q.mem.fr.size,q4.2.trans hD⟩
    exact q3 D hDm
   refine⟨j.2,_,run_endLoop r2 hnb,?_⟩;cases x with
   |normal=>simp[Xe]at hj;rw[←hj]at u ⊢;exact⟨_,_,_,u,hQ⟩
   |ret=>simp[Xe]at hj;rw[←hj]at u ⊢;exact wpIn_ret ⟨_,_,_,u,hQ⟩
   |exit i=>simp[Xe]at hj;rw[←hj]at u ⊢;exact wpIn_exit ⟨_,_,_,u,hQ⟩
   |_=>cases hj
  rcases hee with rfl|rfl
  ·exact key
  exact key
def AP.rangeFunc {Q:Exit→Ak→Prop} {g:Operand} {u:Array Tmp} {assign body c:Code} {z:FuncId} {fn:Func} (m:List AY) (I:σ.get g=.fn (.func z) [] m) (J:P.funcs[z]? =some fn) (L:Dl P z=true) (M:fn.body=some c) (q:fn.results= #[])
 (h:∀tm,AP P c ⟨(.mp σ.ents.length::m)++List.replicate (fn.ntmps-(m.length+1)) .junk,σ.ents++[.loop tm σ.slots (u,assign,body) .ready none],σ.ents.length+1⟩ fun e s=>(e=.normal∨e=.ret)∧
  ∃sl j x,s.ents[σ.ents.length]? =some (.loop tm sl (u,assign,body) j.1 j.2)∧Xe x=some j∧Q x ⟨σ.slots,s.ents.set σ.ents.length .dead,σ.base⟩):AP P (.rangeFunc g u assign body) σ Q:=
 AP.ayr m (fun _ _ _ _ _ O=>I▸O.get g) J L M q h
def AP.amY {Q:Exit→Ak→Prop} {g:Operand} {q:Array Tmp} {assign body c:Code} {u:FuncId} {fn:Func} (cs:List D) (z:σ.get g=.d (.fn (.func u) [] cs)) (I:P.funcs[u]? =some fn) (J:Dl P u=true) (L:fn.body=some c) (m:fn.results= #[])
 (h:∀tm,AP P c ⟨(.mp σ.ents.length::cs.map .d)++List.replicate (fn.ntmps-((cs.map AY.d).length+1)) .junk,σ.ents++[.loop tm σ.slots (q,assign,body) .ready none],σ.ents.length+1⟩ fun e s=>(e=.normal∨e=.ret)∧
  ∃sl j x,s.ents[σ.ents.length]? =some (.loop tm sl (q,assign,body) j.1 j.2)∧Xe x=some j∧Q x ⟨σ.slots,s.ents.set σ.ents.length .dead,σ.base⟩):AP P (.rangeFunc g q assign body) σ Q:=
 AP.ayr (cs.map .d) (fun _ _ _ _ _ M=>R.dfn (z▸M.get g)) I J L m h
end
def am3 :Code→Nat→Code
 | .seq a b,i=>if i=0 then a else b
 | .cond _ a b,i=>if i=0 then a else b
 | .block _ a,_=>a
 | .loop a,_=>a
 | .scope a,_=>a
 | .rangeFunc _ _ a b,i=>if i=0 then a else b
 |c,_=>c
def SPr (c:Option Code) (p:List Nat):Array Tmp×Code×Code:=
 match p.foldl am3 (c.getD .skip)with
 | .rangeFunc _ j a b=>(j,a,b)
 |_=>(#[],.skip,.skip)
section
variable {K V : Type} [BEq K]
def C9 :List (K×V)→K→Option V
 | [],_=>none
 |p::l,k=>bif k==p.1 then some p.2 else C9 l k
def E8 :List (K×V)→K→V→List (K×V)
 | [],k,v=>[(k,v)]
 |p::l,k,v=>bif k==p.1 then(k,v)::l else p::E8 l k v
def BX (ek:K→Value) (ev:V→D) (p:K×V):Value×D:=(ek p.1,ev p.2)
structure KeyTy (P:Program) (t:TypeId) (ek:K→Value):Prop where
 same:∃kd,P.underlying t=some kd∧∀a b,Instr.sameNow kd (ek a) (ek b)=some (a==b)
 check:∀e a w,(Instr.checkKey e 10000 t (ek a)).run P w=.ok () w
 eq:∀a b:K,(a==b)=true→a=b
 bits:∀a,Instr.sameBits 10000 (ek a) (ek a)=true
def apJ {P:Program} {t:TypeId} {k:IntKind} (h:P.underlying t=some (.int k)):KeyTy P t (fun n:Int=>Value.int k n):=by
 refine⟨⟨_,h,fun a b=>by simp[Instr.sameNow]⟩,fun e a w=>?_,fun a b h=>Jz,fun a=>?_⟩
 ·have :∀n,(Instr.checkKey e (n+1) t (.int k a)).run P w=.ok () w:=fun n=>by simp[Instr.checkKey,underlying,h]
  exact this 9999
 unfold Instr.sameBits;simp
def aCd {ek:K→Value} {kd:TypeDesc} (hs:∀a b,Instr.sameNow kd (ek a) (ek b)=some (a==b)) (k:K) (v:V):∀(m:List (K×V)) (l:List MapEntry) (i:Nat),l.map (·.key)=m.map (fun p=>ek p.1)→
 (Instr.findNow kd (ek k) l i=some none∧C9 m k=none∧E8 m k v=m++[(k,v)])∨
 ∃j e p,Instr.findNow kd (ek k) l i=some (some (i+j,e.val))∧l[j]? =some e∧m[j]? =some p∧C9 m k=some p.2∧(k==p.1)=true∧E8 m k v=m.set j (k,v)
 | [],[],_,_=>.inl ⟨rfl,rfl,rfl⟩
 | [],_::_,_,h=>I8
 |_::_,[],_,h=>I8
 |p::m,e::l,i,h=>by
  simp only[Ig,aDS]at h;cases q:(k==p.1)with
  |true=>
   refine .inr ⟨0,e,p,?_,rfl,rfl,?_,q,?_⟩
   ·simp[Instr.findNow,h.1,hs,q]
   ·simp[C9,q]
   simp[E8,q]
  |false=>
   rcases aCd hs k v m l (i+1) h.2 with⟨u,z,I⟩|⟨j,e',J,u,z,I,L,M,O⟩
   ·refine .inl ⟨?_,?_,?_⟩
    ·simp[Instr.findNow,h.1,hs,q,u]
    ·simp[C9,q,z]
    simp[E8,q,I]
   refine .inr ⟨j+1,e',J,?_,U3,Qq,?_,M,?_⟩
   ·simp[Instr.findNow,h.1,hs,q,u];omega
   ·simp[C9,q,L]
   simp[E8,q,O]
end
section
variable {ok : Nat → Prop} {w : World} {es : List (Value × D)} {ms : Array MapEntry} {clock : Nat}
def JA.push (h:JA ok w es ms clock) {k v:Value} {x:D} (M:DV ok w x v):JA ok w (es++[(k,x)]) (ms.push { key:=k,val:=v,born:=clock }) (clock+1):=by
 have q:∀(i:Nat) (m:MapEntry),(ms.push { key:=k,val:=v,born:=clock })[i]? =some m→ms[i]? =some m∨(i=ms.size∧m={ key:=k,val:=v,born:=clock }):=fun i m u=>by
  rw[aJj]at u;split at u
  ·rename_i e;exact .inr ⟨e,(CO u).symm⟩
  exact .inl u
 refine⟨by simp[h.len],fun i e m I u=>?_,fun i j m n J u O=>?_⟩
 ·rcases q i m u with z|⟨rfl,rfl⟩
  ·have hi:i<es.length:=by rw[←h.len];exact(G6.1 z).1
   rw[Gj hi]at I;obtain⟨U,Y,Z⟩:=h.ent i e m I z;exact⟨U,Y,Nat.lt_succ_of_lt Z⟩
  rw[h.len]at I;simp at I;subst I;exact⟨rfl,M,YE _⟩
 rcases q i m u with z|⟨rfl,rfl⟩<;>rcases q j n O with L|⟨rfl,rfl⟩
 ·exact h.inc i j m n J z L
 ·have hi:i<es.length:=by rw[←h.len];exact(G6.1 z).1
  exact(h.ent i es[i] m Qp z).2.2
 ·have :=(G6.1 L).1;omega
 omega
def JA.modify (h:JA ok w es ms clock) {k v:Value} {x:D} (hx:DV ok w x v) (j:Nat):JA ok w (es.set j (k,x)) (ms.modify j fun e=>{ e with key:=k,val:=v }) clock:=by
 have u:∀(i:Nat) (m:MapEntry),(ms.modify j fun e=>{ e with key:=k,val:=v })[i]? =some m→∃z,ms[i]? =some z∧m.born=z.born∧(i≠j→m=z)∧(i=j→m.key=k∧m.val=v):=fun i m I=>by
  rw[Ol]at I;split at I
  ·rename_i e;rw[Ux]at I;obtain⟨z,J,rfl⟩:=I;exact⟨z,J,rfl,fun q=>absurd e.symm q,fun _=>⟨rfl,rfl⟩⟩
  rename_i e;exact⟨m,I,rfl,fun _=>rfl,fun q=>absurd q.symm e⟩
 refine⟨by simp[h.len],fun i e m L I=>?_,fun i Y m n M I hn=>?_⟩
 ·obtain⟨z,J,O,h3,Z⟩:=u i m I;have hi:i<es.length:=by rw[←h.len];exact(G6.1 J).1
  obtain⟨q1,q2,q3⟩:=h.ent i es[i] z Qp J;by_cases U:i=j
  ·subst U;simp[hi]at L;subst L;exact⟨(Z rfl).1,by rw[(Z rfl).2];exact hx,by rw[O];exact q3⟩
  rw[YJ (fun q=>U q.symm)]at L;rw[h3 U];exact h.ent i e z L J
 obtain⟨z,J,O,_⟩:=u i m I;obtain⟨n0,g1,g2,_⟩:=u Y n hn;rw[O,g2];exact h.inc i Y z n0 M J g1
def JA.mono {ok':Nat→Prop} {w':World} (h:JA ok w es ms clock) (u:ES ok w ok' w'):JA ok' w' es ms clock:=⟨h.len,fun i e m j q=>⟨(h.ent i e m j q).1,(h.ent i e m j q).2.1.mono u,(h.ent i e m j q).2.2⟩,h.inc⟩
def JA.keys (h:JA ok w es ms clock):ms.toList.map (·.key)=es.map (·.1):=by
 apply jR
 ·simp[h.len]
 intro i j m;simp at j m;have :=(h.ent i es[i] ms[i] (by simp[m]) iY).1;simpa using this
end
def YC :Value→D
 | .agg vs=>.agg (vs.toList.map OX)
 |v=>OX v
def ad7 {ok:Nat→Prop} {w:World} {z:Value} (h:z.cells.all (·.oneCell')=true):DV ok w (YC z) z:=by
 unfold YC;split
 ·rename_i vs;refine .agg _ vs Ap (fun i hi=>?_) (fun i hi=>?_)
  ·simp at hi;have e:(vs.toList.map OX).getD i DK=OX vs[i]:=MG
   rw[e];exact oG ((QW.1 h) _ (by simp[Value.cells]))
  simp at hi;have e:(vs.toList.map OX).getD i DK=OX vs[i]:=MG
  have j:vs.getD i undef=vs[i]:=by simp[Array.getD,hi]
  rw[e,j];exact gX _
 exact gX _
section
variable {P : Program} {o : Oper} {es : List Ar} {K V : Type} [BEq K]
def Rj {ok:Nat→Prop} {w:World} {H:List BO} {k:Nat} {v:Value} {h:BO} (m:R ok w H (.mp k) v) (q:H[k]? =some h):v=h.v:=by
 cases m with
 |mp _ _ s hl j=>
  rw[q]at j;cases j;rfl
def aCy {t:TypeId} (z:o.op=.makeMap t none):BU P o [] es (.mp es.length) (es++[.map []]):=
 .eff fun C ok H a w q O=>by
  have u:Em ok (w.alloc (.map #[] 0)) (H++[⟨.map (some w.heap.size),0⟩]) ⟨.map (some w.heap.size),0⟩ (.map []):=
   ⟨w.heap.size, #[],0,rfl,(aJf w _).1,⟨rfl,fun i e m I=>by simp at I,fun i j m n _ q=>VI⟩⟩
  obtain⟨J,L⟩:=q.push (.map #[] 0) ⟨.map (some w.heap.size),0⟩ _ (fun b u=>aMs) u;refine⟨.map (some w.heap.size),_,ok,_,.inl ?_,L,Names.push _ _,J,.mp _ _ 0 rfl aGS⟩;have M:(newObj (.map #[] 0)).run P w=.ok w.heap.size (w.alloc (.map #[] 0)):=rfl;simp[execOp,z,Instr.makeMap,M]
def aRV {t k e:TypeId} {x:Operand} {kd:IntKind} {n:Int} (I:P.underlying t=some (.map k e)) (J:o.op=.makeMap t (some x)):BU P o [(x,.d (.lit (.int kd n)))] es (.mp es.length) (es++[.map []]):=
 .eff fun C ok H a w q L=>by
  have u:Em ok (w.alloc (.map #[] 0)) (H++[⟨.map (some w.heap.size),0⟩]) ⟨.map (some w.heap.size),0⟩ (.map []):=
   ⟨w.heap.size, #[],0,rfl,(aJf w _).1,⟨rfl,fun i e m M=>qP,fun i j m n _ q=>VI⟩⟩
  obtain⟨O,U⟩:=q.push (.map #[] 0) ⟨.map (some w.heap.size),0⟩ _ (fun b u=>aMs) u;have z:=(LH L).lit;simp only at z;refine⟨.map (some w.heap.size),_,ok,_,.inl ?_,U,Names.push _ _,O,.mp _ _ 0 rfl aGS⟩;have Y:(newObj (.map #[] 0)).run P w=.ok w.heap.size (w.alloc (.map #[] 0)):=rfl;simp[execOp,J,Instr.makeMap,Y,z,asInt,asIntOf,underlying,I]
def aEK {t Z vt:TypeId} {ek:K→Value} (ev:V→D) {J:V} {z:Value} {m:List (K×V)} {key:K} {ok:Nat→Prop} {w:World} {b:Nat} {ms:Array MapEntry} {clock:Nat} (ht:P.underlying t=some (.map Z vt)) (hk:KeyTy P Z ek) (hz:(P.info? vt).bind (·.zero)=some z) (L:YC z=ev J)
 (M:z.cells.all (·.oneCell')=true) (hb:w.heap[b]? =some (.map ms clock)) (hM:JA ok w (m.map (BX ek ev)) ms clock) (c:Bool):
 ∃v,(Instr.lookup t (.map (some b)) (ek key) c).run P w=.ok (if c then .tuple #[v,.bool (C9 m key).isSome]else v) w∧DV ok w (ev ((C9 m key).getD J)) v:=by
 obtain⟨kd,q,hs⟩:=hk.same;have O:ms.toList.map (·.key)=m.map (fun p=>ek p.1):=by rw[hM.keys];simp[BX,l9]
 have u:=hk.check;obtain⟨i,hi,U⟩:=jE.1 hz;rcases aCd (i:=0) hs key J m ms.toList O with⟨Y,I,_⟩|⟨j,e,p,Y,I,h3,h4,_⟩
 ·refine⟨z,?_,?_⟩
  ·rw[I];simp[Instr.lookup,underlying,ht,PS hb,u,Instr.findKey,q,Y,zeroValue,typeInfo,hi,U]
  rw[I];have :=ad7 (ok:=ok) (w:=w) M;rw[L]at this;exact this
 refine⟨e.val,?_,?_⟩
 ·rw[h4];simp[Instr.lookup,underlying,ht,PS hb,u,Instr.findKey,q,Y]
 rw[h4];have h5:(m.map (BX ek ev))[j]? =some (BX ek ev p):=by rw[JC,h3];rfl
 exact(hM.ent j _ e h5 Qq).2.1
def dR {t J L:TypeId} {x y:Operand} {k:Nat} {ek:K→Value} (ev:V→D) (M:V) {z:Value} {m:List (K×V)} {key:K} (Z:P.underlying t=some (.map J L)) (hk:KeyTy P J ek) (hz:(P.info? L).bind (·.zero)=some z) (q:YC z=ev M) (u:z.cells.all (·.oneCell')=true)
 (he:es[k]? =some (.map (m.map (BX ek ev)))) (ho:o.op=.lookup t x y false):BU P o [(x,.mp k),(y,.d (.lit (ek key)))] es (.d (ev ((C9 m key).getD M))) es:=
 .pure fun ok H a w j hl O=>by
  obtain⟨hd,hh,I⟩:=Fz j hl he;obtain⟨b,ms,clock,h1,h2,h3⟩:=I;have U:=Rj (Ea O).1 hh;have Y:=(Ea O).2.lit;simp only at U Y;obtain⟨v,hr,hv⟩:=aEK (key:=key) ev Z hk hz q u h2 h3 false;refine⟨v,?_,.d _ _ hv⟩;simp[execOp,ho,U,Y,h1,hr]
def zq {t J L:TypeId} {x y:Operand} {k:Nat} {ek:K→Value} (ev:V→D) (M:V) {z:Value} {m:List (K×V)} {key:K} (Z:P.underlying t=some (.map J L)) (hk:KeyTy P J ek) (hz:(P.info? L).bind (·.zero)=some z) (q:YC z=ev M) (u:z.cells.all (·.oneCell')=true)
 (he:es[k]? =some (.map (m.map (BX ek ev)))) (ho:o.op=.lookup t x y true):BU P o [(x,.mp k),(y,.d (.lit (ek key)))] es (.fB [.d (ev ((C9 m key).getD M)),.d (DL (C9 m key).isSome)]) es:=
 .pure fun ok H a w j hl O=>by
  obtain⟨hd,hh,I⟩:=Fz j hl he;obtain⟨b,ms,clock,h1,h2,h3⟩:=I;have U:=Rj (Ea O).1 hh;have Y:=(Ea O).2.lit;simp only at U Y;obtain⟨v,hr,hv⟩:=aEK (key:=key) ev Z hk hz q u h2 h3 true;refine⟨.tuple #[v,.bool (C9 m key).isSome],?_,.fB _ _ rfl fun i hi=>?_⟩
  ·simp[execOp,ho,U,Y,h1,hr]
  match i,hi with
  |0,_=>exact .d _ _ hv
  |1,_=>exact .d _ _ (.lit _)
def vH {C:EN} {ok:Nat→Prop} {H:List BO} {w:World} (I:Cb C ok H es w) {k:Nat} {es0 q:List (Value×D)} {b clock j:Nat} {ms m:Array MapEntry} {hd:BO} (J:es[k]? =some (.map es0)) (L:H[k]? =some hd) (u:hd.v=.map (some b)) (z:w.heap[b]? =some (.map ms clock))
 (M:JA ok w q m j):(setObj b (.map m j)).run P w=.ok () (w.putObj b (.map m j))∧Cb C ok H (es.set k (.map q)) (w.putObj b (.map m j))∧ES ok w ok (w.putObj b (.map m j)):=by
 refine⟨by simp[setObj,Sem.run,z,World.putObj],I.ajO J rfl L o9 fun O=>⟨b,m,j,u,WI (G6.1 z).1,M.mono O⟩⟩
def jd {t kt vt:TypeId} {x y u:Operand} {k:Nat} {ek:K→Value} (ev:V→D) {m:List (K×V)} {key:K} {val:V} (ht:P.underlying t=some (.map kt vt)) (J:KeyTy P kt ek) (Y:es[k]? =some (.map (m.map (BX ek ev)))) (ho:o.op=.mapUpdate t x y u):
 BU P o [(x,.mp k),(y,.d (.lit (ek key))),(u,.d (ev val))] es .junk (es.set k (.map ((E8 m key val).map (BX ek ev)))):=
 .eff fun C ok H a w L Z=>by
  obtain⟨hd,hh,hok⟩:=Fz L.ent L.hlen Y;obtain⟨b,ms,clock,M,O,U⟩:=hok;have hx:=Rj (Z (x,.mp k) Ap) hh;have hy:=(Z (y,.d (.lit (ek key))) Ap).lit;have hu:DV ok w (ev val) (a.eval u):=by have :=Z (u,.d (ev val)) Ap;cases this with |d _ _ h=>exact h
  simp only at hx hy;obtain⟨kd,q,hs⟩:=J.same;have hks:ms.toList.map (·.key)=m.map (fun p=>ek p.1):=by rw[U.keys];simp[BX,l9]
  have z:=J.check;rcases aCd (i:=0) hs key val m ms.toList hks with⟨q1,_,q3⟩|⟨j,e,p,q1,q2,q3,_,q5,q6⟩
  ·have hM:=U.push (k:=ek key) hu;obtain⟨r1,r2,r3⟩:=vH (P:=P) L Y hh M O hM;refine⟨undef,_,ok,H,.inr ⟨rfl,?_⟩,r3,.refl _,?_,.junk _⟩
   ·simp[execOp,ho,hx,hy,M,Instr.mapUpdate,underlying,ht,PS O,z,Instr.findKey,q,q1,r1]
   rw[q3,JU];exact r2
  have hM:=U.modify (k:=ek key) hu j;obtain⟨r1,r2,r3⟩:=vH (P:=P) L Y hh M O hM
  have I:e.key=ek key:=by
   have h5:(m.map (BX ek ev))[j]? =some (BX ek ev p):=by rw[JC,q3];rfl
   rw[(U.ent j _ e h5 kK).1,J.eq _ _ q5];rfl
  have hst:∀w,(Instr.keyThatStays (ek key) (ek key)).run P w=.ok (ek key) w:=fun w=>by simp[Instr.keyThatStays,J.bits]
  have hms:ms[j]? =some e:=kK
  refine⟨undef,_,ok,H,.inr ⟨rfl,?_⟩,r3,.refl _,?_,.junk _⟩
  ·simp[execOp,ho,hx,hy,M,Instr.mapUpdate,underlying,ht,PS O,z,Instr.findKey,q,q1,hms,I,hst,r1]
  rw[q6,zB];exact r2
def aqL {t O U:TypeId} {x:Operand} {k:Nat} {es0:List (Value×D)} (Y:P.underlying t=some (.map O U)) (u:es[k]? =some (.map es0)) (Z:o.op=.call { callee:=.builtin .clear,args:= #[x],argTypes:= #[t] }):
 BU P o [(x,.mp k)] es .junk (es.set k (.map [])):=
 .eff fun C ok H a w q hn=>by
  obtain⟨hd,I,z⟩:=Fz q.ent q.hlen u;obtain⟨b,ms,clock,J,L,h3⟩:=z;have M:=Rj (hn (x,.mp k) Ap) I;simp only at M;have hM:JA ok w [] #[] clock:=⟨rfl,fun i e m u=>by simp at u,fun i j m n _ q=>VI⟩
  obtain⟨r1,r2,r3⟩:=vH (P:=P) q u I J L hM;refine⟨.tuple #[],_,ok,H,.inl ?_,r3,.refl _,r2,.junk _⟩;simp[execOp,Z,resolve,invoke,builtin,Builtin.clear_,M,J,underlying,Y,PS L,r1]
def aUe {t u z:TypeId} {x:Operand} {k:Nat} {es0:List (Value×D)} {n:Nat} (hl:es0.length=n) (I:P.underlying t=some (.map u z)) (J:es[k]? =some (.map es0)) (L:o.op=.call { callee:=.builtin .len,args:= #[x],argTypes:= #[t] }):
 BU P o [(x,.mp k)] es (.d (Aa n)) es:=
 .pure fun ok H a w j hlen M=>by
  obtain⟨hd,O,m⟩:=Fz j hlen J;obtain⟨b,ms,clock,U,Y,Z⟩:=m;have q:=Rj (M (x,.mp k) Ap) O;simp only at q;refine⟨goInt es0.length,?_,by rw[hl];exact .d _ _ (.lit _)⟩;simp[execOp,L,resolve,invoke,builtin,Builtin.len_,q,U,underlying,I,PS Y,Z.len]
end
def aEo {ok:Nat→Prop} {w:World} {H:List BO} {xs ys:List AY} {vs us:List Value} (h:Fg ok w H xs vs) (k:Fg ok w H ys us):Fg ok w H (xs++ys) (vs++us):=by
 refine⟨by rw[EG,EG,h.1,k.1],fun i hi=>?_⟩;by_cases j:i<xs.length
 ·have m:(xs++ys).getD i .junk=xs.getD i .junk:=by simp[List.getD,Gj j]
  have q:(vs++us).getD i undef=vs.getD i undef:=by simp[List.getD,Gj (by rw[h.1];exact j:i<vs.length)]
  rw[m,q];exact h.2 i j
 have u:i-xs.length<ys.length:=aIM
 have m:(xs++ys).getD i .junk=ys.getD (i-xs.length) .junk:=by simp[List.getD,Jd (Uk j)]
 have q:(vs++us).getD i undef=us.getD (i-xs.length) undef:=by simp[List.getD,Jd (by rw[h.1];omega:vs.length≤i),h.1]
 rw[m,q];exact k.2 _ u
def Cb.aEj {C:EN} {ok:Nat→Prop} {H:List BO} {es:List Ar} {w w':World} (j:Cb C ok H es w) {v':Value} {size:Nat} {e:Ar} (z:w.grownBy w' none) (I:∀g,D8 v'=some g→w.heap.size≤g∧g<w'.heap.size)
 (he:ES ok w ok w'→Em ok w' (H++[⟨v',size⟩]) ⟨v',size⟩ e):Cb C ok (H++[⟨v',size⟩]) (es++[e]) w'∧ES ok w ok w':=by
 have g0:ES ok w ok w':=fun b I=>⟨I,z.block b (j.kL b I) Ap⟩
 refine j.change (fun _=>False) z.os z.tape z.output z.size (fun b I _=>z.block b I Ap) (fun _ h=>h.elim) (fun _ h=>h) (fun _ h=>.inl h) (Names.push _ _) (by simp[j.hlen]) ?_;intro k e' h' M q;rcases Vt M with L|⟨L,h2⟩
 ·left;refine⟨L,?_,fun _ _ _ h=>h⟩;have O:k<H.length:=by rw[j.hlen];exact(Fb.1 L).1
  rwa [Gj O]at q
 subst h2;have O:k=H.length:=by rw[j.hlen];exact L
 subst O;simp at q;subst q;refine .inr ⟨he g0,fun _ b U=>?_⟩;obtain⟨q1,q2⟩:=I b U;refine⟨fun u=>absurd (j.kL _ u) AA,q2,.inl (Eh j.fr.size q1),fun k' Y Z hne hk' hl m J=>?_⟩;rcases Vt hk' with u|⟨u,_⟩
 ·have hk2:k'<H.length:=by rw[j.hlen];exact(Fb.1 u).1
  rw[Gj hk2]at m;exact absurd (j.blk k' Y Z _ u hl m J).2.1 AA
 rw[←j.hlen]at u;exact hne u
section
variable {P : Program} {o : Oper} {es es' : List Ar}
def BU.thaw {ns:List (Operand×AY)} {k e s:Nat} {xs:List D} (h:BU P o ns es (.aZ k) es') (I:es'[k]? =some (.arr e s xs)):BU P o ns es (.d (.sl xs)) (es'.set k .dead):=by
 intro C ok H a w Q J L;refine Oper.wp_mono ?_ (h C ok H a w Q J L);rintro a' w' ⟨v,ok',H',rfl,M,m,j,O⟩
 have q:Holds (EN.now w' ok' es' H') ok' H' ⟨[.aZ k],es',H'.length⟩ { tmps:= #[v],defers:=[] } w':=⟨j.inner,rfl,.nil _ _ _,rfl,fun t U=>by
  match t,U with
  |0,_=>exact O⟩
 obtain⟨u,z⟩:=PD k I _ _ _ _ _ q;obtain⟨Y,_,Z⟩:=j.outer z.mem;refine⟨v,u,H',rfl,M.trans Y,m,Z,?_⟩;have :=z.slot 0 (by simp[Ak.thaw]);simpa[Ak.thaw,AY.thaw]using this
def DV.aEk {ok:Nat→Prop} {w:World} {xs:List D} {ad:Option Addr} {n cap j:Nat} (h:DV ok w (.sl xs) (.slice ad n cap)) (z:xs.length≤j):DV ok w (.sl xs) (.slice ad n j):=by
 cases h with
 |sl0 _ _=>exact .sl0 _ _
 |sl _ b off _ size u q hs I J m=>exact .sl xs b off j size z q hs I J m
def aeH {t e:TypeId} {agg:Bool} {size n cap m:Nat} {ad:Option Addr} {w:World} (q:P.underlying t=some (.slice e)) (u:EL P e agg size) (j:m≤cap):
 (Instr.slice t (.slice ad n cap) none (some (.int .i64 m)) (some (.int .i64 m))).run P w=.ok (.slice (if m=0 then ad else ad.map (·.add 0)) m m) w:=by
 have z:(underlying t).run P w=.ok (.slice e) w:=by simp[underlying,q]
 have I:((m:Int)≤(cap:Int)):=Int.ofNat_le.2 j;simp[Instr.slice,z,Instr.sliceBounds,Instr.sliceBound,asIntOf,I,j,u.size]
def abU {α:Type} {t e:TypeId} {agg:Bool} {size:Nat} {x y z:Operand} {h:Int} (enc:α→D) {xs r:List α} (hr:Hg xs 0 h=some r) (ht:P.underlying t=some (.slice e)) (hT:EL P e agg size) (hc:∀a,(enc a).cells.length=size)
 (ho:o.op=.slice t x none (some y) (some z)):BU P o [(x,.d (BF enc xs)),(y,.d (Aa h)),(z,.d (Aa h))] es (.clip (r.map enc)) es:=
 .pure fun ok H a w _ _ O=>by
  obtain⟨⟨_,h1,h2⟩,rfl⟩:=aeG hr;have U:=O (x,.d (BF enc xs)) Ap;have M:=(O (y,.d (Aa h)) Ap).lit;have hz:=(O (z,.d (Aa h)) Ap).lit;simp only at U M hz;generalize hv:a.eval x=v at U;have I:DV ok w (.sl (xs.map enc)) v:=by cases U with |d _ _ h=>exact h
  have J:∃ad cap,v=.slice ad (xs.map enc).length cap∧(xs.map enc).length≤cap:=by
   generalize hys:xs.map enc=ys at I;cases I with
   |sl0 ad cap=>exact⟨ad,cap,rfl,EZ _⟩
   |sl _ b off cap size j=>exact⟨_,cap,rfl,j⟩
  obtain⟨ad,cap,rfl,j⟩:=J
  have hlen:(List.map enc ((xs.drop 0).take (h.toNat-0))).length=h.toNat:=by
   rw[CM,FY,vg];omega
  have u:=aeH (P:=P) (n:=xs.length) (ad:=ad) (w:=w) ht hT (m:=h.toNat) (cap:=cap) (by rw[CM]at j;omega);have Y:((h.toNat:Nat):Int)=h:=AA
  rw[Y]at u;refine⟨.slice (if h.toNat=0 then ad else ad.map (·.add 0)) h.toNat h.toNat,?_,?_⟩
  ·rw[CM]at hv;simp only[execOp,ho,Option.map_none,IW,hv,M,hz,Instr.sliceAt];have hu:(underlying t).run P w=.ok (.slice e) w:=aFr
   simp only[FD,sF,GK,hu,u,FU]
  have hD:DV ok w (.sl (List.map enc ((xs.drop 0).take (h.toNat-0)))) (.slice (if h.toNat=0 then ad else ad.map (·.add 0)) (List.map enc ((xs.drop 0).take (h.toNat-0))).length (List.map enc ((xs.drop 0).take (h.toNat-0))).length):=by
   by_cases L:h.toNat=0
   ·have e0:List.map enc ((xs.drop 0).take (h.toNat-0))=[]:=Gg (by rw[hlen,L]);rw[e0];exact .sl0 _ _
   have q:=aaq (l:=0) (h:=h.toNat) I (size:=size) (fun y M=>by obtain⟨b,_,rfl⟩:=Ee.1 M;exact hc b) (EZ _) DU;have Z:cap≠0:=by rw[CM]at j;omega
   rw[Cc Z]at q;rw[Cc L,hlen];rw[←cG,←Ym]at q;simp only[Nat.zero_mul,Nat.sub_zero]at q ⊢;exact q.aEk (by rw[CM,FY,vg];omega)
  have :=R.clip (H:=H) _ _ hD;rw[hlen]at this;exact this
def aUw {t e e':TypeId} {agg:Bool} {size k s:Nat} {x y z:Operand} {xs:List D} {h:Int} (hh:h=(xs.length:Int)) (hk:es[k]? =some (.arr e' s xs)) (U:P.underlying t=some (.slice e)) (hT:EL P e agg size)
 (ho:o.op=.slice t x none (some y) (some z)):BU P o [(x,.aZ k),(y,.d (Aa h)),(z,.d (Aa h))] es (.xC k) es:=
 .pure fun ok H a w u hl L=>by
  obtain⟨hd,I,M⟩:=Fz u hl hk;have O:=Ph (L (x,.aZ k) Ap) I;have Y:=(L (y,.d (Aa h)) Ap).lit;have Z:=(L (z,.d (Aa h)) Ap).lit;simp only at O Y Z;obtain⟨_,_,DZ,⟨_,j⟩,_⟩:=M;obtain⟨v,Bc⟩:=hd;simp only at j O;subst hh
  have key:∃ad cap,v=.slice ad xs.length cap∧xs.length≤cap∧ad.map (·.add 0)=ad:=by
   rcases j with⟨rfl,J⟩|⟨g,cap,_,rfl,_,_,J,_⟩
   ·exact⟨none,0,by rw[J],AA,rfl⟩
   exact⟨_,cap,rfl,J,by simp[Addr.add]⟩
  obtain⟨ad,cap,rfl,J,h2⟩:=key;have q:=aeH (P:=P) (n:=xs.length) (ad:=ad) (w:=w) U hT (m:=xs.length) (cap:=cap) J;have hi:(if xs.length=0 then ad else ad.map (·.add 0))=ad:=by split<;>simp[h2]
  rw[hi]at q;refine⟨.slice ad xs.length xs.length,?_,.xC k ad _ cap Bc I⟩;simp only[execOp,ho,Option.map_none,IW,O,Y,Z,Instr.sliceAt];have hu:(underlying t).run P w=.ok (.slice e) w:=by simp[underlying,U]
  simp only[FD,sF,GK,hu,q,FU]
def amj {C:EN} {ok:Nat→Prop} {H:List BO} {w:World} (hm:Cb C ok H es w) {t ty e:TypeId} {size m k:Nat} {xs ys:List D} (hE:GN P t e size m) (hk:es[k]? =some (.arr e size xs))
 {v x:Value} (hv:R ok w H (.xC k) v) {q:List Value} (J:VP w x ys.length size q) (z:Fg ok w H (flat ys) q) (hys:∀y∈ys,y.cells.length=size) (hb:(xs.length+ys.length)*m≤140737488355328) (hn:xs.length+ys.length≤maxLen):
 ∃v' w' H',(Builtin.append_ #[t,t] ty #[v,x]).run P w=.ok v' w'∧ES ok w ok w'∧Names H H'∧Cb C ok H' (es.set k .dead++[.arr e size (xs++ys)]) w'∧R ok w' H' (.aZ es.length) v':=by
 obtain⟨h,hh,hok⟩:=Fz hm.ent hm.hlen hk;obtain⟨h1,h2,DZ,j,hrs⟩:=hok
 have key:nG w e size v xs.length DZ∧D8 v=D8 h.v:=by
  cases hv with
  |xC _ ad n cap s L=>
   rw[hh]at L;obtain rfl:=CO L;rcases j.2 with⟨M,q2⟩|⟨g,cap',cur,M,q2,q3,q4,q5,q6,q7⟩
   ·simp only[kS]at M;obtain⟨rfl,rfl,rfl⟩:=M;exact⟨⟨j.1,.inl ⟨rfl,q2⟩⟩,rfl⟩
   simp only[kS]at M;obtain⟨rfl,rfl,rfl⟩:=M;exact⟨⟨j.1,.inr ⟨g,xs.length,cur,rfl,q2,q3,Dk _,Eh q4 q5,Eh (Js _ q4) q6,q7⟩⟩,rfl⟩
 obtain⟨u,O⟩:=key;obtain⟨v',w',hr,I,U,Y⟩:=aL2 (P:=P) (ty:=ty) hE u J hb hn
 obtain⟨h3,h4⟩:=hm.turn (h':=⟨v',size⟩) (e:=.arr e size (xs++ys)) hk rfl hh U.os U.tape U.output U.size (fun c hc hne=>U.block c hc (by rw[aNs u,O];exact fun e=>hne e.symm)) (fun g Z=>⟨vF I Z,(Y g Z).imp (fun h=>O▸h) id⟩) (fun hgr=>by
  refine⟨rfl,fun y hy=>?_,DZ++q,Qq,?_⟩
  ·rcases GU.1 hy with h|h
   ·exact h2 y h
   exact hys y h
  have a1:=hrs.mono hgr (Names.push H [⟨v',size⟩]);have a2:=z.mono hgr (Names.push H [⟨v',size⟩]);rw[l7]
  exact aEo a1 a2)
 refine⟨v',w',_,hr,h4,Names.push _ _,h3,?_⟩;have L:(H++[(⟨v',size⟩:BO)])[es.length]? =some ⟨v',size⟩:=aI4
 rcases I.2 with⟨rfl,_⟩|⟨g',c',_,rfl,_⟩
 ·exact .aZ _ _ _ _ size L
 exact .aZ _ _ _ _ size L
def aQY {α:Type} {s x:Operand} {t e:TypeId} {size j k:Nat} (enc:α→D) {l m r:List α} (h:Bz j l m=some r) (hE:GN P t e size j) (Z:es[k]? =some (.arr e size (l.map enc))) (hc:∀a,(enc a).cells.length=size) (hb:0<j)
 (ho:o.op=.call { callee:=.builtin .append,args:= #[s,x],argTypes:= #[t,t] }):
 BU P o [(s,.xC k),(x,.d (BF enc m))] es (.aZ es.length) (es.set k .dead++[.arr e size (r.map enc)]):=by
 obtain⟨rfl,L⟩:=aGM h;refine .eff fun C ok H a w hm q=>?_;have M:=(Ea q).1;have O:=(Ea q).2;simp only at M O;have I:DV ok w (.sl (m.map enc)) (a.eval x):=by cases O with |d _ _ h=>exact h
 have u:∀y∈m.map enc,y.cells.length=size:=fun y hy=>aHU
 obtain⟨U,z,J⟩:=gJ H I u;obtain⟨v',w',H',hr,r1,r2,Y,r4⟩:=amj (ty:=o.type) hm hE Z M z J u eK (by simpa using aJB hb L);rw[←JU]at Y;refine⟨v',w',ok,H',.inl ?_,r1,r2,Y,r4⟩;simp[execOp,ho,resolve,invoke,builtin,hr]
def atW {ok:Nat→Prop} {w:World} {H:List BO} {t ty e:TypeId} {size m:Nat} (hE:GN P t e size m) {xs ys:List D} {v x:Value} (hv:R ok w H (.clip xs) v) (Z:∀y∈xs,y.cells.length=size) {q:List Value} (u:VP w x ys.length size q) (hpos:0<ys.length)
 (hb:(xs.length+ys.length)*m≤140737488355328) (hn:xs.length+ys.length≤maxLen):
 ∃j v' w',Fg ok w H (flat xs) j∧(Builtin.append_ #[t,t] ty #[v,x]).run P w=.ok v' w'∧w'.ownsRow w.heap.size e size v' (xs.length+ys.length) (j++q)∧w.grownBy w' none:=by
 obtain⟨i,z,hi,hz,hs,J,L⟩:=hE.info;cases hv with
 |clip _ ad hD=>
  obtain⟨j,ho,M⟩:=gJ H hD Z;rcases u.at_ with⟨O,c,rfl,I⟩|⟨c,rfl,h0⟩
  ·rcases ho.at_ with⟨ad2,c2,U,Y⟩|⟨c2,U,Y⟩
   ·simp only[kS]at U;obtain⟨rfl,_,rfl⟩:=U;obtain⟨v',w',r1,r2,r3⟩:=run_append_arg_grows (P:=P) w t ty e i z size m hE.und hi hz hs J L hE.pos ad2 xs.length xs.length j ho.len Y O ys.length c q u.len I AA hn hb;exact⟨j,v',w',M,r1,r2,r3⟩
   simp only[kS]at U;obtain⟨rfl,_,_⟩:=U;have hx:j=[]:=Gg (by rw[ho.len,Y];simp);subst hx;rw[Y]at hn hb ⊢;obtain⟨v',w',r1,r2,r3,_⟩:=run_append_own (P:=P) w w.heap.size t ty e i z size m hE.und hi hz hs J L hE.pos _ 0 [] (aCN w w.heap.size e size) O ys.length c q u.len I u.one hn hb (Dk _);exact⟨[],v',w',M,r1,r2,r3⟩
  omega
def ana {ok:Nat→Prop} {w':World} {H:List BO} {base e size:Nat} {v':Value} {xs ys:List D} {j m:List Value} (h:w'.ownsRow base e size v' (xs.length+ys.length) (j++m)) (z:Fg ok w' H (flat xs) j) (I:Fg ok w' H (flat ys) m) (q:∀y∈xs,y.cells.length=size) (u:∀y∈ys,y.cells.length=size):
 Em ok w' H ⟨v',size⟩ (.arr e size (xs++ys)):=by
 refine⟨rfl,fun y J=>?_,j++m,?_,?_⟩
 ·rcases GU.1 J with h|h
  ·exact q y h
  exact u y h
 ·have :=nG.of h;simpa using this
 rw[l7];exact aEo z I
def afa {w':World} {base e size n:Nat} {v':Value} {DZ:List Value} (h:w'.ownsRow base e size v' n DZ):∀g,D8 v'=some g→base≤g∧g<w'.heap.size:=by
 intro g j;rcases h.2 with⟨rfl,_⟩|⟨u,_,_,rfl,m,q,_⟩
 ·simp[D8]at j
 simp[D8]at j;subst j;exact⟨m,(G6.1 q).1⟩
def ab8 {α:Type} {s x:Operand} {t e:TypeId} {size j:Nat} (enc:α→D) {l m r:List α} (h:Bz j l m=some r) (hE:GN P t e size j) (hc:∀a,(enc a).cells.length=size) (J:0<j)
 (L:o.op=.call { callee:=.builtin .append,args:= #[s,x],argTypes:= #[t,t] }):
 BU P o [(s,.clip (l.map enc)),(x,.d (BF enc m))] es (.d (BF enc r)) es:=by
 obtain⟨rfl,h2⟩:=aGM h;refine .eff fun C ok H a w hm M=>?_;have h1:=(Ea M).1;have h3:=(Ea M).2;simp only at h1 h3;have h3':DV ok w (.sl (m.map enc)) (a.eval x):=by cases h3 with |d _ _ h=>exact h
 have O:∀y∈l.map enc,y.cells.length=size:=fun y hy=>aHU
 have U:∀y∈m.map enc,y.cells.length=size:=fun y hy=>aHU
 obtain⟨Y,q,hrs⟩:=gJ H h3' U;by_cases Z:m=[]
 ·subst Z;obtain⟨i,z,hi,hz,hs,hby,hzs⟩:=hE.info;have I:Y=[]:=Gg (by rw[q.len];simp);subst I;generalize hv:a.eval s=v at h1;generalize hu:a.eval x=u at q;cases h1 with
  |clip _ ad hD=>
   refine⟨_,w,ok,H,.inl ?_,.refl _ _,.refl _,hm,.d _ _ (by rw[P6];exact hD)⟩;have hL:∀w:World,((underlying t).run P w=.ok (.slice e) w):=fun w=>aJa
   rcases q.at_ with⟨ad',c,rfl,_⟩|⟨c,rfl,_⟩
   ·cases ad with
    |none=>simp[execOp,L,resolve,invoke,builtin,hv,hu,Builtin.append_,hL,sizeOf,typeInfo,hi,Builtin.lenOf,Builtin.firstCells,loadCells,loadCellsFrom]
    |some ad=>simp[execOp,L,resolve,invoke,builtin,hv,hu,Builtin.append_,hL,sizeOf,typeInfo,hi,Builtin.lenOf,Builtin.firstCells,loadCells,loadCellsFrom,storeCells]
   cases ad with
   |none=>simp[execOp,L,resolve,invoke,builtin,hv,hu,Builtin.append_,hL,sizeOf,typeInfo,hi,Builtin.lenOf,Builtin.firstCells]
   |some ad=>simp[execOp,L,resolve,invoke,builtin,hv,hu,Builtin.append_,hL,sizeOf,typeInfo,hi,Builtin.lenOf,Builtin.firstCells,storeCells]
 obtain⟨olds,v',w',r0,r1,r2,r3⟩:=atW (P:=P) (ty:=o.type) hE h1 O q (by simpa using xY.2 Z) rY (by simpa using aJB J h2);have hblk:=afa r2;obtain⟨m1,g1⟩:=hm.change (ok':=fun b=>ok b∨D8 v'=some b) (H':=H) (es':=es) (w':=w') (fun _=>False) r3.os r3.tape r3.output r3.size (fun b J _=>r3.block b J Ap) (fun _ h=>h.elim) (fun _ h=>.inl h) (fun b h=>h.imp id fun h=>hblk b h) (.refl _) hm.hlen (fun k e h he hh=>.inl ⟨he,hh,fun _ _ _ h=>h⟩);have g0:ES ok w ok w':=fun b J=>⟨J,(g1 b J).2⟩
 have hE':=ana r2 (r0.mono g0 (.refl _)) (hrs.mono g0 (.refl _)) O U;refine⟨v',w',_,H,.inl (by simp[execOp,L,resolve,invoke,builtin,r1]),g1,.refl _,m1,.d _ _ ?_⟩;have :=mG hE' (ok':=fun b=>ok b∨D8 v'=some b) (fun _ h=>.inl h) (fun _ h=>.inr h)
 rwa [←JU]at this
end
def D.plain:D→Bool
 | .lit _=>true
 | .agg cs=>cs.all fun c=>match c with | .lit _=>true|_=>false
 |_=>false
def arK {ok ok':Nat→Prop} {w w':World} {H H':List BO} {xs:List D} {vs:List Value} (J:∀x∈xs,x.plain=true) (h:Fg ok w H (flat xs) vs):Fg ok' w' H' (flat xs) vs:=by
 refine⟨h.1,fun i hi=>⟨(h.2 i hi).1,?_⟩⟩;have I:=(h.2 i hi).2;have q:(flat xs).getD i .junk∈flat xs:=MG
 generalize(flat xs).getD i .junk=y at I q;unfold flat at q;simp only[TW,Ee]at q;obtain⟨x,L,c,z,rfl⟩:=q;have j:=J x L
 have m:∃u,c=.lit u:=by
  cases x with
  |lit u=>simp[D.cells]at z;exact⟨u,z⟩
  |agg cs=>
   simp only[D.cells]at z;simp only[D.plain,DT]at j;have :=j c z;cases c with
   |lit u=>exact⟨u,rfl⟩
   |_=>simp at this
  |_=>cases j
 obtain⟨u,rfl⟩:=m;rw[I.lit];exact .d _ _ (.lit u)
def afL {P:Program} {o:Oper} {es:List Ar} {f:FuncId} {ops:Array Operand} {eH gK:List AY} {e s:Nat} {xs:List D} (hr:Am P f gK [] (.aZ 0) [.arr e s xs]) (hp:∀x∈xs,x.plain=true) (ha:dY es eH gK) (hl:ops.toList.length=eH.length)
 {C:EN} {ok:Nat→Prop} {H:List BO} {a:Act} {w:World} (L:Cb C ok H es w) (hn:∀n∈F9 ops.toList eH,R ok w H n.2 (a.eval n.1)):
 Calls P f (ops.toList.map a.eval).toArray w fun e' w'=>∃v,e'=.returned v∧w.grownBy w' none∧(∀g,D8 v=some g→w.heap.size≤g∧g<w'.heap.size)∧Value.isSlice v=true∧∀M H2,Em M w' H2 ⟨v,s⟩ (.arr e s xs):=by
 let z:Nat→Prop:=fun b=>b<w.heap.size
 have Z:Cb ⟨w,z,[],[]⟩ z [] [] w:=
  ⟨.refl _ _,fun _ h=>h,fun _ h=>.inl h,fun _ h=>h,.refl _,rfl,fun k e h O _=>by simp at O,fun k e h b O=>by simp at O,fun k k' e e' h h' b O=>by simp at O⟩
 refine(hr z [] [] w _ Z (by simp[hl,aJT ha]) (fun i hi=>?_)).mono ?_
 ·obtain⟨op,x,ho',U,m⟩:=aUa hl ha i hi;have J:=hn _ U
  have e1:(ops.toList.map a.eval).toArray.getD i undef=a.eval op:=by
   obtain⟨h1,h2⟩:=Fb.1 ho';have h3:i<ops.size:=by simpa using h1
   have h4:ops[i]=op:=rY
   simp[Array.getD,h3,h4]
  rw[e1];simp only at J;generalize gK.getD i .junk=y at m;generalize a.eval op=u at J;cases x with
  |d x=>
   obtain rfl:=m;cases J with |d _ _ h=>exact .d _ _ (h.mono (fun b q=>⟨L.kL b q,rfl⟩))
  |aZ k=>
   obtain⟨e',s,xs,hk,rfl⟩:=m;obtain⟨h,hh,I⟩:=Fz L.ent L.hlen hk;obtain rfl:=Ph J hh;exact .d _ _ (mG I (fun b q=>L.kL b q) (fun b q=>(L.blk k _ h b hk rfl hh q).2.1))
  |_=>exact m.elim
 rintro e' w' ⟨v,ok',H',rfl,j,J⟩;have hg:w.grownBy w' none:=⟨j.fr.os,j.fr.tape,j.fr.output,j.fr.size,fun b q _=>j.fr.block b q Ap⟩
 have hl':H'.length=1:=j.hlen
 match H',hl' with
 | [hd],_=>
   obtain rfl:=Ph J (h:=hd) rfl;have I:=j.ent 0 _ hd rfl rfl;have q:=fun b q=>j.blk 0 _ hd b rfl rfl rfl q;obtain⟨q1,q2,DZ,q3,q4⟩:=I;obtain⟨v,Bc⟩:=hd;simp only at q1 q q3;subst q1;refine⟨v,rfl,hg,fun g hg'=>?_,?_,fun M H2=>⟨rfl,q2,DZ,q3,arK hp q4⟩⟩
   ·obtain⟨_,r2,Y⟩:=q g hg';rcases Y with Y|Y
    ·exact⟨Y,r2⟩
    simp at Y
   rcases q3.2 with⟨rfl,_⟩|⟨g',c',_,rfl,_⟩<;>rfl
def UO {P:Program} {o:Oper} {es:List Ar} {f:FuncId} {ops:Array Operand} {ats:Array TypeId} {eH gK:List AY} {e s:Nat} {xs:List D} (q:Am P f gK [] (.aZ 0) [.arr e s xs]) (u:∀x∈xs,x.plain=true) (z:Dl P f=true) (ha:dY es eH gK) (hl:ops.toList.length=eH.length)
 (I:o.op=.call { callee:=.value (.func f),args:=ops,argTypes:=ats }):BU P o (F9 ops.toList eH) es (.aZ es.length) (es++[.arr e s xs]):=by
 intro C ok H a w Q j J;unfold Oper.wp;rw[yI I,TL z,bW];have L:ops.map a.eval=(ops.toList.map a.eval).toArray:=aDw
 rw[L];refine(afL (o:=o) q u ha hl j J).mono ?_;rintro e' w' ⟨v,rfl,M,O,m,hE⟩;obtain⟨U,Y⟩:=j.aEj (v':=v) (size:=s) (e:=.arr e s xs) M O (fun _=>hE _ _);refine⟨v,ok,_,rfl,Y,Names.push _ _,U,?_⟩;have Z:(H++[(⟨v,s⟩:BO)])[es.length]? =some ⟨v,s⟩:=by rw[←j.hlen];simp
 cases v with
 |slice ad n c=>exact .aZ _ _ _ _ s Z
 |_=>cases m
def aIG {P:Program} {o:Oper} {es:List Ar} {f:FuncId} {ops:Array Operand} {ats:Array TypeId} {eH gK:List AY} {e s:Nat} {xs:List D} (u:Am P f gK [] (.aZ 0) [.arr e s xs]) (z:∀x∈xs,x.plain=true) (I:Dl P f=true) (ha:dY es eH gK) (hl:ops.toList.length=eH.length)
 (J:o.op=.call { callee:=.value (.func f),args:=ops,argTypes:=ats }):BU P o (F9 ops.toList eH) es (.d (.sl xs)) es:=by
 intro C ok H a w Q m L;unfold Oper.wp;rw[yI J,TL I,bW];have M:ops.map a.eval=(ops.toList.map a.eval).toArray:=aDw
 rw[M];refine(afL (o:=o) u z ha hl m L).mono ?_;rintro e' w' ⟨v,rfl,j,O,U,hE⟩;obtain⟨Y,Z⟩:=m.change (ok':=fun b=>ok b∨D8 v=some b) (H':=H) (es':=es) (w':=w') (fun _=>False) j.os j.tape j.output j.size (fun b q _=>j.block b q Ap) (fun _ h=>h.elim) (fun _ h=>.inl h) (fun b h=>h.imp id fun h=>O b h) (.refl _) m.hlen (fun k e h he hh=>.inl ⟨he,hh,fun _ _ _ h=>h⟩);exact⟨v,_,H,rfl,Z,.refl _,Y,.d _ _ (mG (hE ok H) (fun _ h=>.inl h) (fun _ h=>.inr h))⟩
def awK {F:Fence} {n:Nat} {P:Program} {Q:Exit→Act→World→Prop} {a:Act} {w:World} {c:Code} (h:c.wpIn F n P (Exit.noGoto Q) a w):(Code.scope c).wpIn F n P Q a w:=by
 intro b k cs I J L;have j:(lone (b.atR a (.code (.scope c)::k)) cs w).fenced P F:=fenced_calm J L rfl;have m:step P (lone (b.atR a (.code (.scope c)::k)) cs w)=.next (lone (b.atR a (.code c::.inScope c::k)) cs w):=step_lone_go aQ2;obtain⟨e,u,z,q,harr⟩:=h b (.inScope c::k) cs I J L;cases e with
 |normal=>exact⟨.normal,u,z,q,.head j m (StepsIn.trans harr (.one (fenced_calm J L rfl) (step_lone_go aQ2)))⟩
 |exit id=>
  have U:exitTo id (.inScope c::k)=exitTo id k:=by simp[exitTo]
  exact⟨.exit id,u,z,q,fun k' M=>.head j m (harr.1 k' (by rw[U];exact M)),fun O M=>let⟨Y,Z,h2⟩:=harr.2 O (by rw[U];exact M);⟨Y,Z,.head j m h2⟩⟩
 |goto l=>exact q.elim
 |ret=>exact⟨_,u,z,q,.of_steps (.one j m) harr⟩
 |panic ch=>exact⟨_,u,z,q,.of_steps (.one j m) harr⟩
 |outgrown=>exact⟨_,u,z,q,.of_steps (.one j m) harr⟩
def asb (Q:Exit→Ak→Prop):Exit→Ak→Prop
 | .goto _,_=>False
 |e,σ=>Q e σ
def AP.scope {P:Program} {σ:Ak} {Q:Exit→Ak→Prop} {c:Code} (h:AP P c σ (asb Q)):AP P (.scope c) σ Q:=⟨fun ro m C ok H a w q=>
 awK (Uc (h.run ro (m.imp id fun h=>h) C ok H a w q) (by
  rintro e a' w' ⟨ok',H',σ',u,j⟩;cases e with
  |goto l=>exact j.elim
  |_=>exact⟨ok',H',σ',u,j⟩))⟩
def aTj (P:Program) (f:FuncId) (args:List AY) (u:Value):Prop:=
 ∀(ok:Nat→Prop) (X:List Nat) (H:List BO) (w:World) (j:Array Value),Cb ⟨w,ok,X,H⟩ ok H [] w→j.size=args.length→(∀i,i<args.length→R ok w H (args.getD i .junk) (j.getD i undef))→
  Calls P f j w fun e w'=>∃ok' H',e=.panicked [{ v:=u,recovered:=false }]∧Cb ⟨w,ok,X,H⟩ ok' H' [] w'
def PL {Rr:Type} (P:Program) (f:FuncId) (args:List AY) (r:Except Value Rr) (j:Rr→AY):Prop:=(∀x,r=.ok x→Am P f args [] (j x) [])∧∀u,r=.error u→aTj P f args u
def atb {Rr:Type} (P:Program) (fn:Func) (r:Except Value Rr) (j:Rr→AY) (e:Exit) (σ:Ak):Prop:=
 (∃x,r=.ok x∧aTs P fn (j x) [] e σ)∨∃u,r=.error u∧e=yC u∧σ.base=0
def adE {P:Program} {fn:Func} {Rr:Ending→World→Prop} {C:EN} {ch:List PanicEntry} (q:∀b,C.ok0 b→b<C.w0.heap.size) {H:List BO} {σ:Ak}
 (u:∀ok a w,Holds C ok H σ a w→Rr (.panicked ch) w) {tmps:Array Value}:∀(Ds:List Nat) {ok:Nat→Prop} {a:Act} {w:World},Holds C ok H σ a w→(∀d∈Ds,ok d∧C.w0.heap.size≤d∧w.heap[d]? =some (.deferred (some [])))→Ds.Nodup→
  LeavesInM (Iz none) 0 P fn tmps Rr (Ds.map fun D=>{ target:=.collected D,args:= #[] }) (.panicking ch) w
 | [],ok,a,w,h,_,_=>u ok a w h
 |D::Ds,ok,a,w,h,hd,z=>by
  obtain⟨ok',h',j⟩:=h.take q (fun d m=>hd d (FW _ m)) (hd D (Ep ..)) z;have I:=adE (P:=P) (fn:=fn) (tmps:=tmps) q u Ds h' j (Jy.1 z).2;exact⟨Ap,.inl ⟨D,_,rfl,run_takeDeferred (hd D (Ep ..)).2.2,I⟩⟩
def Cb.none {C:EN} {ok:Nat→Prop} {H:List BO} {es:List Ar} {w:World} (m:Cb C ok H es w) (q:C.H0=[]):Cb C ok [] [] w:=
 ⟨m.fr,m.yR,m.yS,m.kL,by rw[q];exact .refl _,rfl,fun k e h j=>nI,fun k e h b j=>nI,fun k k' e e' h h' b j=>nI⟩
def PL.aN {Rr:Type} {P:Program} {f:FuncId} {fn:Func} {c:Code} {args:List AY} {r:Except Value Rr} {q:Rr→AY} (Z:P.funcs[f]? =some fn) (hb:fn.body=some c)
 (h:AP P c (.enter args fn.ntmps []) (atb P fn r q)):PL P f args r q:=by
 refine⟨fun x hx=>Am.aN Z hb (h.mono fun e σ hq=>?_),fun u hu=>?_⟩
 ·rcases hq with⟨x',m,J⟩|⟨u,m,_⟩
  ·rw[hx]at m;cases m;exact J
  rw[hx]at m;cases m
 intro ok X H w j I hs ha;have hH:H=[]:=Gg I.hlen;refine(aA3 (ro:=none) (n:=0)).1 (aNo Z hb trivial (Uc (h.run none (.inl rfl) ⟨w,ok,X,H⟩ ok H _ w ?_) ?_) rfl)
 ·refine⟨I,by simp[Ak.enter,hs],.nil _ _ _,I.hlen,fun t ht=>?_⟩;simp only[Ak.enter];by_cases e:t<args.length
  ·have L:(args++List.replicate (fn.ntmps-args.length) AY.junk).getD t .junk=args.getD t .junk:=aMp
   have e2:(j++Array.replicate (fn.ntmps-j.size) undef).getD t undef=j.getD t undef:=by
    simp[H8,dc (show t<j.size by omega)]
   rw[L,e2];exact ha t e
  have L:(args++List.replicate (fn.ntmps-args.length) AY.junk).getD t .junk=.junk:=by
   simp only[List.getD,Jd (Uk e),aNg];split<;>rfl
  rw[L];exact .junk _
 rintro e a' w' ⟨ok',H',σ',m,J⟩;rcases J with⟨x,z,_⟩|⟨u',z,rfl,_⟩
 ·rw[hu]at z;cases z
 rw[hu]at z;cases z;obtain⟨Ds,M,O,U⟩:=m.defers;show LeavesInM (Iz none) 0 P fn a'.tmps _ a'.defers (.panicking _) w';rw[M];exact adE (P:=P) (C:=⟨w,ok,X,H⟩) I.kL (fun Y a2 w2 h4=>⟨Y,[],rfl,h4.mem.none hH⟩) Ds m U O
section
variable {P : Program} {ops : Array Oper} {o : Oper} {rest l : List Oper} {σ : Ak} {K : Exit → Ak → Prop}
def Ch.panic {x:Operand} {t:TypeId} {u:Value} (m:o.op=.panic x) (q:σ.get x=.d (.lit (.iface t u))) (z:JL ops σ o.guard=some true) (h:K (yC (.iface t u)) σ):Ch P ops (o::rest) σ K:=by
 refine⟨fun ro I Q C ok H a w j J=>?_⟩;show wpListIn (Iz ro) 0 P ops Q (o::(rest++I)) a w;unfold wpListIn;rw[CV (PZ j (MS z))];have L:=(q▸j.get x).lit;unfold Oper.wpIn;rw[iC _ _ _ (by rw[m];intro c h;cases h)];have M:(execOp a.eval o).run P w=.halt (.panic (.iface t u)) w:=by simp[execOp,m,L,Instr.panic,goPanic]
 rw[M];exact⟨fun _ _=>trivial,J.2 _ _ _ _ _ _ h j⟩
end
section
variable {P : Program} {ops : Array Oper}
def Ew.aDc (N:Nat) {l:List Oper} {σ σ':Ak} {rs:List AY} {ess:List (List Ar)} {bs:List Bool} (h:Ew P ops l σ rs ess bs σ') (σ0:Ak) (r:Nat→AY) (ev:Nat→List Ar) (bar:Nat→Bool):∀i,(∀k:Nat,k<l.length→l[k]? =ops[i+k]?)→i+l.length=N→σ=Ec ops σ0 r ev i→
 (∀(k:Nat) y,rs[k]? =some y→r (i+k)=y)→(∀(k:Nat) y,ess[k]? =some y→ev (i+k)=y)→(∀(k:Nat) y,bs[k]? =some y→bar (i+k)=y)→
 (∀j (o:Oper),i≤j→j<N→ops[j]? =some o→Si P ops (Ec ops σ0 r ev j) (r j) (ev j) (bar j) o)∧σ'=Ec ops σ0 r ev N:=by
 induction h with
 |nil σ=>
  intro i hl I z L _ _;have :i=N:=Qq
  subst this;exact⟨fun j o Y J ho=>AA,z⟩
 | @op o rest σ σ' ns x rs ess bs d ho hn hg hd ht k ih=>
   intro i hl I z L M Z;subst hd;have O:ops[i]? =some o:=s0
   have U:r i=x:=aAf
   have q:ev i=σ.ents:=aMz
   obtain⟨h1,h2⟩:=ih (i+1) (fun k hk=>nN) Td (by
    rw[Ak.Yz];simp only[Ec,O,U,q];rw[←z]) (fun k y u=>V8)
    (fun k y u=>nZ) (fun k y u=>yT)
   refine⟨fun j o' Y J m=>?_,h2⟩;by_cases e:i=j
   ·subst e;rw[O]at m;obtain rfl:=CO m;exact⟨.inl ⟨ns,by rw[U,q,←z];exact ho,z▸hn,ht,z▸hg⟩,fun _=>YH⟩
   exact h1 j o' AA J m
 | @oe o rest σ σ' ns x es' rs ess bs d E ho hE hn hg hd ht k ih=>
   intro i hl I z L M Z;subst hd;subst hE;have O:ops[i]? =some o:=s0
   have U:r i=x:=aAf
   have q:ev i=es':=by simpa using M 0 es' Ap
   have hbr:bar i=true:=by simpa using Z 0 true Ap
   obtain⟨h1,h2⟩:=ih (i+1) (fun k hk=>nN) Td (by
    simp only[Ec,O,U,q];rw[←z]) (fun k y u=>V8)
    (fun k y u=>nZ) (fun k y u=>yT)
   refine⟨fun j o' Y J m=>?_,h2⟩;by_cases e:i=j
   ·subst e;rw[O]at m;obtain rfl:=CO m;exact⟨.inl ⟨ns,by rw[U,q,←z];exact ho,z▸hn,ht,z▸hg⟩,fun hf=>by rw[hbr]at hf;cases hf⟩
   exact h1 j o' AA J m
 | @any o rest σ σ' x rs ess bs d hs hd k ih=>
   intro i hl I z L M Z;subst hd;have O:ops[i]? =some o:=s0
   have U:r i=x:=aAf
   have q:ev i=σ.ents:=aMz
   obtain⟨h1,h2⟩:=ih (i+1) (fun k hk=>nN) Td (by
    rw[Ak.Yz];simp only[Ec,O,U,q];rw[←z]) (fun k y u=>V8)
    (fun k y u=>nZ) (fun k y u=>yT)
   refine⟨fun j o' Y J m=>?_,h2⟩;by_cases e:i=j
   ·subst e;rw[O]at m;obtain rfl:=CO m;refine⟨?_,fun _=>YH⟩;rw[U,q,←z];exact hs.1
   exact h1 j o' AA J m
 | @aeR o rest σ σ' x E br rs ess bs d hs hd k ih=>
   intro i hl I z L M Z;subst hd;have O:ops[i]? =some o:=s0
   have U:r i=x:=aAf
   have q:ev i=E:=by simpa using M 0 E Ap
   have hbr:bar i=br:=by simpa using Z 0 br Ap
   obtain⟨h1,h2⟩:=ih (i+1) (fun k hk=>nN) Td (by
    simp only[Ec,O,U,q];rw[←z]) (fun k y u=>V8)
    (fun k y u=>nZ) (fun k y u=>yT)
   refine⟨fun j o' Y J m=>?_,h2⟩;by_cases e:i=j
   ·subst e;rw[O]at m;obtain rfl:=CO m;rw[U,q,hbr,←z];exact hs
   exact h1 j o' AA J m
 | @skip o rest σ σ' rs ess bs d hg hd k ih=>
   intro i hl I z L M Z;subst hd;have O:ops[i]? =some o:=s0
   have U:r i=.d (.lit undef):=by simpa using L 0 (.d (.lit undef)) Ap
   have q:ev i=σ.ents:=aMz
   obtain⟨h1,h2⟩:=ih (i+1) (fun k hk=>nN) Td (by
    rw[Ak.Yz];simp only[Ec,O,U,q];rw[←z]) (fun k y u=>V8)
    (fun k y u=>nZ) (fun k y u=>yT)
   refine⟨fun j o' Y J m=>?_,h2⟩;by_cases e:i=j
   ·subst e;rw[O]at m;obtain rfl:=CO m;exact⟨.inr ⟨U,YH,z▸hg⟩,fun _=>YH⟩
   exact h1 j o' AA J m
def AP.aEl {id:Nat} {σ σ':Ak} {Q:Exit→Ak→Prop} {rs:List AY} {ess:List (List Ar)} {bs:List Bool} (N:Nat) (hNs:N+1=ops.size) (hm:P.follows .mixedOrders=true) (hcalm:(Vs ops&&VX ops&&V9 ops σ.slots.length&&X9 ops)=true) (hbl:bs.length=N) (L:Xj ops (bs++[true])=true)
 (h:Ew P ops (ops.toList.take N) σ rs ess bs σ') (hL:∀(ro:Option Nat) (C:EN) (ok:Nat→Prop) (H:List BO) (a:Act) (w:World),Holds C ok H σ' a w→wpOpIn (Iz ro) 0 P ops (fun e a' w'=>∃ok' H' σ',Holds C ok' H' σ' a' w'∧Q e σ') N (fun a' w'=>∃ok' H' σ',Holds C ok' H' σ' a' w'∧Q .normal σ') a w):AP P (.region id ops true) σ Q:=by
 refine⟨fun ro _ C ok H a w hh=>?_⟩;simp only[CW]at hcalm;obtain⟨⟨⟨he,hd⟩,hs⟩,hc⟩:=hcalm;have PX:=aH4 he;have hinj:=aKN hd;have hcalm:=aNF hc
 have Ip:∀(i:Nat) (o:Oper) (d:Tmp),ops[i]? =some o→o.dst=some d→d<σ.slots.length:=by
  intro i o d h1 h2;unfold V9 at hs;rw[DT]at hs;simpa using hs d (aKJ h1 h2)
 let r:Nat→AY:=fun i=>rs.getD i .junk
 let ev:Nat→List Ar:=fun i=>ess.getD i []
 let bar:Nat→Bool:=fun i=>(bs++[true]).getD i false
 have hbN:bar N=true:=by simp[bar,List.getD,←hbl]
 obtain⟨I4,hend⟩:=h.aDc N σ r ev bar 0 (fun k hk=>by
  simp only[FY]at hk
  rw[Na AA];simp) DU rfl (fun k y hy=>aIf) (fun k y hy=>aL1) (fun k y hy=>by have :=(Fb.1 hy).1;simp only[bar,List.getD,JI,Gj this,hy];rfl)
 let U:Nat→Ak:=Ec ops σ r ev
 have hU:∀i,i<ops.size→(U (i+1)).ents=ev i:=by
  intro i hi;have M:ops[i]? =some ops[i]:=Qp
  show(Ec ops σ r ev (i+1)).ents=_;simp only[Ec,M];rfl
 have hconst:∀n lo,(∀b,lo≤b→b<lo+n→bar b=false)→lo+n≤N→(U (lo+n)).ents=(U lo).ents:=by
  intro n
  induction n with
  |zero=>intro lo _ _;rfl
  |succ n ih=>
   intro lo z hle;have h1:=ih lo (fun b h1 h2=>z b h1 AA) AA;have hi:lo+n<ops.size:=AA
   have M:ops[lo+n]? =some ops[lo+n]:=Qp
   have h2:=(I4 (lo+n) _ AA AA M).2 (z (lo+n) AA AA);rw[←O9,hU _ hi,h2];exact h1
 have Z:∀lo hi,lo≤hi→hi≤N→(∀b,lo≤b→b<hi→bar b=false)→(U hi).ents=(U lo).ents:=by
  intro lo hi h1 h2 h3;obtain⟨n,rfl⟩:=aPR h1;exact hconst n lo h3 h2
 refine aEp hm ?_
 let I:Array Bool→Act→World→Prop:=fun l a w=>l.size=ops.size∧l.getD N false=false∧∃ok H m,m≤N∧(∀b,bar b=true→b<ops.size→(l.getD b false=true↔b<m))∧Cb C ok H (U m).ents w∧a.tmps.size=σ.slots.length∧Marks C ok w a.defers∧
  (∀t,t<σ.slots.length→(∀(j:Nat) (o:Oper),ops[j]? =some o→o.dst=some t→l.getD j false=false)→R ok w H (σ.slots.getD t .junk) (a.tmps.getD t undef))∧
  (∀(i:Nat) (o:Oper) (d:Tmp),ops[i]? =some o→o.dst=some d→l.getD i false=true→R ok w H (r i) (a.tmps.getD d undef))∧
  (∀(j:Nat) (o:Oper),ops[j]? =some o→l.getD j false=true→∀i,GR o i=true→l.getD i false=true)
 let I2:Array Bool→Act→World→Prop:=fun l a w=>I l a w∨(l.size=ops.size∧(Region.ready .any ops l=[]∧∃ok' H' σ',Holds C ok' H' σ' a w∧Q .normal σ'))
 refine Opn I2 (fun l a w h=>h.elim (fun h=>h.1) (fun h=>h.1)) ?_ ?_ ops.size _ _ _ ?_ ?_
 ·rintro l a w (⟨h1,hlN,ok,H,m,MC,adN,hmem0,hsz,hdf,h5,h6,h7⟩|⟨h1,h2,_⟩) i hi
  rotate_left
  ·rw[h2]at hi;simp at hi
  unfold Region.ready at hi;rw[EY]at hi;obtain⟨hi1,hi2⟩:=hi;have hi':i<ops.size:=aEW
  have M:ops[i]? =some ops[i]:=by simp[hi']
  simp only[CW]at hi2;have PY:=hi2.2;rw[M]at PY;simp only[IW,NP]at PY;have ahi:=fun e he=>(QW.1 PY) e he
  have O:∀j,GR ops[i] j=true→l.getD j false=true∧j<i:=by
   intro j u;unfold GR at u;rw[Fv]at u;obtain⟨e,hee,u⟩:=u;simp only[CW,G8]at u;have :=ahi e aJd;simp only[u.2,Dz,ML]at this;rw[u.1]at this;exact⟨this,u.1▸PX i _ M e hee u.2⟩
  have Y:l.getD i false=false:=by
   have h8:=hi2.1;have hil:i<l.size:=AA
   simp[Array.getD,hil]at h8 ⊢;exact h8
  have J:∀(j:Nat) (o:Oper),ops[j]? =some o→l.getD j false=true→∀m,GR o m=true→l.getD m false=true:=fun j o u hl m hm=>h7 j o u hl m hm
  have hmem:Cb C ok H (U i).ents w:=by
   have hE:(U i).ents=(U m).ents:=by
    by_cases him:i≤m
    ·refine(Z i m him MC (fun b h2 h3=>?_)).symm;rw[←KX];intro z;have hbl:=(adN b z AA).2 h3;by_cases e:b=i
     ·subst e;rw[Y]at hbl;cases hbl
     have hob:ops[b]? =some (ops[b]' AA):=by simp[show b<ops.size by omega]
     have :=WJ L (show b<ops.size by omega) z (D:=fun j=>l.getD j false=true) J (fun o M m hm=>J b o M hbl m hm) i AA;rw[Y]at this;cases this
    refine Z m i AA AA (fun b h2 h3=>?_);rw[←KX];intro z;have :=aGB L (show b<ops.size by omega) z (D:=fun j=>l.getD j false=true) J i h3 _ M (fun m hm=>(O m hm).1);exact absurd ((adN b z AA).1 this) AA
   rw[hE];exact hmem0
  by_cases hiN:i=N
  ·subst hiN;have aBt:∀j,j<i→l.getD j false=true:=fun j u=>WJ L hi' hbN (D:=fun j=>l.getD j false=true) J (fun o ho' m hm=>afD) j u
   have hH:Holds C ok H σ' a w:=by
    subst hend;refine⟨hmem,by rw[Ud];exact hsz,hdf,aLZ,fun t ht=>?_⟩;rw[Ud]at ht;by_cases hw:∃(j:Nat) (o:Oper),ops[j]? =some o∧o.dst=some t
    ·obtain⟨j,o,u,q⟩:=hw;have hjn:j<ops.size:=(G6.1 u).1;by_cases hji:j<i
     ·rw[UH hinj u q ht i hji];exact h6 j o t u q (aBt j hji)
     have hje:j=i:=AA
     subst hje;rw[TA j (fun j' o' hj' ho' hd'=>aDj)];exact h5 t ht (fun j' o' ho' hd'=>by have :=hinj j j' o o' t u ho' q hd';subst this;exact hlN)
    have hw':∀(j:Nat) (o:Oper),ops[j]? =some o→o.dst≠some t:=fun j o h1 h2=>hw ⟨j,o,h1,h2⟩;rw[TA i (fun j o _ u=>hw' j o u)];exact h5 t ht (fun j o u q=>absurd q (hw' j o u))
   refine wpOpIn_mono (fun a' w' hx=>.inr ⟨by simp[h1],?_,hx⟩) (hL ro C ok H a w hH);unfold Region.ready;rw[Zb];intro j u;have hjn:j<ops.size:=MR
   have hdn:(l.setIfInBounds i true).getD j true=true:=by
    by_cases hji:j=i
    ·subst hji;simp[Array.getD,h1,hi']
    have :=aBt j AA;simp only[H8,KD (Ne.symm hji)];have hjl:j<l.size:=AA
    simp[Array.getD,hjl]at this;simp[hjl,this]
   rw[hdn];simp
  have hiN:i<N:=AA
  have hread:∀t,t∈tmpsOf ops[i]→R ok w H ((Ec ops σ r ev i).slots.getD t .junk) (a.tmps.getD t undef):=by
   intro t ht;by_cases hw:∃(j:Nat) (o:Oper),ops[j]? =some o∧o.dst=some t
   ·obtain⟨j,o,u,q⟩:=hw;rcases(hcalm i _ M).1 j o t u q ht with hce|hce
    ·obtain⟨hdj,hji⟩:=O j hce;rw[UH hinj u q (Ip j o t u q) i hji];exact h6 j o t u q hdj
    have hij:i<j:=by
     unfold GR at hce;rw[Fv]at hce;obtain⟨e,hee,hce⟩:=hce;simp only[CW,G8]at hce;exact hce.1▸PX j _ u e hee hce.2
    rw[TA i (fun j' o' hj' ho' hd'=>aDj)];refine h5 t (Ip j o t u q) (fun j' o' ho' hd'=>?_);have hjj:=hinj j j' o o' t u ho' q hd';subst hjj;rw[←KX];intro hd;rw[h7 j o u hd i hce]at Y;cases Y
   have hw':∀(j:Nat) (o:Oper),ops[j]? =some o→o.dst≠some t:=fun j o h1 h2=>hw ⟨j,o,h1,h2⟩;rw[TA i (fun j o _ u=>hw' j o u)];by_cases htn:t<σ.slots.length
   ·exact h5 t htn (fun j o u q=>absurd q (hw' j o u))
   rw[dw htn];exact .junk _
  have Vm:∀j d v,GR ops[i] j=true→(ops[j]?).bind (·.dst)=some d→(Ec ops σ r ev i).slots.getD d .junk=.d (.lit v)→yielded ops a.tmps j=(match v with | .bool b=>some b|_=>none):=by
   intro j d v u q z;cases hoj:ops[j]? with
   |none=>rw[hoj]at q;simp at q
   |some oj=>
    rw[hoj]at q;simp only[AQ]at q;obtain⟨hdj,hji⟩:=O j u;have hdn:=Ip j oj d hoj q;rw[UH hinj hoj q hdn i hji]at z;have hv:=(z▸h6 j oj d hoj q hdj).bool
    have hs:a.tmps[d]? =some v:=by
     have :d<a.tmps.size:=by rw[hsz];exact hdn
     simp[Array.getD,this]at hv;simp[this,hv]
    unfold yielded;rw[hoj];simp only[AQ,q,hs];cases v<;>rfl
  have hput:∀(x:AY) (v:Value) (ok':Nat→Prop) (H':List BO) (w':World),x=r i→ES ok w ok' w'→Names H H'→Cb C ok' H' (ev i) w'→R ok' w' H' x v→I2 (l.setIfInBounds i true) (a.put ops[i].dst v) w':=by
   intro x v ok' H' w' hx hgr hnm hmem' hR;subst hx
   have hother:∀(d t:Nat),ops[i].dst=some d→d≠t→(a.put ops[i].dst v).tmps.getD t undef=a.tmps.getD t undef:=by
    intro d t hd hne;rw[hd];exact aMb hne
   obtain⟨m',amM,adD,amN⟩:∃m',m'≤N∧(∀b,bar b=true→b<ops.size→((l.setIfInBounds i true).getD b false=true↔b<m'))∧Cb C ok' H' (U m').ents w':=by
    have hget:∀b,b≠i→(l.setIfInBounds i true).getD b false=l.getD b false:=fun b z=>by
     simp only[H8,KD (Ne.symm z)]
    have amO:(l.setIfInBounds i true).getD i false=true:=aLr
    cases hbi:bar i with
    |false=>
     refine⟨m,MC,fun b z hbs=>?_,?_⟩
     ·have hne:b≠i:=fun e=>by subst e;rw[hbi]at z;cases z
      rw[hget b hne];exact adN b z hbs
     have h2:=(I4 i _ AA hiN M).2 hbi;rw[h2]at hmem'
     have hE:(U i).ents=(U m).ents:=by
      by_cases him:i≤m
      ·refine(Z i m him MC (fun b h2 h3=>?_)).symm;rw[←KX];intro z;have hbl:=(adN b z AA).2 h3;by_cases e:b=i
       ·subst e;rw[Y]at hbl;cases hbl
       have :=WJ L (show b<ops.size by omega) z (D:=fun j=>l.getD j false=true) J (fun o M m hm=>J b o M hbl m hm) i AA;rw[Y]at this;cases this
      refine Z m i AA AA (fun b h2 h3=>?_);rw[←KX];intro z;have :=aGB L (show b<ops.size by omega) z (D:=fun j=>l.getD j false=true) J i h3 _ M (fun m hm=>(O m hm).1);exact absurd ((adN b z AA).1 this) AA
     rw[←hE];exact hmem'
    |true=>
     refine⟨i+1,AA,fun b z hbs=>?_,by rw[hU i hi'];exact hmem'⟩;by_cases e:b=i
     ·subst e;rw[amO];simp
     rw[hget b e];constructor
     ·intro hbl;apply Vq;intro hn;have :=WJ L hbs z (D:=fun j=>l.getD j false=true) J (fun o M m hm=>J b o M hbl m hm) i AA;rw[Y]at this;cases this
     intro hlt;exact WJ L hi' hbi (D:=fun j=>l.getD j false=true) J (fun o ho' m hm=>afD) b AA
   refine .inl ⟨by simp[h1],by simpa only[H8,KD (show i≠N by omega)]using hlN,ok',H',m',amM,adD,amN,aLb,aLw,?_,?_,?_⟩
   ·intro t ht hno
    have hne:ops[i].dst≠some t:=by
     intro e;have :=hno i _ M e;simp[Array.getD,h1,hi']at this
    have hold:(a.put ops[i].dst v).tmps.getD t undef=a.tmps.getD t undef:=by
     cases hdi:ops[i].dst with
     |none=>rfl
     |some d=>exact hdi▸hother d t hdi (fun e=>hne (by rw[hdi,e]))
    rw[hold];refine(h5 t ht (fun j o u q=>?_)).mono hgr hnm;have hij:i≠j:=fun e=>by subst e;rw[M]at u;obtain rfl:=CO u;exact hne q
    have :=hno j o u q;simpa only[H8,KD hij]using this
   ·intro k o d hk hkd hl;by_cases hik:i=k
    ·subst hik;rw[M]at hk;obtain rfl:=CO hk;rw[hkd,aKs (by rw[hsz];exact Ip i _ d M hkd)];exact hR
    have hl':l.getD k false=true:=by
     simp only[H8,KD hik]at hl ⊢;exact hl
    have :=(h6 k o d hk hkd hl').mono hgr hnm;cases hdst:ops[i].dst with
    |none=>exact this
    |some d'=>
     have hne:d'≠d:=fun e=>hik (hinj i k _ _ d' M hk hdst (e▸hkd));rw[←hdst,hother d' d hdst hne];exact this
   intro j o u hl k hk;have hil:i<l.size:=AA
   by_cases hik:i=k
   ·subst hik;simp[Array.getD,hil]
   have hkk:l.getD k false=true:=by
    by_cases hij:i=j
    ·subst hij;rw[M]at u;obtain rfl:=CO u;exact(O k hk).1
    have hl':l.getD j false=true:=by
     simp only[H8,KD hij]at hl ⊢;exact hl
    exact h7 j o u hl' k hk
   simp only[H8,KD hik]at hkk ⊢;exact hkk
  unfold wpOpIn;rw[M];show if Region.wanted ops[i] (yielded ops a.tmps)=true then _ else _
  rcases(I4 i ops[i] AA hiN M).1 with⟨ns,hop,aeS,hnt,hg⟩|⟨hx,hev,hg⟩
  ·have hwant:Region.wanted ops[i] (yielded ops a.tmps)=true:=by
    unfold Region.wanted;rcases hg with hg|⟨j,want,d,b,hg,u,z,rfl⟩
    ·rw[hg]
    rw[hg];show(yielded ops a.tmps j==some b)=true;rw[Vm j d _ ((hcalm i _ M).2 j b hg) u z];simp
   rw[CV hwant];refine Qh ?_ (hop.inR ro C ok H a w _ hmem (fun n hn=>?_))
   ·rintro a' w' ⟨v,ok',H',rfl,hgr,hnn,hm',hx⟩;exact hput _ v ok' H' w' rfl hgr hnn hm' hx
   have hnv:=PK aeS n hn;obtain⟨x,y⟩:=n;simp only at hnv ⊢;subst hnv;cases x with
   |tmp t=>
    refine hread t ?_;rw[DT]at hnt
    have :t∈Lh ns:=by
     unfold Lh;rw[U5];exact⟨_,hn,rfl⟩
    simpa using hnt t this
   |const v=>exact .d _ _ (.lit v)
   |global g=>exact .d _ _ (.lit _)
   |func f=>exact .d _ _ (.fn (.func f) [] [] #[] #[] rfl rfl (fun i hi=>OE) (fun i hi=>OE))
  have hwant:Region.wanted ops[i] (yielded ops a.tmps)=false:=by
   unfold Region.wanted;obtain⟨j,want,d,v,hg,u,z,hv⟩:=hg;rw[hg];show(yielded ops a.tmps j==some want)=false;rw[Vm j d _ ((hcalm i _ M).2 j want hg) u z];rcases hv with rfl|rfl
   ·simp
   rfl
  rw[Cc (by rw[hwant];simp)];exact⟨fun _ _=>trivial,hput _ _ ok H w hx.symm (.refl _ _) (.refl _) aIZ (.d _ _ (.lit _))⟩
 ·rintro l a w (⟨h1,hlN,ok,H,m,MC,adN,hmem,hsz,hdf,h5,h6,h7⟩|⟨h1,_,h2⟩) hr
  rotate_left
  ·exact h2
  have hall:∀n i,i<n→i<ops.size→l.getD i false=true:=by
   intro n
   induction n with
   |zero=>intro i hi;omega
   |succ n ih=>
    intro i hi hi2;by_cases hn:i<n
    ·exact ih i hn hi2
    have hin:i=n:=AA
    subst hin;rw[←aKP];intro hf;have M:ops[i]? =some ops[i]:=by simp[hi2]
    have hmem:i∈Region.ready .any ops l:=by
     unfold Region.ready;rw[EY];refine⟨by simpa using hi2,?_⟩;have hil:i<l.size:=AA
     have hf':l.getD i true=false:=aDG
     rw[hf',M];simp only[IU,Fe,IW,NP];rw[QW];intro e he;cases hbe:Region.binds .any e with
     |false=>simp
     |true=>
      have hlt:=PX i _ M e tq hbe;rw[ih e.on AA AA];simp
    rw[hr]at hmem;simp at hmem
  have :=hall (N+1) N AA AA;rw[hlN]at this;cases this
 ·unfold toCome;simp
 refine .inl ⟨Ap,aC4,ok,H,0,EZ _,fun b z _=>aC4,?_,hh.size,hh.defers.mono (fun b z=>⟨z,rfl⟩),fun t ht _=>?_,fun i o d _ _ hl=>?_,fun j o _ hl=>?_⟩
 ·exact⟨⟨hh.mem.fr.os,hh.mem.fr.tape,hh.mem.fr.output,hh.mem.fr.size,hh.mem.fr.block⟩,hh.mem.yR,hh.mem.yS,hh.mem.kL,hh.mem.names,hh.mem.hlen,fun k e h h1 h2=>(hh.mem.ent k e h h1 h2).drew,hh.mem.blk,hh.mem.E5⟩
 ·exact R.mono (w:=w) (ok:=ok) (w':={ w with drawn:=w.drawn+1 }) (fun b z=>⟨z,rfl⟩) (.refl _) (hh.slot t ht)
 ·simp[Array.getD]at hl
 simp[Array.getD]at hl
def AP.aBu {id:Nat} {σ σ':Ak} {Q:Exit→Ak→Prop} {rs:List AY} {ess:List (List Ar)} {bs:List Bool} (N:Nat) (h:Ew P ops (ops.toList.take N) σ rs ess bs σ') (hl:Ch P ops (ops.toList.drop N) σ' Q) (u:N+1=ops.size:=by kernel_rfl) (M:P.follows .mixedOrders=true:=by kernel_rfl) (j:(Vs ops&&VX ops&&V9 ops σ.slots.length&&X9 ops)=true:=by kernel_rfl) (z:bs.length=N:=by kernel_rfl) (m:Xj ops (bs++[true])=true:=by kernel_rfl):AP P (.region id ops true) σ Q:=by
 refine AP.aEl N u M j z m h fun ro C ok H a w O=>?_;have J:N<ops.size:=AA
 have hd:ops.toList.drop N=[ops[N]]:=by
  rw[LG Uu];simp[←u]
 rw[hd]at hl;have L:=hl.run ro [] (fun e a' w'=>∃ok' H' σ',Holds C ok' H' σ' a' w'∧Q e σ') C ok H a w O ⟨fun σ' ok' H' a' w' I q=>⟨ok',H',σ',q,I⟩,fun v σ' ok' H' a' w' I q=>⟨ok',H',σ',q,I⟩⟩;unfold wpOpIn;have U:ops[N]? =some ops[N]:=by simp[J]
 rw[U];simp only[X5,IV,wpListIn]at L;exact L
end
section
variable {P : Program} {o : Oper} {es : List Ar}
def aDs {t:TypeId} (e s:Nat) (I:(P.info? t).bind (·.zero)=some (.slice none 0 0)) (J:o.op=.alloc t):BU P o [] es (.ptr (es.length+1) 0) (es++[.arr e s [],.box [.aZ es.length]]):=
 .eff fun C ok H a w m Z=>by
  obtain⟨z,h2⟩:=aHe m e s;have j:(H++[(⟨.slice none 0 0,s⟩:BO)]).length=(es++[Ar.arr e s []]).length:=z.hlen;have L:(H++[(⟨.slice none 0 0,s⟩:BO)])[es.length]? =some ⟨.slice none 0 0,s⟩:=aAB
  have M:Em ok (w.alloc (.cells #[.slice none 0 0] t)) ((H++[⟨.slice none 0 0,s⟩])++[⟨.pointer (some ⟨w.heap.size,0,none⟩),0⟩]) ⟨.pointer (some ⟨w.heap.size,0,none⟩),0⟩ (.box [.aZ es.length]):=by
   refine⟨w.heap.size, #[.slice none 0 0],t,rfl,dA w _,rfl,fun i hi=>?_⟩
   match i,hi with
   |0,_=>exact⟨rfl,.aZ _ none 0 0 s (by rw[Gj (by simp[m.hlen])];exact L)⟩
  obtain⟨O,U⟩:=z.push (.cells #[.slice none 0 0] t) ⟨.pointer (some ⟨w.heap.size,0,none⟩),0⟩ _ (aG2 w) M;have q:Cb C ok ((H++[⟨.slice none 0 0,s⟩])++[⟨.pointer (some ⟨w.heap.size,0,none⟩),0⟩]) (es++[.arr e s [],.box [.aZ es.length]]) (w.alloc (.cells #[.slice none 0 0] t)):=by simpa[Hr]using O
  refine⟨.pointer (some ⟨w.heap.size,0,none⟩),_,ok,_,.inl ?_,U,(Names.push _ _).trans (Names.push _ _),q,.ptr _ _ w.heap.size 0 ?_⟩
  ·obtain⟨i,hi,u⟩:=jE.1 I;have Y:Value.cells (.slice none 0 0)= #[.slice none 0 0]:=rfl;simp[execOp,J,Instr.alloc,zeroValue,typeInfo,hi,u,newVar,newRow,Y]
  rw[Jd (by rw[j];simp),j];simp
def aDx {α:Type} {x y:Operand} {t e:TypeId} {k n:Nat} {kd:IntKind} {i:Int} (enc:α→D) {l:List α} {a:α} (h:Ae l i=some a) (hl:l.length=n) (J:P.underlying t=some (.array n e)) (L:EL P e false 1) (M:es[k]? =some (.box (BD (MZ enc l)))) (O:o.op=.indexAddr t x y):
 BU P o [(x,.ptr k 0),(y,.d (.lit (.int kd i)))] es (.ptr k i.toNat) es:=
 .pure fun ok H U w j q z=>by
  obtain⟨Y,Z⟩:=KQ h;obtain⟨hd,hh,_⟩:=Fz j q M;have u:=(Ea z).1;have I:=(Ea z).2.lit;simp only at u I;have hlt:=(Fb.1 Z).1;have hu:(underlying t).run P w=.ok (.array n e) w:=by simp[underlying,J]
  generalize hv:U.eval x=v at u;cases u with
  |ptr _ _ b s hH=>
   have hb:0≤i∧i<n:=⟨Y,AA⟩
   refine⟨.pointer (some ⟨b,i.toNat,none⟩),?_,.ptr k _ b s hH⟩;have m:(⟨b,0,none⟩:Addr).add i.toNat=⟨b,i.toNat,none⟩:=by rw[addr_add,JI]
   simp[execOp,O,hv,I,Instr.indexAt,asIntOf,hu,Instr.sureAddr,hb,L.size w,m]
def apz {α:Type} {i:Int} {enc:α→D} {l:List α} {a:α} (h:Ae l i=some a):(BD (MZ enc l))[i.toNat]? =some (.d (enc a)):=by
 have j:=(KQ h).2;simp[BD,MZ,D.cells,j]
def aBl {α:Type} {x:Operand} {t:TypeId} {k:Nat} {i:Int} (enc:α→D) {l:List α} {a:α} (h:Ae l i=some a) (j:es[k]? =some (.box (BD (MZ enc l)))) (m:EL P t false 1) (q:o.op=.load t x):BU P o [(x,.ptr k i.toNat)] es (.d (enc a)) es:=aR2 j (apz h) m q
def acL {t:TypeId} {x:Operand} {y:D} (j:match P.underlying t with |some (.interface _)=>false|some _=>true|none=>false) (q:o.op=.makeInterface t x):BU P o [(x,.d y)] es (.d (.PU t y)) es:=
 .pure fun ok H a w _ _ u=>by
  have z:DV ok w y (a.eval x):=by have :=u (x,.d y) Ap;cases this with |d _ _ h=>exact h
  refine⟨.iface t (a.eval x),?_,.d _ _ (.PU t y _ z)⟩;cases m:P.underlying t with
  |none=>rw[m]at j;cases j
  |some d=>
   rw[m]at j;have I:(underlying t).run P w=.ok d w:=aOz
   cases d<;>first|(cases j;done)|simp[execOp,q,Instr.makeInterface,I]
def aT2 {t:TypeId} {x:Operand} (us:List Value) (j:match P.underlying t with |some (.interface _)=>false|some _=>true|none=>false) (u:o.op=.makeInterface t x):BU P o [(x,.d (.agg (us.map .lit)))] es (.d (.lit (.iface t (.agg us.toArray)))) es:=
 .pure fun ok H a w _ _ z=>by
  have q:=(z (x,.d (.agg (us.map .lit))) Ap).ahn;simp only at q;refine⟨.iface t (.agg us.toArray),?_,.d _ _ (.lit _)⟩;cases m:P.underlying t with
  |none=>rw[m]at j;cases j
  |some d=>
   rw[m]at j;have I:(underlying t).run P w=.ok d w:=aOz
   cases d<;>first|(cases j;done)|simp[execOp,u,Instr.makeInterface,I,q]
def wZ (P:Program) (t:TypeId) (j:String) (f:FuncId):Bool:=
 match P.info? t with
 |some i=>(match i.methods.find? (·.name==j)with
  |some m=>m.path.toList.isEmpty&&(match m.func with |some (g,p)=>decide (g=f)&& !p|none=>false)
  |none=>false)&&(match P.underlying t with |some (.pointer _)=>false|some _=>true|none=>false)
 |none=>false
def agG {t:TypeId} {j:String} {f:FuncId} (h:wZ P t j f=true) (n:Nat) (v:Value) (w:World):(method (n+1) t v j).run P w=.ok (f,v) w:=by
 unfold wZ at h;split at h
 ·rename_i i hi;rw[CW]at h;obtain⟨q,u⟩:=h;split at q
  ·rename_i m J;rw[CW]at q;obtain⟨L,z⟩:=q;split at z
   ·rename_i g p M;simp only[CW,G8,Sl]at z;obtain⟨rfl,rfl⟩:=z;have O:m.path.toList=[]:=List.isEmpty_iff.1 L;cases I:P.underlying t with
    |none=>rw[I]at u;cases u
    |some d=>
     rw[I]at u;have U:∀w,(underlying t).run P w=.ok d w:=fun w=>by simp[underlying,I]
     cases d<;>first|(cases u;done)|simp[method,typeInfo,hi,J,O,follow,M,receiverAt,U,Place.get]
   cases z
  cases q
 cases h
def aQ3 {f:FuncId} {j:Operand} {z:String} {ops:Array Operand} {ats:Array TypeId} {t:TypeId} (x:D) (m:List D) {q:AY} (hr:Am P f ((x::m).map .d) [] q []) (hf:Dl P f=true) (I:wZ P t z f=true) (hl:ops.toList.length=m.length) (M:q.up [] es.length=q)
 (ho:o.op=.call { callee:=.invoke j z,args:=ops,argTypes:=ats }):BU P o ((j,.d (.PU t x))::F9 ops.toList (m.map .d)) es q es:=by
 intro C ok H a w Q hm hn;have Y:=hn (j,.d (.PU t x)) Ap;simp only at Y;have J:=oh (xs:=ops.toList) (vs:=m.map .d) MH (fun n Z=>hn n (FW _ Z));generalize hv:a.eval j=v at Y;cases Y with
 |d _ _ h=>
  cases h with
  |PU _ _ u h1=>
   unfold Oper.wp
   have he:(execOp a.eval o).run P w=.ok (.enter f (#[u]++ops.map a.eval)) w:=by
    have h2:=TL hf (#[u]++ops.map a.eval) w;have L:=agG I (P.types.size+99) u w;have h4:(#[Value.iface t u]++ops.map a.eval)[0]? =some (.iface t u):=by rw[dc Ap];rfl
    have h5:(#[Value.iface t u]++ops.map a.eval).extract 1 (#[Value.iface t u]++ops.map a.eval).size=ops.map a.eval:=by
     apply aNy;rw[Array.toList_extract];simp only[Array.size_append,Array.size_map,List.extract_eq_take_drop,Array.toList_append,kD,Nq];simp;exact QN Ap
    simp only[execOp,ho,resolve,hv,FD,GK,FU,invoke,h4,h5,callMethod];have h6:(program).run P w=.ok P w:=rfl;simp only[h6,FU];have h7:P.types.size+Made.depth=P.types.size+99+1:=rfl;rw[h7,L];exact h2
   rw[he,bW];have O:(ops.map a.eval).size=m.length:=MH
   refine(aTZ hm hr _ (by simp at O;simp[O];omega) (fun i hi=>?_) M).mono ?_
   ·cases i with
    |zero=>
     have e0:(#[u]++ops.map a.eval).getD 0 undef=u:=by simp[H8,dc]
     rw[e0];exact h1
    |succ i=>
     have U:i<m.length:=Fp
     have L:=J i ZP;have e1:(m.map AY.d).getD i .junk=.d (m.getD i DK):=by simp[List.getD,U]
     have hi2:i<ops.size:=aaU
     have e2:(#[u]++ops.map a.eval).getD (i+1) undef=(ops.toList.map a.eval).getD i undef:=by
      simp only[H8,List.getD];rw[aHy Ap];simp[hi2]
     rw[e2];rw[e1]at L;have e3:(x::m).getD (i+1) DK=m.getD i DK:=Ap
     rw[e3];cases L with |d _ _ h=>exact h
   rintro e w' ⟨v,ok',H',rfl,L,h4,h5,h6⟩;exact⟨v,ok',H',rfl,L,h4,h5,h6⟩
end
section
variable {P : Program} {ops : Array Oper} {o : Oper} {rest l : List Oper} {σ : Ak} {K : Exit → Ak → Prop}
def Ch.DR {f:FuncId} {eH:List AY} {u:Value} (Z:aTj P f eH u) (hf:Dl P f=true) (h:K (yC u) σ) (I:Uh σ o=some (f,eH):=by kernel_rfl) (hd:eH.all AY.Az=true:=by kernel_rfl) (hg:JL ops σ o.guard=some true:=by kernel_rfl):Ch P ops (o::rest) σ K:=by
 refine⟨fun ro l2 Q C ok H a w j hk=>?_⟩;show wpListIn (Iz ro) 0 P ops Q (o::(rest++l2)) a w;unfold wpListIn;rw[CV (PZ j (MS hg))];unfold Uh at I;split at I
 ·rename_i c M;split at I
  ·rename_i f' z;cases I;obtain⟨callee,args,ats⟩:=c;simp only at z;subst z;have q:(execOp a.eval o).run P w=.ok (.enter f (args.map a.eval)) w:=by rw[yI M,TL hf]
   unfold Oper.wpIn;rw[iC _ _ _ (by rw[M];intro c h;cases h),q]
   have L:Cb ⟨w,ok,[],[]⟩ ok [] [] w:=
    ⟨.refl _ _,fun _ h=>h,fun _ h=>.inl h,j.mem.kL,.refl _,rfl,fun k e h q=>VI,fun k e h b q=>VI,fun k k' e e' h h' b q=>VI⟩
   have key:Calls P f (args.map a.eval) w fun e w'=>e=.panicked [{ v:=u,recovered:=false }]∧∃ok',Holds C ok' H σ a w':=by
    refine(Z ok [] [] w _ L Ap (fun i hi=>?_)).mono ?_
    ·have J:i<args.size:=Fp
     have e1:(args.toList.map σ.get).getD i .junk=σ.get args[i]:=by simp[List.getD,J]
     have e2:(args.map a.eval).getD i undef=a.eval args[i]:=by simp[Array.getD,J]
     have O:AY.Az (σ.get args[i])=true:=by
      rw[DT]at hd;exact hd _ (Ee.2 ⟨args[i],Ap,rfl⟩)
     have U:=j.get args[i];rw[e1,e2];generalize σ.get args[i]=y at O U;cases y with
     |d y=>cases U with |d _ _ h=>exact .d _ _ h
     |_=>cases O
    rintro e w' ⟨ok',H',rfl,m⟩;obtain⟨h1,Y⟩:=j.mem.change (ok':=ok) (H':=H) (es':=σ.ents) (w':=w') (fun _=>False) m.fr.os m.fr.tape m.fr.output m.fr.size (fun b hb _=>m.fr.block b hb Ap) (fun _ h=>h.elim) (fun _ h=>h) (fun _ h=>.inl h) (.refl _) j.mem.hlen (fun k e h q j=>.inl ⟨q,j,fun _ _ _ h=>h⟩);exact⟨rfl,ok,h1,j.size,j.defers.mono Y,j.base,fun t ht=>(j.slot t ht).mono Y (.refl _)⟩
   refine⟨fun _ _=>trivial,fun h=>GL,aA3.2 (key.mono ?_)⟩;rintro e w' ⟨rfl,ok',h5⟩;exact hk.2 _ _ _ _ _ _ h h5
  cases I
 cases I
end
def Kt {α β:Type} (r:Except Value α) (f:α→Option (Except Value β)):Option (Except Value β):=
 match r with
 | .ok a=>f a
 | .error u=>some (.error u)
def aiV (p:Addr) (w:World):
 CallsD Tryz.prog 266 #[.pointer (some p)] .returning w fun e j w'=>e=.returned (.tuple #[])∧j=.returning∧w'=w:=by
 refine aGT Tryz.func266 rfl fun m cs q=>?_;apply PW;apply Po;simp[wpOpsS,go_sem,recoverD,q,Tryz.ntmps266,Exit.thenS];apply PW;apply Po;simp[wpOpsS,go_sem,Exit.thenS];refine kH (t:=false) mW ?_;simp only[Rh,JE];refine wpS_of_wp (wp_skip ?_);cases m
 simp_all [bodyPostS,results,Tryz.results266]
def ap3 (b:Nat) (x:Value) (n:Int) (w:World) (J:w.heap[b]? =some (.cells #[x] 39 (0,0))):
 CallsD Tryz.prog 266 #[.pointer (some ⟨b,0,none⟩)] (.panicking [{ v:=.iface 258 (.agg #[.int .i64 n]),recovered:=false }]) w fun e L w'=>
  e=.returned (.tuple #[])∧L=.panicking [{ v:=.iface 258 (.agg #[.int .i64 n]),recovered:=true }]∧w.grownBy w' (some b)∧w'.heap[b]? =some (.cells #[.int .i64 n] 39 (0,0)):=by
 have m:∀(M:TypeId) (w:World),(Instr.typeAssert (.iface 258 (.agg #[.int .i64 n])) M 258 true).run Tryz.prog w=.ok (.tuple #[.agg #[.int .i64 n],.bool true]) w:=fun _ _=>A8
 have O:∀w:World,(Instr.alloc 258 true (.tuple #[])).run Tryz.prog w=.ok (.pointer (some ⟨w.heap.size,0,none⟩)) (w.alloc (.cells #[.int .i64 0] 258)):=fun w=>by
  simp[Instr.alloc,go_sem]
 have hst:∀w:World,(Instr.storeAt 258 (.pointer (some ⟨w.heap.size,0,none⟩)) (.agg #[.int .i64 n])).run Tryz.prog (w.alloc (.cells #[.int .i64 0] 258))=.ok () (w.alloc (.cells #[.int .i64 n] 258)):=fun w=>by
  simp[Instr.storeAt,go_sem]
 refine aGT Tryz.func266 rfl fun Z cs U=>?_;apply PW;apply Po;simp[wpOpsS,go_sem,recoverD,U,Tryz.ntmps266,Exit.thenS];apply PW;apply Po;simp[wpOpsS,go_sem,Exit.thenS];refine kH (t:=true) mW ?_;simp only[JZ];apply PW;apply Po;simp[wpOpsS,execOp,m,O,hst,go_sem,Exit.thenS];apply PW;apply PW;apply Po;simp[wpOpsS,go_sem,Exit.thenS];refine kH (t:=false) mW ?_;simp only[Rh,JE];refine wpS_of_wp (wp_skip ?_);simp only[Exit.thenS];have q:b<w.heap.size:=(G6.1 J).1;have j:(w.alloc (.cells #[.int .i64 n] 258)).heap[b]? =some (.cells #[x] 39 (0,0)):=(Jk _ _ _ q).trans J;have Y:(w.alloc (.cells #[.int .i64 n] 258)).cell? ⟨b,0,none⟩=some x:=aC8
 have u:(w.alloc (.cells #[.int .i64 n] 258)).frozen? ⟨b,0,none⟩=false:=by simp[World.frozen?,j]
 apply Po;simp[wpOpsS,go_sem,Exit.thenS,Y,u,bodyPostS,results,Tryz.results266]
 have key:(w.alloc (.cells #[.int .i64 n] 258)).setCell ⟨b,0,none⟩ (.int .i64 n)=(w.alloc (.cells #[.int .i64 n] 258)).putObj b (.cells #[.int .i64 n] 39 (0,0)):=by
  simp only[World.setCell,World.putObj];congr 1;apply nU;intro i;rw[Ol,aPT];by_cases e:b=i
  ·subst e;rw[CV rfl,CV rfl,j,CV (G6.1 j).1];rfl
  rw[Cc e,Cc e]
 rw[key];have z:b<(w.alloc (.cells #[.int .i64 n] 258)).heap.size:=(G6.1 j).1;refine⟨⟨rfl,rfl,rfl,Ap,fun i hi I=>?_⟩,WI z⟩;rw[XR (fun e=>I (by rw[e]))];exact Jk _ _ _ hi
def Tf {T:Type}:Except Value T→Option Int
 | .ok _=>some 0
 | .error (.iface t (.agg cs))=>bif t==258 then(match cs.toList with | [.int .i64 n]=>some n|_=>none)else none
 | .error _=>none
def aem (b:Nat) (n:Int) (w:World) (j:w.heap[b]? =some (.cells #[.int .i64 n] 39 (0,0))) (tmps:Array Value) (m:tmps.getD 2 undef=.pointer (some ⟨b,0,none⟩)):(results Tryz.f202 tmps).run Tryz.prog w=.ok (.int .i64 n) w:=by
 have q:w.cell? ⟨b,0,none⟩=some (.int .i64 n):=aC8
 have e:results Tryz.f202 tmps=(do let v ←loadVar 39 (←asAddr (tmps.getD 2 undef));pure v):=by simp[results,Tryz.results202]
 rw[e,m];simp[go_sem,q]
def ahx {g:FuncId} {us:Array Value} {w:World} {n:Int} (he:∀(vs:Array Value) (w:World),(callFunc g vs).run Tryz.prog w=.ok (.enter g vs) w)
 (I:Calls Tryz.prog g us (w.alloc (.cells #[.int .i64 0] 39 (0,0))) fun e u=>(w.alloc (.cells #[.int .i64 0] 39 (0,0))).grownBy u none∧((∃v,e=.returned v∧n=0)∨e=.panicked [{ v:=.iface 258 (.agg #[.int .i64 n]),recovered:=false }])):
 Calls Tryz.prog 202 #[.func (.func g) #[] us] w fun e w'=>e=.returned (.int .i64 n)∧w.grownBy w' none:=by
 have Y:∀(fn:Fn) (first cap:Array Value) (w:World),(Instr.makeFunc fn first cap).run Tryz.prog w=.ok (.func fn first cap) w:=fun _ _ _ _=>rfl;have q:w.grownBy (w.alloc (.cells #[.int .i64 0] 39 (0,0))) none:=⟨rfl,rfl,rfl,Ap,fun i hi _=>Jk _ _ _ hi⟩
 go_enter_defers Tryz.func202,Tryz.ntmps202
 apply wp_seq;apply bI;refine .inl ?_;simp[Oper.wp,go_sem,wpList,Exit.then];apply wp_seq;apply bI;refine .inl ?_;simp[Oper.wp,go_sem,Y,wpList,Exit.then];refine .inl ?_;apply wp_seq;apply bI;refine .inl ?_;simp[Oper.wp,go_sem,he,wpList,Exit.then];refine .inl (I.mono ?_);rintro e u ⟨L,h⟩;have M:u.heap[w.heap.size]? =some (.cells #[.int .i64 0] 39 (0,0)):=(L.block w.heap.size Ap Ap).trans (gV _ _);have O:w.heap.size<u.heap.size:=(G6.1 M).1;have j:w.grownBy u none:=⟨L.os.trans q.os,L.tape.trans q.tape,L.output.trans q.output,Eh q.size L.size,fun i hi U=>(L.block i DU U).trans (q.block i hi U)⟩
 have z:∀(Z:World) (m:Int),u.grownBy Z (some w.heap.size)→w.grownBy Z none:=fun Z m J=>⟨J.os.trans j.os,J.tape.trans j.tape,J.output.trans j.output,Eh j.size J.size,fun i hi U=>(J.block i (by have :=j.size;omega) DU).trans (j.block i hi U)⟩
 rcases h with⟨v,rfl,rfl⟩|rfl
 ·have hc:u.cell? ⟨w.heap.size,0,none⟩=some (.int .i64 0):=by rw[World.cell?,M];rfl
  have hfz:u.frozen? ⟨w.heap.size,0,none⟩=false:=by simp[World.frozen?,M]
  apply wp_seq;apply bI;refine .inl ?_;simp[Oper.wp,go_sem,hc,hfz,wpList,Exit.then];apply wp_ret
  have key:u.setCell ⟨w.heap.size,0,none⟩ (.int .i64 0)=u.putObj w.heap.size (.cells #[.int .i64 0] 39 (0,0)):=by
   simp only[World.setCell,World.putObj];congr 1;apply nU;intro i;rw[Ol,aPT];by_cases e:w.heap.size=i
   ·subst e;rw[CV rfl,CV rfl,M,CV O];rfl
   rw[Cc e,Cc e]
  rw[key];refine leaves_cons (f:=266) (args:= #[.pointer (some ⟨w.heap.size,0,none⟩)]) Ap aAU ?_;refine(aiV ⟨w.heap.size,0,none⟩ _).mono ?_;rintro e u' w'' ⟨rfl,rfl,rfl⟩;refine⟨.int .i64 0,aem w.heap.size 0 _ (WI O) _ rfl,rfl,z _ 0 ⟨rfl,rfl,rfl,Ap,fun i hi hne=>XR (fun e=>hne (by rw[e]))⟩⟩
 refine leaves_cons (f:=266) (args:= #[.pointer (some ⟨w.heap.size,0,none⟩)]) Ap aAU ?_;refine(ap3 w.heap.size (.int .i64 0) n u M).mono ?_;rintro e u' w'' ⟨rfl,rfl,J,h4⟩;exact⟨.int .i64 n,aem w.heap.size n _ h4 _ rfl,rfl,z _ n J⟩
def aag {T:Type} {res:T→AY} (g:FuncId) (j:List D) (r:Except Value T) (hr:PL Tryz.prog g (j.map .d) r res) (M:Dl Tryz.prog g=true) (n:Int) (z:Tf r=some n):
 BG 202 [.d (.fn (.func g) [] j)] [] (.d (Aa n)) []:=by
 intro ok X H w J hm hs ha;obtain rfl:H=[]:=Gg hm.hlen;have h0:=ha 0 Ap
 obtain⟨fv,rfl⟩:∃fv,J= #[fv]:=by
  have h1:J.size=1:=hs;exact⟨J[0],by apply ZI (by simp[h1]);intro i h1 h2;simp at h2;subst h2;rfl⟩
 have h0:R ok w [] (.d (.fn (.func g) [] j)) fv:=h0;cases h0 with
 |d _ _ h0=>
 cases h0 with
 |fn _ _ _ vs us hl1 hl2 h1 h2=>
 obtain rfl:vs= #[]:=dG (by simpa using hl1);obtain⟨I,Y⟩:∃I,I=w.alloc (.cells #[.int .i64 0] 39 (0,0)):=⟨_,rfl⟩
 have hg1:ES ok w ok I:=fun b U=>⟨U,by rw[Y];exact Jk _ _ _ (hm.kL b U)⟩
 have hmc:Cb ⟨I,ok,[],[]⟩ ok [] [] I:=
  ⟨.refl _ _,fun _ h=>h,fun _ h=>.inl h,fun b U=>by rw[Y];simp;exact Nat.lt_succ_of_lt (hm.kL b U),.refl _,rfl,fun k e h M=>qP,fun k e h b M=>qP,fun k k' e e' h h' b M=>qP⟩
 have L:∀i,i<(j.map AY.d).length→R ok I [] ((j.map AY.d).getD i .junk) (us.getD i undef):=fun i hi=>by
  rw[CM]at hi;have e1:(j.map AY.d).getD i .junk=.d (j.getD i DK):=MG
  rw[e1];exact .d _ _ ((h2 i hi).mono hg1)
 have hgr:∀{Z:Nat→Prop} {H2:List BO} {w2:World},Cb ⟨I,ok,[],[]⟩ Z H2 [] w2→I.grownBy w2 none:=fun q=>⟨q.fr.os,q.fr.tape,q.fr.output,q.fr.size,fun b U _=>q.fr.block b U Ap⟩
 have hcall:Calls Tryz.prog g us I fun e w2=>I.grownBy w2 none∧((∃v,e=.returned v∧n=0)∨e=.panicked [{ v:=.iface 258 (.agg #[.int .i64 n]),recovered:=false }]):=by
  cases O:r with
  |ok x=>
   rw[O]at z;refine(hr.1 x O ok [] [] I us hmc (by simpa using hl2) L).mono ?_;rintro e w2 ⟨v,Z,H2,rfl,q,_⟩;exact⟨hgr q,.inl ⟨v,rfl,(CO z).symm⟩⟩
  |error u=>
   rw[O]at z
   have hu:u=.iface 258 (.agg #[.int .i64 n]):=by
    unfold Tf at z;split at z
    ·rename_i h;cases h
    ·rename_i t cs h;cases h;cases ht:(t==258)with
     |false=>rw[ht]at z;cases z
     |true=>
      rw[ht]at z;simp only[Au]at z;obtain rfl:t=258:=by simpa using ht
      split at z
      ·rename_i m hcs;obtain rfl:=CO z;rw[←lJ (xs:=cs),hcs]
      cases z
    cases z
   refine(hr.2 u O ok [] [] I us hmc (by simpa using hl2) L).mono ?_;rintro e w2 ⟨Z,H2,rfl,q⟩;exact⟨hgr q,.inr (by rw[hu])⟩
 subst Y;refine(ahx (fun vs w=>TL M vs w) hcall).mono ?_;rintro e w' ⟨rfl,hg⟩;obtain⟨m1,_⟩:=hm.change (ok':=ok) (H':=[]) (es':=[]) (w':=w') (fun _=>False) hg.os hg.tape hg.output hg.size (fun b U _=>hg.block b U Ap) (fun _ h=>h.elim) (fun _ h=>h) (fun _ h=>.inl h) (.refl _) rfl (fun k e h M=>qP);exact⟨_,ok,[],rfl,m1,.d _ _ (.lit _)⟩
def setCell_eq {w:World} {b:Nat} {x y:Value} {t:TypeId} (j:w.heap[b]? =some (.cells #[x] t (0,0))):w.setCell ⟨b,0,none⟩ y=w.putObj b (.cells #[y] t (0,0)):=by
 simp only[World.setCell,World.putObj];congr 1;apply nU;intro i;rw[Ol,aPT];by_cases e:b=i
 ·subst e;rw[CV rfl,CV rfl,j,CV (G6.1 j).1];rfl
 rw[Cc e,Cc e]
def aj1 (p q:Addr) (w:World):
 CallsD Tryz.prog 274 #[.pointer (some p),.pointer (some q)] .returning w fun e j w'=>e=.returned (.tuple #[])∧j=.returning∧w'=w:=by
 refine aGT Tryz.func274 rfl fun m cs u=>?_;apply PW;apply Po;simp[wpOpsS,go_sem,recoverD,u,Tryz.ntmps274,Exit.thenS];apply PW;apply Po;simp[wpOpsS,go_sem,Exit.thenS];refine kH (t:=false) mW ?_;simp only[Rh,JE];refine wpS_of_wp (wp_skip ?_);cases m
 simp_all [bodyPostS,results,Tryz.results274]
def amk (b c:Nat) (ad:Option Addr) (n cap:Nat) (x:Value) (w:World) (U:w.heap[b]? =some (.cells #[.slice ad n cap] 54 (0,0))) (Y:w.heap[c]? =some (.cells #[x] 54 (0,0))):
 CallsD Tryz.prog 274 #[.pointer (some ⟨b,0,none⟩),.pointer (some ⟨c,0,none⟩)] (.panicking [{ v:=.iface 266 (.agg #[]),recovered:=false }]) w fun e Z w'=>
  e=.returned (.tuple #[])∧Z=.panicking [{ v:=.iface 266 (.agg #[]),recovered:=true }]∧w.grownBy w' (some c)∧w'.heap[c]? =some (.cells #[.slice ad n cap] 54 (0,0)):=by
 have m:∀(t0:TypeId) (w:World),(Instr.typeAssert (.iface 266 (.agg #[])) t0 266 true).run Tryz.prog w=.ok (.tuple #[.agg #[],.bool true]) w:=fun _ _=>A8
 refine aGT Tryz.func274 rfl fun c₀ cs hu=>?_;apply PW;apply Po;simp[wpOpsS,go_sem,recoverD,hu,Tryz.ntmps274,Exit.thenS];apply PW;apply Po;simp[wpOpsS,go_sem,Exit.thenS];refine kH (t:=true) mW ?_;simp only[JZ];apply PW;apply PW;apply Po;simp[wpOpsS,execOp,m,go_sem,Exit.thenS];apply PW;apply Po;simp[wpOpsS,go_sem,Exit.thenS];refine kH (t:=false) mW ?_;simp only[Rh,JE];refine wpS_of_wp (wp_skip ?_);simp only[Exit.thenS];have q:b<w.heap.size:=(G6.1 U).1;have u:c<w.heap.size:=(G6.1 Y).1;have z:(w.alloc (.cells #[] 266)).heap[b]? =some (.cells #[.slice ad n cap] 54 (0,0)):=(Jk _ _ _ q).trans U;have j:(w.alloc (.cells #[] 266)).heap[c]? =some (.cells #[x] 54 (0,0)):=(Jk _ _ _ u).trans Y;have I:(w.alloc (.cells #[] 266)).cell? ⟨b,0,none⟩=some (.slice ad n cap):=by rw[World.cell?,z];rfl
 have J:(w.alloc (.cells #[] 266)).cell? ⟨c,0,none⟩=some x:=aC8
 have L:(w.alloc (.cells #[] 266)).frozen? ⟨c,0,none⟩=false:=by simp[World.frozen?,j]
 apply Po;simp[wpOpsS,go_sem,Exit.thenS,I,J,L,bodyPostS,results,Tryz.results274];rw[setCell_eq j];have M:c<(w.alloc (.cells #[] 266)).heap.size:=(G6.1 j).1;refine⟨⟨rfl,rfl,rfl,Ap,fun i hi O=>?_⟩,WI M⟩;rw[XR (fun e=>O (by rw[e]))];exact Jk _ _ _ hi
def step_fin (b:Nat) (v:Value) (w:World) (j:w.heap[b]? =some (.cells #[v] 54 (0,0))) (tmps:Array Value) (m:tmps.getD 6 undef=.pointer (some ⟨b,0,none⟩)):(results Tryz.f220 tmps).run Tryz.prog w=.ok v w:=by
 have q:w.cell? ⟨b,0,none⟩=some v:=aC8
 have e:results Tryz.f220 tmps=(do let v ←loadVar 54 (←asAddr (tmps.getD 6 undef));pure v):=by simp[results,Tryz.results220]
 rw[e,m];simp[go_sem,q]
def anh {l id:Value} {ad:Option Addr} {n cap:Nat} {w:World} {Rv:Value→World→Prop} {bad:Prop}
 (z:Calls Tryz.prog 275 #[l,.slice ad n cap,id] ((w.alloc (.cells #[.slice ad n cap] 54 (0,0))).alloc (.cells #[.slice none 0 0] 54 (0,0))) fun e j=>((w.alloc (.cells #[.slice ad n cap] 54 (0,0))).alloc (.cells #[.slice none 0 0] 54 (0,0))).grownBy j none∧((∃J n' m,e=.returned (.slice J n' m)∧Rv (.slice J n' m) j)∨(e=.panicked [{ v:=.iface 266 (.agg #[]),recovered:=false }]∧bad))):
 Calls Tryz.prog 220 #[l,.slice ad n cap,id] w fun e w'=>w.grownBy w' none∧((∃v j,e=.returned v∧Rv v j∧w.grownBy j none∧w.heap.size+1<j.heap.size∧j.grownBy w' (some (w.heap.size+1)))∨(e=.returned (.slice ad n cap)∧bad)):=by
 have hmf:∀(fn:Fn) (first cap:Array Value) (w:World),(Instr.makeFunc fn first cap).run Tryz.prog w=.ok (.func fn first cap) w:=fun _ _ _ _=>rfl;obtain⟨O,q⟩:∃O,O=(w.alloc (.cells #[.slice ad n cap] 54 (0,0))).alloc (.cells #[.slice none 0 0] 54 (0,0)):=⟨_,rfl⟩
 have hs1:O.heap.size=w.heap.size+2:=by rw[q];simp
 have Y:O.heap[w.heap.size]? =some (.cells #[.slice ad n cap] 54 (0,0)):=by rw[q];exact(Jk _ _ _ Ap).trans (gV w _)
 have h1c:O.heap[w.heap.size+1]? =some (.cells #[.slice none 0 0] 54 (0,0)):=by
  have :=gV (w.alloc (.cells #[.slice ad n cap] 54 (0,0))) (.cells #[.slice none 0 0] 54 (0,0));rw[aOp]at this;rw[q];exact this
 have I:w.grownBy O none:=by
  rw[q];exact⟨rfl,rfl,rfl,DU,fun i hi _=>(Jk _ _ _ DU).trans (Jk _ _ _ hi)⟩
 have hcb:O.cell? ⟨w.heap.size,0,none⟩=some (.slice ad n cap):=by rw[World.cell?,Y];rfl
 rw[←q]at z
 go_enter_defers Tryz.func220,Tryz.ntmps220
 apply wp_seq;apply bI;refine .inl ?_;simp[Oper.wp,go_sem,wpList,Exit.then];rw[←q];have he:∀(vs:Array Value) (w:World),(callFunc 275 vs).run Tryz.prog w=.ok (.enter 275 vs) w:=fun vs w=>TL (P:=Tryz.prog) (f:=275) A8 vs w;refine .inl ?_;apply wp_seq;apply bI;refine .inl ?_;simp[Oper.wp,go_sem,hmf,wpList,Exit.then];refine .inl ?_;apply wp_seq;apply bI;refine .inl ?_;simp[Oper.wp,go_sem,wpList,Exit.then,hcb,he];refine .inl (.inl (.inl (z.mono ?_)));rintro e j ⟨U,h⟩;have hb:j.heap[w.heap.size]? =some (.cells #[.slice ad n cap] 54 (0,0)):=(U.block _ AA Ap).trans Y;have Z:j.heap[w.heap.size+1]? =some (.cells #[.slice none 0 0] 54 (0,0)):=(U.block _ AA Ap).trans h1c;have hcl:w.heap.size+1<j.heap.size:=(G6.1 Z).1;have u:w.grownBy j none:=⟨U.os.trans I.os,U.tape.trans I.tape,U.output.trans I.output,Eh I.size U.size,fun i hi hn=>(U.block i AA hn).trans (I.block i hi hn)⟩
 have M:∀(w3:World),j.grownBy w3 (some (w.heap.size+1))→w.grownBy w3 none:=fun w3 L=>⟨L.os.trans u.os,L.tape.trans u.tape,L.output.trans u.output,Eh u.size L.size,fun i hi hn=>(L.block i AA DU).trans (u.block i hi hn)⟩
 rcases h with⟨J,n',m,rfl,hv⟩|⟨rfl,hbad⟩
 ·have hcc:j.cell? ⟨w.heap.size+1,0,none⟩=some (.slice none 0 0):=by rw[World.cell?,Z];rfl
  have hfz:j.frozen? ⟨w.heap.size+1,0,none⟩=false:=by simp[World.frozen?,Z]
  simp[hcc,hfz,go_sem,wpList,Exit.then];refine .inl (wp_ret ?_);rw[setCell_eq Z];refine leaves_cons (f:=274) (args:= #[.pointer (some ⟨w.heap.size,0,none⟩),.pointer (some ⟨w.heap.size+1,0,none⟩)]) Ap aAU ?_;refine(aj1 ⟨w.heap.size,0,none⟩ ⟨w.heap.size+1,0,none⟩ _).mono ?_;rintro e u' w'' ⟨rfl,rfl,rfl⟩;have L:j.grownBy (j.putObj (w.heap.size+1) (.cells #[.slice J n' m] 54 (0,0))) (some (w.heap.size+1)):=⟨rfl,rfl,rfl,Ap,fun i hi hne=>XR (fun e=>hne (by rw[e]))⟩
  exact⟨.slice J n' m,step_fin (w.heap.size+1) _ _ (WI hcl) _ rfl,M _ L,.inl ⟨_,rfl,j,hv,u,hcl,L⟩⟩
 refine leaves_cons (f:=274) (args:= #[.pointer (some ⟨w.heap.size,0,none⟩),.pointer (some ⟨w.heap.size+1,0,none⟩)]) Ap aAU ?_;refine(amk w.heap.size (w.heap.size+1) ad n cap (.slice none 0 0) j hb Z).mono ?_;rintro e u' w'' ⟨rfl,rfl,L,h4⟩;exact⟨.slice ad n cap,step_fin (w.heap.size+1) _ _ h4 _ rfl,M _ L,.inr ⟨rfl,hbad⟩⟩
def aFm {T:Type} (s:T):Except Value T→Option T
 | .ok x=>some x
 | .error (.iface t (.agg cs))=>bif t==266&&cs.toList.isEmpty then some s else none
 | .error _=>none
def arn {T:Type} (enc:T→List D) (dl di:D) (s:T) (r:Except Value T) (hr:PL Tryz.prog 275 [.d dl,.d (.sl (enc s)),.d di] r (fun x=>.d (.sl (enc x)))) (M:T) (Y:aFm s r=some M):
 BG 220 [.d dl,.d (.sl (enc s)),.d di] [] (.d (.sl (enc M))) []:=by
 intro ok X H w z hm hs ha;obtain rfl:H=[]:=Gg hm.hlen;have hsz:z.size=3:=hs
 obtain⟨l,sv,id,rfl⟩:∃l sv id,z= #[l,sv,id]:=⟨z[0],z[1],z[2],by
  apply ZI (by simp[hsz]);intro i h1 h2
  match i,h2 with
  |0,_=>rfl
  |1,_=>rfl
  |2,_=>rfl⟩
 have a0:R ok w [] (.d dl) l:=ha 0 Ap;have a1:R ok w [] (.d (.sl (enc s))) sv:=ha 1 Ap;have a2:R ok w [] (.d di) id:=ha 2 Ap
 have slv:∀{ok:Nat→Prop} {w:World} {H:List BO} {xs:List D} {v:Value},R ok w H (.d (.sl xs)) v→∃ad n cap,v=.slice ad n cap:=fun h=>by
  cases h with
  |d _ _ h=>cases h with
   |sl0 ad cap=>exact⟨_,_,_,rfl⟩
   |sl=>exact⟨_,_,_,rfl⟩
 obtain⟨ad,n,cap,rfl⟩:=slv a1;obtain⟨I,Z⟩:∃I,I=(w.alloc (.cells #[.slice ad n cap] 54 (0,0))).alloc (.cells #[.slice none 0 0] 54 (0,0)):=⟨_,rfl⟩
 have hs1:I.heap.size=w.heap.size+2:=by rw[Z];simp
 have hg1:ES ok w ok I:=fun b q=>⟨q,by rw[Z];exact(Jk _ _ _ (by have h:=hm.kL b q;rw[aOp];omega)).trans (Jk _ _ _ (hm.kL b q))⟩
 have hmc:Cb ⟨I,ok,[],[]⟩ ok [] [] I:=
  ⟨.refl _ _,fun _ h=>h,fun _ h=>.inl h,fun b q=>by have h:=hm.kL b q;rw[hs1];omega,.refl _,rfl,fun k e h he=>by simp at he,fun k e h b he=>by simp at he,fun k k' e e' h h' b he=>by simp at he⟩
 have O:∀i,i<3→R ok I [] ([AY.d dl,.d (.sl (enc s)),.d di].getD i .junk) ((#[l,.slice ad n cap,id]:Array Value).getD i undef):=fun i hi=>by
  match i,hi with
  |0,_=>exact a0.mono hg1 (.refl _)
  |1,_=>exact a1.mono hg1 (.refl _)
  |2,_=>exact a2.mono hg1 (.refl _)
 have hgr:∀{j:Nat→Prop} {H2:List BO} {L:World},Cb ⟨I,ok,[],[]⟩ j H2 [] L→I.grownBy L none:=fun m=>⟨m.fr.os,m.fr.tape,m.fr.output,m.fr.size,fun b q _=>m.fr.block b q Ap⟩
 have U:Calls Tryz.prog 275 #[l,.slice ad n cap,id] I fun e L=>I.grownBy L none∧((∃ad' n' J,e=.returned (.slice ad' n' J)∧∃x j,r=.ok x∧Cb ⟨I,ok,[],[]⟩ j [] [] L∧DV j L (.sl (enc x)) (.slice ad' n' J))∨(e=.panicked [{ v:=.iface 266 (.agg #[]),recovered:=false }]∧M=s)):=by
  cases hrr:r with
  |ok x=>
   refine(hr.1 x hrr ok [] [] I _ hmc rfl O).mono ?_;rintro e L ⟨v,j,H2,rfl,m,hR⟩;obtain⟨ad',n',J,rfl⟩:=slv hR;obtain rfl:H2=[]:=Gg m.hlen;exact⟨hgr m,.inl ⟨ad',n',J,rfl,x,j,rfl,m,by cases hR with |d _ _ h=>exact h⟩⟩
  |error u=>
   rw[hrr]at Y
   have hu:u=.iface 266 (.agg #[])∧M=s:=by
    unfold aFm at Y;split at Y
    ·rename_i h;cases h
    ·rename_i t cs h;cases h;cases ht:(t==266&&cs.toList.isEmpty)with
     |false=>rw[ht]at Y;cases Y
     |true=>
      rw[ht]at Y;simp only[CW]at ht;obtain rfl:t=266:=by simpa using ht.1
      have :cs= #[]:=by rw[←lJ (xs:=cs),List.isEmpty_iff.1 ht.2]
      subst this;exact⟨rfl,(CO Y).symm⟩
    cases Y
   refine(hr.2 u hrr ok [] [] I _ hmc rfl O).mono ?_;rintro e L ⟨j,H2,rfl,m⟩;exact⟨hgr m,.inr ⟨by rw[hu.1],hu.2⟩⟩
 rw[Z]at U;refine(anh U (Rv:=fun v L=>∃x j,r=.ok x∧Cb ⟨_,ok,[],[]⟩ j [] [] L∧DV j L (.sl (enc x)) v) (bad:=M=s)).mono ?_;rw[←Z];rintro e w' ⟨hg,h⟩
 have mk:∀(j:Nat→Prop),(∀b,ok b→j b)→(∀b,j b→ok b∨(w.heap.size≤b∧b<w'.heap.size))→Cb ⟨w,ok,X,[]⟩ j [] [] w':=fun j h1 h2=>
  (hm.change (ok':=j) (H':=[]) (es':=[]) (w':=w') (fun _=>False) hg.os hg.tape hg.output hg.size (fun b q _=>hg.block b q Ap) (fun _ h=>h.elim) h1 h2 (.refl _) rfl (fun k e h he=>by simp at he)).1
 rcases h with⟨v,L,rfl,⟨x,j,hx,m,hD⟩,hg2,hlt,h3⟩|⟨rfl,rfl⟩
 ·rw[hx]at Y;obtain rfl:=CO Y
  have hgg:ES j L j w':=fun b q=>⟨q,h3.block b (m.kL b q) (fun e=>by
   obtain rfl:=CO e;rcases m.yS _ q with h|h|h
   ·have :=hm.kL _ h;omega
   ·simp only at h;omega
   simp at h)⟩
  refine⟨v,j,[],rfl,mk j m.yR (fun b q=>?_),.d _ _ (hD.mono hgg)⟩;rcases m.yS b q with h|h|h
  ·exact .inl h
  ·simp only at h;exact .inr ⟨AA,WG (m.kL b q) h3.size⟩
  simp at h
 have hgg:ES ok w ok w':=fun b q=>⟨q,hg.block b (hm.kL b q) Ap⟩
 exact⟨_,ok,[],rfl,mk ok (fun _ h=>h) (fun _ h=>.inl h),a1.mono hgg (.refl _)⟩
end Go.Proofs.YtldfpencimjjlaaGreat
end
section
namespace Go.Proofs
open Go.Proofs.YtldfpencimjjlaaGreat
open Go.Shelf
def Tryz.YX:Go.Shelf.Ren:=⟨fun |6=>403|15=>76|14=>407|28=>116|29=>117|20=>408|21=>409|22=>410|23=>411|24=>412|25=>413|26=>414|27=>415|46=>416|47=>148|48=>149|49=>417|50=>418|57=>419|n=>n,fun |22=>328|24=>330|25=>333|3=>3|39=>118|0=>0|53=>144|55=>146|4=>4|46=>138|45=>137|50=>42|5=>5|9=>9|66=>176|70=>180|76=>215|77=>216|n=>n,fun |n=>n⟩
def Tryz.ase:SlLaysF0.n6 Tryz.prog Tryz.YX:={
 mixed:=A8
 f6:=⟨Tryz.f403.name,BJ,Tryz.func403.trans (BI some A8)⟩
 f14:=⟨Tryz.f407.name,BJ,Tryz.func407.trans (BI some A8)⟩
 f15:=Tryz.func76.trans (BI some A8)
 f20:=⟨Tryz.f408.name,BJ,Tryz.func408.trans (BI some A8)⟩
 f21:=⟨Tryz.f409.name,BJ,Tryz.func409.trans (BI some A8)⟩
 f22:=⟨Tryz.f410.name,BJ,Tryz.func410.trans (BI some A8)⟩
 f23:=⟨Tryz.f411.name,BJ,Tryz.func411.trans (BI some A8)⟩
 f24:=⟨Tryz.f412.name,BJ,Tryz.func412.trans (BI some A8)⟩
 f25:=⟨Tryz.f413.name,BJ,Tryz.func413.trans (BI some A8)⟩
 f26:=⟨Tryz.f414.name,BJ,Tryz.func414.trans (BI some A8)⟩
 f27:=⟨Tryz.f415.name,BJ,Tryz.func415.trans (BI some A8)⟩
 f28:=Tryz.func116.trans (BI some A8)
 f29:=Tryz.func117.trans (BI some A8)
 f46:=⟨Tryz.f416.name,BJ,Tryz.func416.trans (BI some A8)⟩
 f47:=Tryz.func148.trans (BI some A8)
 f48:=Tryz.func149.trans (BI some A8)
 f49:=⟨Tryz.f417.name,BJ,Tryz.func417.trans (BI some A8)⟩
 f50:=⟨Tryz.f418.name,BJ,Tryz.func418.trans (BI some A8)⟩
 f57:=⟨Tryz.f419.name,BJ,Tryz.func419.trans (BI some A8)⟩
 t0:=Tryz.underlying0
 a0:=Tryz.isAgg0
 z0:=Tryz.sizeOf0
 v0:=Tryz.zeroValue0
 t3:=EF
 a3:=Zy
 z3:=aj
 v3:=ZK
 t4:=Ou
 a4:=gY
 z4:=kR
 v4:=kE
 t5:=rH
 a5:=uD
 z5:=uK
 v5:=sV
 t9:=H9
 a9:=nK
 z9:=oq
 v9:=vw
 t22:=Tryz.underlying328
 a22:=Tryz.isAgg328
 z22:=Tryz.sizeOf328
 v22:=Tryz.zeroValue328
 t25:=Tryz.underlying333
 a25:=Tryz.isAgg333
 z25:=Tryz.sizeOf333
 v25:=Tryz.zeroValue333
 t39:=aCP
 a39:=Tryz.isAgg118
 z39:=aGH
 v39:=aCr
 t45:=Tryz.underlying137
 a45:=Tryz.isAgg137
 z45:=Tryz.sizeOf137
 v45:=Tryz.zeroValue137
 t46:=Tryz.underlying138
 a46:=Tryz.isAgg138
 z46:=Tryz.sizeOf138
 v46:=Tryz.zeroValue138
 t50:=Tryz.underlying42
 a50:=Tryz.isAgg42
 z50:=Tryz.sizeOf42
 v50:=Tryz.zeroValue42
 t53:=aDL
 a53:=Tryz.isAgg144
 z53:=aEq
 v53:=aCk
 t55:=Tryz.underlying146
 a55:=Tryz.isAgg146
 z55:=Tryz.sizeOf146
 v55:=Tryz.zeroValue146
 t66:=Tryz.underlying176
 a66:=Tryz.isAgg176
 z66:=Tryz.sizeOf176
 v66:=Tryz.zeroValue176
 t70:=Tryz.underlying180
 a70:=Tryz.isAgg180
 z70:=Tryz.sizeOf180
 v70:=Tryz.zeroValue180
 t76:=Tryz.underlying215
 a76:=Tryz.isAgg215
 z76:=Tryz.sizeOf215
 v76:=Tryz.zeroValue215
 t77:=Tryz.underlying216
 a77:=Tryz.isAgg216
 z77:=Tryz.sizeOf216
 v77:=Tryz.zeroValue216 }
end Go.Proofs
end
