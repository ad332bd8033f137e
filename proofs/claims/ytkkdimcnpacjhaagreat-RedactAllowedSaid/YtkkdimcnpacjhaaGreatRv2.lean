/- Part 2 of what the laws' proofs lean on: states of the walk, typed functions of the program and their laws (short forms written by wip/shrink.py; no condition). -/
import Derived.Test.YtkkdimcnpacjhaaGreatRv1
set_option linter.defProp false
set_option linter.unnecessarySimpa false
set_option linter.unusedVariables false
set_option linter.unusedSimpArgs false
section
namespace Go.Proofs.YtkkdimcnpacjhaaGreat
open Go.RowKit
section
variable {P : Program} {o : Oper} {es : List Aq}
def aDf {ns:List (Operand×AV)} {v:AV} {es':List Aq} (e:TypeId) (size:Nat) (h:BN P o ((.const (.slice none 0 0),.aY es.length)::ns) (es++[.arr e size []]) v es'):BN P o ns es v es':=by
 intro C ok H a w Q u z;obtain⟨I,J⟩:=aFu u e size;refine Oper.wp_mono ?_ (h C ok _ a w Q I (fun n j=>?_))
 ·rintro a' w' ⟨v',ok',H',L,M,m,q,O⟩;exact⟨v',ok',H',L,M,(Names.push _ _).trans m,q,O⟩
 rcases EO.1 j with rfl|j
 ·exact J
 exact(z n j).mono (.refl _ _) (Names.push _ _)
def R.afh {ok:Nat→Prop} {w:World} {H:List BJ} {us:List Value} {v:Value} (h:R ok w H (.d (.agg (us.map .lit))) v):v=.agg us.toArray:=by
 cases h with
 |d _ _ h=>
  cases h with
  |agg _ vs hl _ h=>
   congr 1;apply YL
   ·simpa using hl
   intro i q J;have hi:i<(us.map D.lit).length:=A8
   have j:=h i hi;have m:i<us.length:=FU
   have z:(us.map D.lit).getD i D8=.lit (us[i]):=zD
   have I:vs.getD i undef=vs[i]:=by simp[Array.getD,q]
   rw[z,I]at j;generalize vs[i]=u at j;cases j;simp
structure fP (P:Program) (n:Nat) (t:TypeId) (us vs:List Value) (b:Bool):Prop where
 run:∀(d:Nat) (w:World),(Op.equalIn (d+n) t (.agg us.toArray) (.agg vs.toArray)).run P w=.ok b w
def LZ {t:TypeId} {cs:Array Value} {off:Nat} {v:Value} {size:Nat} (j:Dl P t false size) (h:cs[off]? =some v) (w:World):(part t cs off).run P w=.ok v w:=by
 simp[part,j.agg,h]
def VA (d:Nat) (xs ys:Array Value):List (TypeId×Nat)→Sem Bool
 | []=>pure true
 |f::j=>do
  let a ←part f.1 xs f.2
  let b ←part f.1 ys f.2
  let r ←Op.equalIn d f.1 a b
  if(!r)=true then pure false else VA d xs ys j
def aRY (d:Nat) (xs ys:Array Value):∀(j:List Field),j.all (fun f=>f.name != "_")=true→Op.eqFields d xs ys j=VA d xs ys (j.map fun f=>(f.type,f.offset))
 | [],_=>rfl
 |f::j,h=>by
  simp only[qY,CV,bne_iff_ne,ne_eq]at h;simp only[Op.eqFields,I7,VA,ne_eq,h.1,not_false_eq_true,J5,aRY d xs ys j h.2]
def zL {d:Nat} {t:TypeId} {xs ys:Array Value} {l:List (TypeId×Nat)} {b:Bool} {w:World} (j:P.underlying t=some (.struct (P.fieldsOf t))) (m:P.stoodInHeld t=false) (q:(P.fieldsOf t).toList.all (fun f=>f.name != "_")=true)
 (hl:(P.fieldsOf t).toList.map (fun f=>(f.type,f.offset))=l) (h:(VA d xs ys l).run P w=.ok b w):(Op.equalIn (d+1) t (.agg xs) (.agg ys)).run P w=.ok b w:=by
 rw[run_equalIn_struct w d t xs ys j m,aRY _ _ _ _ q,hl,h]
def yP (d:Nat) (xs ys:Array Value) (w:World):(VA d xs ys []).run P w=.ok true w:=by simp[VA]
def Un {d:Nat} {xs ys:Array Value} {t:TypeId} {off:Nat} {j:List (TypeId×Nat)} {a b:Value} {r rs:Bool} {w:World} (ha:(part t xs off).run P w=.ok a w) (m:(part t ys off).run P w=.ok b w)
 (q:(Op.equalIn d t a b).run P w=.ok r w) (hs:(VA d xs ys j).run P w=.ok rs w):(VA d xs ys ((t,off)::j)).run P w=.ok (r&&rs) w:=by
 unfold VA;simp only[Ep,ha,m,q,F5];cases r<;>simp[hs]
def asO {t t':TypeId} {x y:Operand} {n:Nat} (us vs:List Value) {b:Bool} (h:fP P n t us vs b) (hd:n≤10000) (z:P.eqGuardType P.depth t=false) (I:o.op=.binOp .eql t x y t'):
 BN P o [(x,.d (.agg (us.map .lit))),(y,.d (.agg (vs.map .lit)))] es (.d (DX b)) es:=
 .pure fun _ _ a w _ _ m=>⟨.bool b,by
  have q:=(EL m).1.afh;have u:=(EL m).2.afh;simp only at q u;have j:(eqGuard .eql t x y (.agg us.toArray) (.agg vs.toArray)).run P w=.ok () w:=by simp[eqGuard,z]
  simp only[execOp,I,q,u,Ep,j,F5,Fa,run_eql_struct,(by have :=h.run (10000-n) w;rwa [Nat.sub_add_cancel hd]at this:(Op.equalIn 10000 t (.agg us.toArray) (.agg vs.toArray)).run P w=.ok b w)],.d _ _ (.lit _)⟩
def aLo {t t':TypeId} {x y:Operand} {n:Nat} (us vs:List Value) {b:Bool} (h:fP P n t us vs b) (hd:n≤10000) (z:P.eqGuardType P.depth t=false) (I:o.op=.binOp .neq t x y t'):
 BN P o [(x,.d (.agg (us.map .lit))),(y,.d (.agg (vs.map .lit)))] es (.d (DX (!b))) es:=
 .pure fun _ _ a w _ _ m=>⟨.bool (!b),by
  have q:=(EL m).1.afh;have u:=(EL m).2.afh;simp only at q u;have j:(eqGuard .neq t x y (.agg us.toArray) (.agg vs.toArray)).run P w=.ok () w:=by simp[eqGuard,z]
  simp only[execOp,I,q,u,Ep,j,F5,Fa,run_neq_struct,(by have :=h.run (10000-n) w;rwa [Nat.sub_add_cancel hd]at this:(Op.equalIn 10000 t (.agg us.toArray) (.agg vs.toArray)).run P w=.ok b w)],.d _ _ (.lit _)⟩
def QC (l:List Int):ByteArray:=l.foldl (fun r n=>r.push (UInt8.ofNat n.toNat)) ByteArray.empty
def akc {ok:Nat→Prop} {w:World} {H:List BJ} {l:List Int} {j:List Value} (h:FQ ok w H (flat (l.map Ea)) j):j=l.map (.int .u8):=by
 rw[aCw]at h;apply qP
 ·simpa using h.1
 intro i u z;have hi:i<(l.map fun n=>AV.d (Ea n)).length:=SS
 have q:=(h.2 i hi).2;have m:i<l.length:=FU
 have I:(l.map fun n=>AV.d (Ea n)).getD i .junk=.d (Ea l[i]):=zD
 have J:j.getD i undef=j[i]:=by simp[List.getD,u]
 rw[I,J]at q;have :=q.lit;simpa using this
def aob {w:World} {v:Value} {m:Nat} {l:List Int} (h:Ue w v m 1 (l.map (.int .u8))):(Conv.bytesToString v).run P w=.ok (.string (QC l)) w:=by
 rcases h.at_ with⟨ad,c,rfl,j⟩|⟨c,rfl,q⟩
 ·refine run_bytesToString w ad m c l ?_;have hl:=h.len;have :=aH2 (P:=P) w ad (l.map (Value.int .u8)) j;rw[C9,dL]at hl;rw[C9,hl]at this;exact this
 have hl:=h.len;rw[q,Nat.zero_mul,C9]at hl;rw[GN hl];simp[Conv.bytesToString,QC]
def Value.isSlice:Value→Bool
 | .slice _ _ _=>true
 |_=>false
def amy {w:World} {v:Value} {m size:Nat} {j:List Value} (h:Ue w v m size j):Value.isSlice v=true:=by
 rcases h.at_ with⟨_,_,rfl,_⟩|⟨_,rfl,_⟩<;>rfl
def ah1 {s t e:TypeId} {v:Value} {w:World} {r:ByteArray} (hs:P.underlying s=some (.slice e)) (j:P.underlying e=some (.int .u8)) (m:P.underlying t=some .string) (q:Value.isSlice v=true)
 (h:(Conv.bytesToString v).run P w=.ok (.string r) w):(convert s t v).run P w=.ok (.string r) w:=by
 cases v<;>simp[Value.isSlice]at q
 simp[convert,underlying,hs,j,m,h]
def akJ {s t e:TypeId} {x:Operand} {l:List Int} (hs:P.underlying s=some (.slice e)) (I:P.underlying e=some (.int .u8)) (J:P.underlying t=some .string) (L:o.op=.convert s t x):
 BN P o [(x,.d (BG Ea l))] es (.d (DU (QC l))) es:=
 .pure fun ok H a w _ _ M=>by
  have m:=Jk M;simp only at m;generalize O:a.eval x=v at m;refine⟨.string (QC l),?_,.d _ _ (.lit _)⟩;cases m with
  |d _ _ h=>
   obtain⟨z,j,q⟩:=dK H h (size:=1) (fun y U=>by obtain⟨n,_,rfl⟩:=FH.1 U;rfl);obtain rfl:=akc q;have u:=amy j;simp[execOp,L,O,ah1 hs I J u (aob j)]
def OD {fn:Fn} {firsts j:Array Operand} {fi ca:List AV} (hl:firsts.toList.length=fi.length) (u:j.toList.length=ca.length) (I:o.op=.makeFunc fn firsts j):
 BN P o (Em firsts.toList fi++Em j.toList ca) es (.fn fn fi ca) es:=
 .pure fun ok H a w _ _ m=>by
  have key:∀(xs:Array Operand) (vs:List AV),xs.toList.length=vs.length→(∀n∈Em xs.toList vs,R ok w H n.2 (a.eval n.1))→∀i,i<vs.length→R ok w H (vs.getD i .junk) ((xs.map a.eval).getD i undef):=by
   intro xs vs hl m i hi;have z:=iy hl m i hi
   have q:i<xs.size:=by have :xs.size=vs.length:=Ko
                        omega
   have J:(xs.toList.map a.eval).getD i undef=(xs.map a.eval).getD i undef:=by simp[List.getD,Array.getD,q]
   rw[J]at z;exact z
  refine⟨.func fn (firsts.map a.eval) (j.map a.eval),by simp[execOp,I,Instr.makeFunc],.fn fn fi ca _ _ Ko LJ (key _ _ hl fun n h=>m n (by simp[h])) (key _ _ u fun n h=>m n (by simp[h]))⟩
def aID :∀{xs:List Operand} {vs:List AV} {ys:List Operand} {us:List AV},xs.length=vs.length→Em (xs++ys) (vs++us)=Em xs vs++Em ys us
 | [],[],_,_,_=>rfl
 | [],_::_,_,_,h=>Gv
 |_::_,[],_,_,h=>Gv
 |x::xs,v::vs,ys,us,h=>by simp[Em,aID (xs:=xs) (vs:=vs) JU]
def aHX {ok:Nat→Prop} {w:World} {H:List BJ} {a:Act}:∀{us:List Value} {vs:List AV},us.length=vs.length→(∀i,i<vs.length→R ok w H (vs.getD i .junk) (us.getD i undef))→∀n∈Em (us.map Operand.const) vs,R ok w H n.2 (a.eval n.1)
 | [],[],_,_,n,j=>by simp[Em]at j
 | [],_::_,h,_,_,_=>Gv
 |_::_,[],h,_,_,_=>Gv
 |u::us,v::vs,hl,h,n,j=>by
  simp only[I7,Em,EO]at j;rcases j with rfl|j
  ·have :=h 0 Am;simp at this;exact this
  exact aHX (us:=us) (vs:=vs) Ko (fun i hi=>by simpa using h (i+1) FU) n j
def ach {f:FuncId} {x:Operand} {ops:Array Operand} {ats:Array TypeId} (srcs:List DJ) {fi ca dX fV:List AV} {E E':List Aq} {q:AV} (J:Ap P f fV E q E') (L:DV P f=true) (M:Qs srcs es E E'=true) (hE:rQ srcs es E)
 (ha:Kz srcs (fi++dX++ca) fV) (hl:ops.toList.length=dX.length) (O:o.op=.call { callee:=.value x,args:=ops,argTypes:=ats }):
 BN P o ((x,.fn (.func f) fi ca)::Em ops.toList dX) es (q.up srcs es.length) (KU srcs es E'):=by
 intro C ok H a w Q U I;have z:=I (x,.fn (.func f) fi ca) Am;simp only at z;generalize Y:a.eval x=v at z;cases z with
 |fn _ _ _ vs us m u Z h2=>
  unfold Oper.wp
  have he:(execOp a.eval o).run P w=.ok (.enter f ((vs++ops.map a.eval)++us)) w:=by
   have :=RI L (vs++ops.map a.eval++us) w;rw[Array.append_assoc]at this;simp[execOp,O,resolve,Y,Deferred.ofValue,invoke,this]
  rw[he,ZE]
  have e:vs++ops.map a.eval++us=((vs.toList.map Operand.const++ops.toList++us.toList.map Operand.const).map a.eval).toArray:=by
   apply aKj;simp[cu,Act.eval]
  rw[e];have l1:(vs.toList.map Operand.const).length=fi.length:=Xp
  refine(aP6 U srcs J M hE ha (by simp at hl;simp[m,u,hl]) (a:=a) ?_).mono ?_
  ·rw[aID (by simp at hl;simp[m,hl]),aID l1];intro n j;simp only[Fz]at j;rcases j with(j|j)|j
   ·exact aHX Xp (fun i hi=>by have :=Z i hi;simpa[List.getD,Gj]using this) n j
   ·exact I n (Ez _ j)
   exact aHX LJ (fun i hi=>by have :=h2 i hi;simpa[List.getD,Gj]using this) n j
  rintro e w' ⟨v,ok',H',rfl,h3,h4,h5,h6⟩;exact⟨v,ok',H',rfl,h3,h4,h5,h6⟩
def R.dfn {ok:Nat→Prop} {w:World} {H:List BJ} {f:Fn} {fi ca:List D} {v:Value} (h:R ok w H (.d (.fn f fi ca)) v):R ok w H (.fn f (fi.map .d) (ca.map .d)) v:=by
 cases h with
 |d _ _ h=>
  cases h with
  |fn _ _ _ vs us q u z I=>
   refine .fn f _ _ vs us MV LJ (fun i hi=>?_) (fun i hi=>?_)
   ·have j:i<fi.length:=FU
    have m:(fi.map AV.d).getD i .junk=.d (fi.getD i D8):=aEY
    rw[m];exact .d _ _ (z i j)
   have j:i<ca.length:=FU
   have m:(ca.map AV.d).getD i .junk=.d (ca.getD i D8):=aEY
   rw[m];exact .d _ _ (I i j)
def aiL {f:FuncId} {x:Operand} {ops:Array Operand} {ats:Array TypeId} (srcs:List DJ) {fi ca:List D} {dX fV:List AV} {E E':List Aq} {m:AV} (u:Ap P f fV E m E') (z:DV P f=true) (I:Qs srcs es E E'=true) (hE:rQ srcs es E)
 (ha:Kz srcs (fi.map .d++dX++ca.map .d) fV) (hl:ops.toList.length=dX.length) (J:o.op=.call { callee:=.value x,args:=ops,argTypes:=ats }):
 BN P o ((x,.d (.fn (.func f) fi ca))::Em ops.toList dX) es (m.up srcs es.length) (KU srcs es E'):=by
 intro C ok H a w Q L q;refine ach (fi:=fi.map .d) (ca:=ca.map .d) srcs u z I hE ha hl J C ok H a w Q L (fun n j=>?_);rcases EO.1 j with rfl|j
 ·exact R.dfn (q (x,.d (.fn (.func f) fi ca)) Am)
 exact q n (Ez _ j)
def Rj (S:List DJ) (es:List Aq):List DJ→List Aq→Prop
 |s::srcs,e::E=>(match s with | .ent k=>es[k]? =some (e.up S es.length)| .nil sz=>∃t,e=.arr t sz [])∧Rj S es srcs E
 | [],_=>True
 |_::_,[]=>False
def KE {S:List DJ} {es:List Aq} {k:Nat} {e:Aq} {srcs:List DJ} {E:List Aq} (h:es[k]? =some (e.up S es.length)) (hs:Rj S es srcs E):Rj S es (.ent k::srcs) (e::E):=⟨h,hs⟩
def aPx {S:List DJ} {es:List Aq}:∀{srcs:List DJ} {E:List Aq},Rj S es srcs E→∀(i:Nat) (s:DJ),srcs[i]? =some s→match s with | .ent k=>(E[i]?).map (Aq.up S es.length)=es[k]? | .nil sz=>∃e,E[i]? =some (.arr e sz [])
 | [],_,_,i,s,hs=>by simp at hs
 |_::_,[],h,_,_,_=>h.elim
 |s::srcs,e::E,h,0,j,hs=>by
  simp at hs;subst hs;have m:=h.1;cases s with
  |ent k=>simp only at m;simp[m]
  |nil sz=>obtain⟨t,rfl⟩:=m;exact⟨t,rfl⟩
 |s::srcs,e::E,h,i+1,j,hs=>by
  have :=aPx h.2 i j nZ;cases j with
  |ent k=>simpa using this
  |nil sz=>simpa using this
def aEg {es:List Aq} {srcs:List DJ} {E:List Aq} (h:Rj srcs es srcs E):rQ srcs es E:=aPx h
def aNs {f:FuncId} {ops:Array Operand} {ats:Array TypeId} (srcs:List DJ) {dX fV:List AV} {E E':List Aq} {j res':AV} (m:Ap P f fV E j E') (q:DV P f=true) (u:Qs srcs es E E'=true) (hE:Rj srcs es srcs E) (ha:Kz srcs dX fV) (hl:ops.toList.length=dX.length)
 (z:res'=j.up srcs es.length) (I:o.op=.call { callee:=.value (.func f),args:=ops,argTypes:=ats }):BN P o (Em ops.toList dX) es res' (KU srcs es E'):=z▸abm srcs m q u (aEg hE) ha hl I
def alQ {f:FuncId} {x:Operand} {ops:Array Operand} {ats:Array TypeId} (srcs:List DJ) (fi ca:List AV) {dX fV:List AV} {E E':List Aq} {j res':AV} (m:Ap P f fV E j E') (q:DV P f=true) (u:Qs srcs es E E'=true) (hE:Rj srcs es srcs E)
 (ha:Kz srcs (fi++dX++ca) fV) (hl:ops.toList.length=dX.length) (z:res'=j.up srcs es.length) (I:o.op=.call { callee:=.value x,args:=ops,argTypes:=ats }):
 BN P o ((x,.fn (.func f) fi ca)::Em ops.toList dX) es res' (KU srcs es E'):=z▸ach srcs m q u (aEg hE) ha hl I
def ao9 {f:FuncId} {x:Operand} {ops:Array Operand} {ats:Array TypeId} (srcs:List DJ) (fi ca:List D) {dX fV:List AV} {E E':List Aq} {j res':AV} (m:Ap P f fV E j E') (q:DV P f=true) (u:Qs srcs es E E'=true) (hE:Rj srcs es srcs E)
 (ha:Kz srcs (fi.map .d++dX++ca.map .d) fV) (hl:ops.toList.length=dX.length) (z:res'=j.up srcs es.length) (I:o.op=.call { callee:=.value x,args:=ops,argTypes:=ats }):
 BN P o ((x,.d (.fn (.func f) fi ca))::Em ops.toList dX) es res' (KU srcs es E'):=z▸aiL srcs m q u (aEg hE) ha hl I
end
structure Turns (v:Value) (w w':World):Prop where
 os:w'.os=w.os
 tape:w'.tape=w.tape
 output:w'.output=w.output
 size:w.heap.size≤w'.heap.size
 block:∀c,c<w.heap.size→Cb v≠some c→w'.heap[c]? =w.heap[c]?
def Turns.refl (v:Value) (w:World):Turns v w w:=⟨rfl,rfl,rfl,Dc _,fun _ _ _=>rfl⟩
def Turns.axc {g o n c:Nat} {s:Option Nat} {w w':World} (h:w.grownBy w' (some g)):Turns (.slice (some ⟨g,o,s⟩) n c) w w':=
 ⟨h.os,h.tape,h.output,h.size,fun k m j=>h.block k m (fun e=>j (by cases e;rfl))⟩
def DF.afi {ok:Nat→Prop} {w:World} {u v:Value} (h:DF ok w (.lit u) v):v=u:=by cases h;rfl
def aJn :∀(l:List Int),flat (l.map Ac)=l.map fun n=>.d (Ac n)
 | []=>rfl
 |n::l=>by rw[I7,Uf,aJn l];rfl
def aE4 {ok:Nat→Prop} {w:World} {H:List BJ} {h:BJ} {e:TypeId} {l:List Int}:EY ok w H h (.arr e 1 (List.map Ac l))↔h.size=1∧lQ w e 1 h.v l.length (l.map (.int .i64)):=by
 constructor
 ·rintro⟨q,_,xs,m,u,z⟩;refine⟨q,?_⟩;rw[C9]at m
  have :xs=l.map (.int .i64):=by
   rw[aJn]at u z;rw[C9]at u;refine qP (by simp[u]) fun i hi L=>?_;have j:i<l.length:=A8
   have I:=(z i MK).2;simp only[List.getD,Ia,Ce j,Ho,MH,Ce hi]at I;cases I with |d _ _ h=>rw[DF.afi h];simp
  rw[←this];exact m
 rintro⟨q,m⟩;refine⟨q,fun x J=>?_,l.map (.int .i64),by rw[C9];exact m,?_⟩
 ·obtain⟨n,_,rfl⟩:=FH.1 J;rfl
 rw[aJn];refine⟨Am,fun i hi=>?_⟩;have j:i<l.length:=FU
 simp only[List.getD,Ia,Ce j,Ho,MH];exact⟨rfl,.d _ _ (.lit _)⟩
def acr {j:Array Value} (hs:j.size=1):j= #[j.getD 0 undef]:=by
 refine YL (by simp[hs]) fun i q m=>?_;simp at m;subst m;simp[Array.getD,hs]
def Ap.azs {P:Program} {f:FuncId} {e:TypeId} {l r:List Int}
 (h:∀(v:Value) (w:World),lQ w e 1 v l.length (l.map (.int .i64))→Calls P f #[v] w fun x w'=>x=.returned (.tuple #[])∧lQ w' e 1 v r.length (r.map (.int .i64))∧Turns v w w'):
 Ap P f [.aY 0] [.arr e 1 (List.map Ac l)] (.eF []) [.arr e 1 (List.map Ac r)]:=by
 intro ok X H w Z z hs ha;have h0:=ha 0 BK;rw[acr hs];obtain⟨hd,M,O⟩:=FV z.ent z.hlen (k:=0) rfl;obtain hv:=OE h0 M;rw[hv];obtain⟨hz,U⟩:=aE4.1 O;refine(h hd.v w U).mono ?_;rintro x w' ⟨rfl,I,u⟩;have m:=fun b J=>z.blk 0 _ hd b rfl rfl M J
 have hg:=z.change (ok':=ok) (H':=H) (w':=w') (es':=[.arr e 1 (List.map Ac r)]) (fun c=>Cb hd.v=some c) u.os u.tape u.output u.size u.block (fun c hc _=>⟨(m c hc).1,(m c hc).2.2⟩) (fun _ h=>h) (fun _ h=>.inl h) (.refl _) z.hlen (by
  intro k e' h' j L
  match k,j with
  |0,j=>
   simp at j;subst j;rw[M]at L;obtain rfl:=CG L;refine .inr ⟨aE4.2 ⟨hz,I⟩,fun _ b J=>⟨(m b J).1,Vh (m b J).2.1 u.size,(m b J).2.2,fun k' e'' h'' Y q=>?_⟩⟩
   match k',q with
   |0,_=>exact absurd rfl Y
   |k'+1,q=>simp at q
  |k+1,j=>simp at j)
 exact⟨_,ok,H,rfl,hg.1,.eF [] #[] rfl (fun i hi=>MO)⟩
def Ap.turned {P:Program} {f:FuncId} {e:TypeId} {l r:List Int}
 (h:∀(v:Value) (w:World),lQ w e 1 v l.length (l.map (.int .i64))→Calls P f #[v] w fun x w'=>∃v',x=.returned v'∧lQ w' e 1 v' r.length (r.map (.int .i64))∧Turns v w w'∧∀g,Cb v'=some g→Cb v=some g∨w.heap.size≤g):
 Ap P f [.aY 0] [.arr e 1 (List.map Ac l)] (.aY 1) [.dead,.arr e 1 (List.map Ac r)]:=by
 intro ok X H w L u hs ha;have U:=ha 0 BK;rw[acr hs];obtain⟨hd,M,I⟩:=FV u.ent u.hlen (k:=0) rfl;obtain Y:=OE U M;rw[Y];obtain⟨hz,J⟩:=aE4.1 I;refine(h hd.v w J).mono ?_;rintro x w' ⟨v',rfl,j,m,q⟩;have z:=u.turn (e:=.arr e 1 (List.map Ac r)) (h':=⟨v',1⟩) (w':=w') (k:=0) rfl rfl M m.os m.tape m.output m.size m.block (fun g z=>⟨jH j z,q g z⟩) (fun _=>aE4.2 ⟨rfl,j⟩);refine⟨v',ok,H++[⟨v',1⟩],rfl,z.1,?_⟩;have hl:H.length=1:=u.hlen;have O:(H++[(⟨v',1⟩:BJ)])[1]? =some ⟨v',1⟩:=by rw[←hl];simp
 rcases j.2 with⟨rfl,_⟩|⟨g,cap,Z,rfl,_⟩
 ·exact .aY 1 _ _ _ 1 O
 exact .aY 1 _ _ _ 1 O
def Ap.plain {P:Program} {f:FuncId} {vs:List Value} {j:AV} {v:Value} (M:∀ok w H,R ok w H j v)
 (h:∀w,Calls P f vs.toArray w fun x w'=>x=.returned v∧Below w.heap.size w w'):Ap P f (vs.map fun u=>.d (.lit u)) [] j []:=by
 intro ok X H w m J hs ha
 have e:m=vs.toArray:=by
  refine YL nZ fun i O U=>?_;have q:i<vs.length:=Yy
  have L:=ha i MV;simp only[List.getD,Ia,Ce q,Ho,MH]at L;cases L with |d _ _ h=>have :=DF.afi h;simpa[Array.getD,O]using this
 rw[e];refine(h w).mono ?_;rintro x w' ⟨rfl,z⟩
 have Y:=J.change (ok':=ok) (H':=H) (w':=w') (es':=[]) (fun _=>False) z.os z.tape z.output z.size (fun c Z _=>z.block c Z) (fun _ h=>h.elim) (fun _ h=>h) (fun _ h=>.inl h) (.refl _) J.hlen (by
  intro k e' h' I hh'
  simp at I)
 exact⟨v,ok,H,rfl,Y.1,M _ _ _⟩
def Chain.avJ {P:Program} {ops:Array Oper} {l M:List Oper} {σ σ':Aj} (h:Chain P ops l σ σ') {ro:Option Nat} {C:Dw} {H0:List BJ} {Q:Exit→Act→World→Prop}:
 ∀{ok:Nat→Prop} {H:List BJ} {a:Act} {w:World},Holds C ok H σ a w→Names H0 H→(∀ok' H' a' w',Holds C ok' H' σ' a' w'→Names H0 H'→wpListIn (IE ro) 0 P ops Q M a' w')→wpListIn (IE ro) 0 P ops Q (l++M) a w:=by
 induction h with
 |nil σ=>intro ok H a w j O u;exact u ok H a w j O
 | @op o rest σ σ' ns x d U O J hd k L=>
   intro ok H a w j m u;subst hd;rw[V7];unfold wpListIn;rw[CJ (OH j J)];refine Pm ?_ (U.inR ro C ok H a w Q j.mem (fun n z=>Ou O n z▸j.get n.1));rintro a' w' ⟨v,ok',H',rfl,I,q,Y,Z⟩;exact L (j.put o.dst I q Y Z) (m.trans q) u
 | @oe o rest σ σ' ns x es' d E U he O J hd k L=>
   intro ok H a w j m u;subst hd;subst he;rw[V7];unfold wpListIn;rw[CJ (OH j J)];refine Pm ?_ (U.inR ro C ok H a w Q j.mem (fun n z=>Ou O n z▸j.get n.1));rintro a' w' ⟨v,ok',H',rfl,I,q,Y,Z⟩;exact L (j.put o.dst I q Y Z) (m.trans q) u
 | @skip o rest σ σ' d J hd k L=>
   intro ok H a w j m u;subst hd;rw[V7];unfold wpListIn;rw[CU aU];exact⟨fun _ _=>trivial,L (j.put o.dst (.refl _ _) (.refl _) j.mem (.d _ _ (.lit _))) m u⟩
 | @any o rest σ σ' x d hs hd k L=>
   intro ok H a w j m u;subst hd;rw[V7];unfold wpListIn;rcases hs.1 with⟨ns,U,O,_,J⟩|⟨rfl,_,J⟩
   ·rw[CJ (OH j J)];refine Pm ?_ (U.inR ro C ok H a w Q j.mem (fun n z=>Ou O n z▸j.get n.1));rintro a' w' ⟨v,ok',H',rfl,I,q,Y,Z⟩;exact L (j.put o.dst I q Y Z) (m.trans q) u
   rw[CU aU];exact⟨fun _ _=>trivial,L (j.put o.dst (.refl _ _) (.refl _) j.mem (.d _ _ (.lit _))) m u⟩
 | @ac1 o rest σ σ' x E bar d hs hd k L=>
   intro ok H a w j m u;subst hd;rw[V7];unfold wpListIn;rcases hs.1 with⟨ns,U,O,_,J⟩|⟨rfl,rfl,J⟩
   ·rw[CJ (OH j J)];refine Pm ?_ (U.inR ro C ok H a w Q j.mem (fun n z=>Ou O n z▸j.get n.1));rintro a' w' ⟨v,ok',H',rfl,I,q,Y,Z⟩;exact L (j.put o.dst I q Y Z) (m.trans q) u
   rw[CU aU];exact⟨fun _ _=>trivial,L (j.put o.dst (.refl _ _) (.refl _) j.mem (.d _ _ (.lit _))) m u⟩
 |conv σ2 hc k L=>
  intro ok H a w j m u;obtain⟨ok',hh'⟩:=hc C ok H a w j;exact L hh' m u
def AP.atY {P:Program} {σ z:Aj} {Q:Exit→Aj→Prop} {id:Nat} {ops:Array Oper} {q:Oper} {x:Operand} {t t' e d:Nat} {es:List D} (k:Nat) (j:ops.toList.drop k=[q]) (h:Chain P ops (ops.toList.take k) σ z)
 (M:q.op=.binOp .eql t x (.const (.slice none 0 0)) t') (hd:q.dst=some d) (O:q.guard=none) (U:P.underlying t=some (.slice e)) (Y:z.get x=.d (.sl es)) (Z:∀b,(es≠[]→b=false)→Q .normal (z.qG (some d) (.d (.lit (.bool b))))):AP P (.region id ops false) σ Q:=by
 refine⟨fun ro _ C ok H a w hh=>aIm ?_⟩;rw[←Z4 k ops.toList,j];refine h.avJ hh (.refl H) fun ok' H' a' w' I _=>?_;have u:=Y▸I.get x
 obtain⟨b,hb,hr⟩:∃b,(es≠[]→b=false)∧(execOp a'.eval q).run P w'=.ok (.value (.bool b)) w':=by
  cases u with
  |d _ _ u=>
   generalize m:a'.eval x=v at u
   have key:∀(ad:Option Addr) (n c:Nat),v=.slice ad n c→(execOp a'.eval q).run P w'=.ok (.value (.bool ad.isNone)) w':=fun ad n c J=>by
    have L:(eqGuard .eql t x (.const (.slice none 0 0)) (.slice ad n c) (.slice none 0 0)).run P w'=.ok () w':=by simp[eqGuard]
    have e0:a'.eval (.const (.slice none 0 0))=.slice none 0 0:=rfl;rw[J]at m;simp only[execOp,M,m,e0,Ep,L,F5,Lib.run_eql_slice_nil w' t e ad n c 0 0 U,Fa]
   cases u with
   |sl0 ad cap=>exact⟨ad.isNone,fun h=>absurd rfl h,key _ _ _ rfl⟩
   |sl es b off cap size=>exact⟨false,fun _=>rfl,key _ _ _ rfl⟩
 unfold wpListIn;rw[CJ (by unfold Region.wanted;rw[O])];unfold Oper.wpIn;rw[eX _ _ _ (by rw[M];intro c h;cases h),hr,Oper.uponIn_value];refine⟨fun _ _=>trivial,?_⟩;unfold wpListIn;exact⟨ok',H',_,by rw[hd];exact I.put (some d) (.refl _ _) (.refl _) I.mem (.d _ _ (.lit _)),Z b hb⟩
def uz {P:Program} {σ m:Aj} {Q:Exit→Aj→Prop} {id:Nat} {ops:Array Oper} {y:Code} {q:Oper} {x:Operand} {t t' e d:Nat} {es:List D} (k:Nat) (j:ops.toList.drop k=[q]) (h:Chain P ops (ops.toList.take k) σ m)
 (z:q.op=.binOp .eql t x (.const (.slice none 0 0)) t') (hd:q.dst=some d) (I:q.guard=none) (J:P.underlying t=some (.slice e)) (L:m.get x=.d (.sl es)) (M:∀b,(es≠[]→b=false)→AP P y (m.qG (some d) (.d (.lit (.bool b)))) Q):AP P (.seq (.region id ops false) y) σ Q:=
 AP.seq (fun s=>∃b,(es≠[]→b=false)∧s=m.qG (some d) (.d (.lit (.bool b)))) (AP.atY k j h z hd I J L fun b u=>⟨b,u,rfl⟩) (by rintro _ ⟨b,u,rfl⟩;exact M b u)
def sJ {α:Type} {l:List α} {e:α→D} (h:List.map e l≠[]→true=false):l=[]:=by
 cases l with
 |nil=>rfl
 |cons a l=>exact absurd (h Am) BK
def aOt {α:Type} {p:Nat→α→Prop}:∀n,(∀i,i<n→∃x,p i x)→∃l:List α,l.length=n∧∀i (h:i<l.length),p i l[i]
 |0,_=>⟨[],rfl,fun i h=>Gv⟩
 |n+1,h=>by
  obtain⟨l,j,m⟩:=aOt n (fun i hi=>h i A8);obtain⟨x,q⟩:=h n A8;refine⟨l++[x],gu,fun i hi=>?_⟩;simp at hi;by_cases e:i<l.length
  ·rw[aG5 e];exact m i e
  have :i=n:=A8
  subst this;rw[acI A8];simpa[j]using q
def pieces :List Nat→Nat→List Value→List Value
 | [],_,_=>[]
 |n::r,o,cs=>(cs.drop o).take n++pieces r (o+n) cs
def pieces_eq :∀(ns:List Nat) (o:Nat) (cs:List Value),cs.length=o+ns.sum→pieces ns o cs=cs.drop o
 | [],o,cs,h=>by simp at h;simp[pieces,h]
 |n::r,o,cs,h=>by
  simp only[List.sum_cons]at h;unfold pieces;rw[pieces_eq r (o+n) cs A8,←aHS,Z4]
def EI (w:World) (m:List D) (cs:List Value):Prop:=cs.length=m.length∧∀j,j<m.length→(m.getD j D8).leaf=true∧DF (fun b=>b<w.heap.size) w (m.getD j D8) (cs.getD j undef)
def EI.nil (w:World):EI w [] []:=⟨rfl,fun j h=>Gv⟩
def EI.append {w:World} {m es:List D} {cs us:List Value} (h:EI w m cs) (k:EI w es us):EI w (m++es) (cs++us):=by
 refine⟨by simp[h.1,k.1],fun j I=>?_⟩;by_cases e:j<m.length
 ·have q:(m++es).getD j D8=m.getD j D8:=aFr
  have u:(cs++us).getD j undef=cs.getD j undef:=by simp[List.getD,Fv (show j<cs.length by rw[h.1];exact e)]
  rw[q,u];exact h.2 j e
 have z:j-m.length<es.length:=Rf
 have q:(m++es).getD j D8=es.getD (j-m.length) D8:=by simp[List.getD,J3 (TN e)]
 have u:(cs++us).getD j undef=us.getD (j-m.length) undef:=by
  have J:=h.1;simp only[List.getD,J3 (show cs.length≤j by omega),J]
 rw[q,u];exact k.2 _ z
section
variable {H : Type} {enc : TypeId × Value → H} {w : World} {base : Nat} {spare : Nat → Bool} {held : Bool} {P : Program} {t : TypeId}
def QU {α:Type} (enc:TypeId×Value→H) (P:Program) (w:World) (base:Nat) (spare:Nat→Bool) (held:Bool) (t:TypeId) (e:α→D) (V:α→Prop):Prop:=
 ∀Ag cs x,DataW.trod enc P w base spare held Ag t cs=some x→∃a:α,V a∧EI w (e a).cells cs
def EI.one {w:World} {x:D} {v:Value} (m:x.cells=[x]) (hl:x.leaf=true) (h:DF (fun b=>b<w.heap.size) w x v):EI w x.cells [v]:=by
 rw[m];refine⟨rfl,fun j q=>?_⟩
 match j,q with
 |0,_=>exact⟨hl,h⟩
def Yj {α:Type} {e:TypeId} {sz:Nat} {U:α→D} {V:α→Prop} (ht:P.underlying t=some (.slice e)) (hc:P.cellsOf e=sz) (Z:0<sz) (hsz:∀a,(U a).cells.length=sz) (hR:QU enc P w base spare held e U V):
 QU enc P w base spare held t (BG U) (fun l=>l.length≤maxLen∧∀x∈l,V x):=by
 intro Ag cs x h;rcases Go.Deep.open_slice ht h with⟨rfl, -⟩|⟨a,len,cap,m,n,D,Pl,rfl, -,hl,hm,hmm, -,hx⟩
 ·exact⟨[],⟨EK _,fun x h=>Gv⟩,.one rfl rfl (.sl0 none 0)⟩
 have hlm:len≤m:=by rw[hmm];split<;>omega
 rw[hc]at hx
 have hex:∀i,i<len→∃y:α,V y∧∃z:List Value,w.cells? base (a.add (i*sz)) sz=some z∧EI w (U y).cells z:=by
  intro i hi;obtain⟨z,Y,h2⟩:=hx i A8;obtain⟨y,h3,I⟩:=hR _ _ _ h2;exact⟨y,h3,z,Y,I⟩
 obtain⟨l,hlen,hall⟩:=aOt len hex;subst hlen;refine⟨l,⟨A8,fun x hx=>?_⟩,?_⟩
 ·obtain⟨i,hi,rfl⟩:=Hf hx;exact(hall i hi).1
 rcases Xv l.length with h0|hlp
 ·have :l=[]:=GN h0;subst this;exact .one rfl rfl (.sl0 _ _)
 have q:∀i,(hi:i<l.length)→∀j,j<sz→∃u,w.cell? ((a.add (i*sz)).add j)=some u∧((U l[i]).cells.getD j D8).leaf=true∧DF (fun b=>b<w.heap.size) w ((U l[i]).cells.getD j D8) u:=by
  intro i hi j hj;obtain⟨-,z,Y,h2⟩:=hall i hi;obtain⟨-,h6,h5⟩:=World.cells?_some Y;have hcl:z.length=sz:=by rw[h2.1,hsz]
  have h7:=h5 j hj;rw[Ce A8]at h7;refine⟨_,h7,?_⟩;have h8:=h2.2 j (by rw[hsz];exact hj);simpa[List.getD,show j<z.length by omega]using h8
 have L:a.spot=none:=by
  obtain⟨u,I, -⟩:=q 0 hlp 0 Z;have e0:(a.add (0*sz)).add 0=a:=by simp[Addr.add]
  rw[e0]at I;unfold World.cell? at I;cases hsp:a.spot with
  |none=>rfl
  |some s=>
   rw[hsp]at I;cases hh:w.heap[a.block]? with
   |none=>rw[hh]at I;simp at I
   |some o=>rw[hh]at I;cases o<;>simp at I
 have hblk:a.block<w.heap.size:=by
  obtain⟨u,I, -⟩:=q 0 hlp 0 Z;have e0:(a.add (0*sz)).add 0=a:=by simp[Addr.add]
  rw[e0]at I;unfold World.cell? at I;apply Ve;intro hn;rw[Array.getElem?_eq_none (TN hn)]at I;simp at I
 obtain⟨b,o,s⟩:=a;simp only at L hblk;subst L;have J:(List.map U l).length=l.length:=C9 _;have M:∀i,(hi:i<l.length)→(List.map U l).getD i D8=U l[i]:=fun i hi=>LX
 have O:∀i j,((⟨b,o,none⟩:Addr).add (i*sz)).add j=⟨b,o+(i*sz+j),none⟩:=fun i j=>by simp only[Addr.add];split<;>split<;>simp_all<;>omega
 refine .one rfl rfl ?_
 have :=DF.sl (ok:=fun b=>b<w.heap.size) (w:=w) (List.map U l) b o cap sz (by rw[J];exact hl) (fun _ _=>hblk) (fun i hi=>by rw[J]at hi;rw[M i hi];exact hsz _)
  (fun i hi j hj=>by rw[J]at hi;obtain⟨u,_,h2,_⟩:=q i hi j hj;rw[M i hi];exact h2)
  (fun i hi j hj=>by rw[J]at hi;obtain⟨u,Y,_,_⟩:=q i hi j hj;rw[O]at Y;rw[Y];rfl)
  (fun i hi j hj=>by rw[J]at hi;obtain⟨u,Y,_,h3⟩:=q i hi j hj;rw[O]at Y;rw[M i hi];unfold cellAt;rw[Y];exact h3)
 rw[J]at this;exact this
def Jl {k:IntKind} (j:P.underlying t=some (.int k)):QU enc P w base spare held t (fun n=>D.lit (.int k n)) (fun n:Int=>k.min≤n∧n≤k.max):=by
 intro Ag cs x h;obtain⟨n,rfl, -,m⟩:=DataW.trod_int j h;exact⟨n,by simpa[Lit.wf]using m,.one rfl rfl (.lit _)⟩
def Va (j:P.underlying t=some .string):QU enc P w base spare held t DU (fun s=>s.size≤maxLen):=by
 intro Ag cs x h;obtain⟨n,rfl, -,m⟩:=DataW.trod_string j h;exact⟨n,m,.one rfl rfl (.lit _)⟩
def aby (j:P.underlying t=some .bool):QU enc P w base spare held t DX (fun _=>True):=by
 intro Ag cs x h;obtain⟨n,rfl, -⟩:=DataW.trod_bool j h;exact⟨n,trivial,.one rfl rfl (.lit _)⟩
def Fe {α:Type} {z:Array Field} {Ag:Nat} {cs:List Value} {x:DataW H×List MemPlace} (L:P.underlying t=some (.struct z)) (h:DataW.trod enc P w base spare held Ag t cs=some x) (i:Nat) (u o n:Nat) (m:(z[i]?).map (fun f=>(f.type,f.offset,P.cellsOf f.type))=some (u,o,n))
 {I:α→D} {V:α→Prop} (M:QU enc P w base spare held u I V):∃a:α,V a∧EI w (I a).cells ((cs.drop o).take n):=by
 obtain⟨xs,k, -, -, -,hlen,q⟩:=DataW.trod_struct L h;cases j:z[i]? with
 |none=>rw[j]at m;simp at m
 |some f=>
  rw[j]at m;simp only[Ho,KJ,RF]at m;obtain⟨rfl,rfl,rfl⟩:=m;have J:=q i f j;have hi:i<z.size:=(FX.1 j).1;rw[Ce A8]at J;exact M _ _ _ J
def cG {j:Array Field} {Ag:Nat} {cs:List Value} {x:DataW H×List MemPlace} (m:P.underlying t=some (.struct j)) (h:DataW.trod enc P w base spare held Ag t cs=some x) (n:Nat) (q:P.cellsOf t=n):cs.length=n:=by
 obtain⟨xs,k, -, -,hlen, -⟩:=DataW.trod_struct m h;rw[hlen,q]
def dZ {cs:List Value} {j:List D} (ns:List Nat) (hl:cs.length=ns.sum) (h:EI w j (pieces ns 0 cs)):EI w j cs:=by
 rw[pieces_eq ns 0 cs A8]at h;simpa using h
end
def agW {w:World} {x:D} {v:Value} (j:x.cells=[x]) (m:v.cells= #[v]) (h:EI w x.cells v.cells.toList):DF (fun b=>b<w.heap.size) w x v:=by
 rw[j,m]at h;exact(h.2 0 Am).2
def Ap.start {P:Program} {f:FuncId} {xs:List D} {j:Array Value} {W:World} {x:D} (h:Ap P f (xs.map .d) [] (.d x) []) (hs:j.size=xs.length) (ha:∀i,i<xs.length→DF (fun b=>b<W.heap.size) W (xs.getD i D8) (j.getD i undef)):
 Calls P f j W fun e W'=>∃v ok,e=.returned v∧DF ok W' x v∧Below W.heap.size W W':=by
 refine(h (fun b=>b<W.heap.size) [] [] W j ⟨.refl _ _,fun _ h=>h,fun _ h=>.inl h,fun _ h=>h,.refl _,rfl,fun k e h m=>by simp at m,fun k e h b m=>by simp at m,fun k k' e e' h h' b m=>by simp at m⟩ nZ (fun i hi=>?_)).mono ?_
 ·have q:i<xs.length:=FU
  have :(xs.map AV.d).getD i .junk=.d (xs.getD i D8):=aIs
  rw[this];exact .d _ _ (ha i q)
 rintro e W' ⟨v,ok',H',rfl,z,u⟩;cases u with
 |d _ _ u=>exact⟨v,ok',rfl,u,z.fr.below⟩
def Ap.law {P:Program} {f:FuncId} {xs:List D} {j:Array Value} {W:World} (h:Ap P f (xs.map .d) [] (.d (DX true)) []) (hs:j.size=xs.length) (ha:∀i,i<xs.length→DF (fun b=>b<W.heap.size) W (xs.getD i D8) (j.getD i undef)):
 Calls P f j W fun e W'=>e=.returned (.bool true)∧Below W.heap.size W W':=by
 refine(h.start hs ha).mono ?_;rintro e W' ⟨v,ok,rfl,m,q⟩;exact⟨by rw[DF.afi m],q⟩
end Go.Proofs.YtkkdimcnpacjhaaGreat
end
section
namespace Go.Proofs.YtkkdimcnpacjhaaGreat
def CY (l:List Int) (x:Int):Bool:=l.contains x
def Ii {l:List Int} {x:Int}:CY l x=true↔x∈l:=by unfold CY;simp
def NR {l:List Int} {x:Int}:CY l x=false↔x∉l:=by unfold CY;simp
def put (l:List Int) (x:Int):List Int:=if CY l x then l else l.takeWhile (decide<| · <x)++x::l.dropWhile (decide<| · <x)
def EX (l:List Int):List Int:=l.foldl put []
def Gm (a b:List Int):List Int:=b.foldl put (EX a)
def NP (a b:List Int):List Int:=(EX a).filter (fun x=> !CY b x)
abbrev Inc (l:List Int):Prop:=l.Pairwise (· < ·)
def agX {l:List Int} {x:Int}:∀y∈l.takeWhile (decide<| · <x),y<x:=by
 intro y j;have :=List.all_takeWhile (l:=l) (p:=(decide<| · <x));rw[E5]at this;simpa using this y j
def aNh :∀{l:List Int} {x:Int},Inc l→∀y∈l.dropWhile (decide<| · <x),x≤y
 | [],x,_,y,j=>sN
 |a::l,x,h,y,j=>by
  have h':=O7.1 h;by_cases ha:a<x
  ·rw[aR3 (by simpa using ha)]at j;exact aNh h'.2 y j
  rw[aaL (by simpa using ha)]at j;rcases EO.1 j with rfl|j
  ·omega
  have :=h'.1 y j;omega
def Uj {l:List Int} {x y:Int}:y∈put l x↔y∈l∨y=x:=by
 unfold put;split
 ·rename_i h;have j:x∈l:=Ii.1 h;constructor
  ·exact .inl
  rintro(h|rfl)
  ·exact h
  exact j
 have e:l.takeWhile (decide<| · <x)++l.dropWhile (decide<| · <x)=l:=jm
 have :y∈l↔y∈l.takeWhile (decide<| · <x)∨y∈l.dropWhile (decide<| · <x):=by
  conv=>lhs;rw[←e]
  exact Fz
 rw[this,Fz,EO];constructor
 ·rintro(h|h|h)
  ·exact .inl (.inl h)
  ·exact .inr h
  exact .inl (.inr h)
 rintro((h|h)|h)
 ·exact .inl h
 ·exact .inr (.inr h)
 exact .inr (.inl h)
def QV {l:List Int} {x:Int} (h:Inc l):Inc (put l x):=by
 unfold put;split
 ·exact h
 rename_i z;have j:x∉l:=fun h=>z (Ii.2 h)
 have hd:∀y∈l.dropWhile (decide<| · <x),x<y:=by
  intro y q;have u:=aNh h y q;have I:y∈l:=(aEy _).mem q;have :y≠x:=fun e=>j (e▸I);omega
 refine Z7.2 ⟨h.sublist (List.takeWhile_sublist _),O7.2 ⟨hd,h.sublist (aEy _)⟩,?_⟩;intro a ha b m;have u:=agX a ha;rcases EO.1 m with rfl|m
 ·exact u
 have :=hd b m;omega
def aNC {l:List Int}:∀{acc:List Int} {y:Int},y∈l.foldl put acc↔y∈acc∨y∈l:=by
 induction l with
 |nil=>intro acc y;simp
 |cons a l j=>intro acc y;rw[El,j,Uj,EO,or_assoc]
def wI {l:List Int}:∀{acc:List Int},Inc acc→Inc (l.foldl put acc):=by
 induction l with
 |nil=>intro acc h;exact h
 |cons a l j=>intro acc h;exact j (QV h)
def Jh {l:List Int} {y:Int}:y∈EX l↔y∈l:=by unfold EX;rw[aNC];simp
def LM (l:List Int):Inc (EX l):=wI List.Pairwise.nil
def Fp :∀{a b:List Int},Inc a→Inc b→(∀x,x∈a↔x∈b)→a=b
 | [],[],_,_,_=>rfl
 | [],b::bs,_,_,h=>by have :=(h b).2 Am;simp at this
 |a::aDK,[],_,_,h=>by have :=(h a).1 Am;simp at this
 |a::aDK,b::bs,ha,I,h=>by
  have m:=O7.1 ha;have q:=O7.1 I
  have e:a=b:=by
   rcases EO.1 ((h a).1 Am)with j|j
   ·exact j
   rcases EO.1 ((h b).2 Am)with u|u
   ·exact u.symm
   have :=m.1 b u;have :=q.1 a j;omega
  subst e;congr 1;refine Fp m.2 q.2 fun x=>?_;have z:=h x;rw[EO,EO]at z;constructor
  ·intro j;rcases z.1 (.inr j)with rfl|u
   ·exact absurd (m.1 x j) A8
   exact u
  intro j;rcases z.2 (.inr j)with rfl|u
  ·exact absurd (q.1 x j) A8
  exact u
def aov {l:List Int} (h:Inc l):EX l=l:=Fp (LM l) h fun _=>Jh
def qE (a b:List Int):Gm a b=EX (a++b):=by unfold Gm EX;rw[Uy]
def RZ {a b:List Int} {x:Int}:x∈Gm a b↔x∈a∨x∈b:=by rw[qE,Jh,Fz]
def pU (a b:List Int):Inc (Gm a b):=by rw[qE];exact LM _
def aHK {a b:List Int} {x:Int}:x∈NP a b↔x∈a∧x∉b:=by unfold NP;rw[ET,Jh];simp[CY]
def aEk (a b:List Int):Inc (NP a b):=(LM a).sublist Qx
def ap9 (CQ:List Int):∀m,m≤CQ.length→∀x,x∈Lib.compactUpTo CQ.toArray m↔x∈CQ.take m:=by
 intro m
 induction m with
 |zero=>intro _ x;simp[Lib.compactUpTo]
 |succ m u=>
  intro L x;rw[Lib.compactUpTo_succ,Fz,u A8,Oj A8,Fz];have z:CQ.toArray[m]! =CQ[m]' A8:=by simp[show m<CQ.length by omega]
  by_cases q:Lib.keeps CQ.toArray m=true
  ·rw[CJ q,z]
  rw[CU q];have j:Lib.keeps CQ.toArray m=false:=MV
  have I:m≠0:=by intro e;subst e;simp[Lib.keeps]at j
  have J:CQ[m]' A8=CQ[m-1]' A8:=by
   simp[Lib.keeps,I]at j;simpa[show m<CQ.length by omega,show m-1<CQ.length by omega]using j
  constructor
  ·intro h;rcases h with h|h
   ·exact .inl h
   simp at h
  rintro(h|h)
  ·exact .inl h
  refine .inl ?_;simp at h;subst h;rw[J];rw[List.mem_take_iff_getElem];exact⟨m-1,A8,rfl⟩
def asW (CQ:List Int) (hs:CQ.Pairwise (· ≤ ·)):∀m,m≤CQ.length→Inc (Lib.compactUpTo CQ.toArray m)∧∀x∈Lib.compactUpTo CQ.toArray m,∃i,∃_:i<m,∃u:i<CQ.length,x=CQ[i]:=by
 intro m
 induction m with
 |zero=>intro _;refine⟨by simp[Lib.compactUpTo],fun x q=>by simp[Lib.compactUpTo]at q⟩
 |succ m O=>
  intro hm;obtain⟨L,u⟩:=O A8;have U:CQ.toArray[m]! =CQ[m]' A8:=by simp[show m<CQ.length by omega]
  rw[Lib.compactUpTo_succ];by_cases z:Lib.keeps CQ.toArray m=true
  ·rw[CJ z,U];refine⟨Z7.2 ⟨L,Am,?_⟩,?_⟩
   ·intro a ha b M;simp at M;subst M;obtain⟨i,hi,Y,rfl⟩:=u a ha
    have I:∀j,(Z:j<m)→CQ[j]' A8≤CQ[m-1]' A8:=by
     intro j Z;by_cases e:j=m-1
     ·subst e;omega
     exact KH.1 hs j (m-1) A8 A8 A8
    have h3:=I i hi;have h4:=KH.1 hs (m-1) m A8 A8 A8
    have h5:CQ[m]' A8≠CQ[m-1]' A8:=by
     have J:m≠0:=A8
     simp[Lib.keeps,J]at z;simpa[show m<CQ.length by omega,show m-1<CQ.length by omega]using z
    omega
   intro x q;rcases Fz.1 q with q|q
   ·obtain⟨i,a,b,c⟩:=u x q;exact⟨i,A8,b,c⟩
   simp at q;exact⟨m,A8,A8,q⟩
  rw[CU z,PG];refine⟨L,fun x q=>?_⟩;obtain⟨i,a,b,c⟩:=u x q;exact⟨i,A8,b,c⟩
def aA9 (l:List Int):Lib.compact (l.mergeSort fun x y=>decide (x≤y))=EX l:=by
 have hs:(l.mergeSort fun x y=>decide (x≤y)).Pairwise (· ≤ ·):=by
  have :=List.pairwise_mergeSort (le:=fun x y:Int=>decide (x≤y)) (by intro a b c;simp;omega) (by intro a b;simp;omega) l;exact this.imp (by intro a b h;simpa using h)
 refine Fp (asW _ hs _ (Dc _)).1 (LM l) fun x=>?_;rw[Jh];unfold Lib.compact;rw[ap9 _ _ (Dc _),GY];exact List.mem_mergeSort
def dQ {R:Type} (o:Option R) (Q:R→Prop):Prop:=∃r,o=some r∧Q r
section
variable {R A B α : Type} {Q : R → Prop}
def dQ.ret {r:R} (h:Q r):dQ (some r) Q:=⟨r,rfl,h⟩
def dQ.bind {o:Option A} {f:A→Option R} {P:A→Prop} (h:dQ o P) (k:∀x,P x→dQ (f x) Q):dQ (o.bind f) Q:=by
 obtain⟨x,rfl,j⟩:=h;exact k x j
def dQ.mono {o:Option R} {P:R→Prop} (h:dQ o P) (k:∀r,P r→Q r):dQ o Q:=by
 obtain⟨x,rfl,j⟩:=h;exact⟨x,rfl,k x j⟩
def dQ.bif {b:Bool} {x y:Option R} (j:b=true→dQ x Q) (m:b=false→dQ y Q):dQ (bif b then x else y) Q:=by
 cases b with
 |true=>exact j rfl
 |false=>exact m rfl
def dQ.eq {o:Option R} {r:R} (h:dQ o (· =r)):o=some r:=by obtain⟨x,rfl,rfl⟩:=h;rfl
def dQ.of {o:Option R} {r:R} (h:o=some r):dQ o (· =r):=⟨r,h,rfl⟩
def qU (l:List α) (i:Nat):Af l (i:Int)=l[i]? :=by unfold Af;rw[CJ (aIu i)];simp
def Bf {l:List α} {i:Nat} (h:i<l.length):Af l (i:Int)=some l[i]:=by rw[qU];simp[h]
def D5 {b:Nat} {l m:List α} (h:(l.length+m.length)*b≤140737488355328):Bq b l m=some (l++m):=by unfold Bq;rw[CJ h]
def iZ {l:List α} {lo hi:Nat} (j:lo≤hi) (m:hi≤l.length):Gh l (lo:Int) (hi:Int)=some ((l.drop lo).take (hi-lo)):=by
 unfold Gh;rw[CJ ⟨A8,A8,A8⟩];simp
def wrap_succ (i:Nat) (h:i<9223372036854775807):Ah ((i:Int)+1)=((i+1:Nat):Int):=by
 rw[Z8];omega
def Ob {x:Int} (j: -9223372036854775808≤x) (m:x≤9223372036854775807):Ah x=x:=by
 rw[Z8];omega
def adi {body:(A→Option R)→A→Option R} (I:Nat→A→Prop) (hs:∀m a k,I m a→(∀j a',j<m→I j a'→dQ (k a') Q)→dQ (body k a) Q):
 ∀n m a,m<n→I m a→dQ (bn body n a) Q
 |0,m,a,h,_=>A8
 |n+1,m,a,h,hi=>hs m a _ hi fun j a' h' q=>adi I hs n j a' A8 q
def Xh {body:(A→B→Option R)→A→B→Option R} (I:Nat→A→B→Prop) (hs:∀m a b k,I m a b→(∀j a' q,j<m→I j a' q→dQ (k a' q) Q)→dQ (body k a b) Q):
 ∀n m a b,m<n→I m a b→dQ (aP body n a b) Q
 |0,m,a,b,h,_=>A8
 |n+1,m,a,b,h,hi=>hs m a b _ hi fun j a' q h' u=>Xh I hs n j a' q A8 u
def aX {body:(Int→Option R)→Int→Option R} (N:Nat) (j:N<Ag) (I:Nat→Prop) (q:I 0)
 (hs:∀i k,i<N→I i→(I (i+1)→dQ (k ((i+1:Nat):Int)) Q)→dQ (body k (i:Int)) Q) (u:∀k,I N→dQ (body k (N:Int)) Q):dQ (bn body Ag 0) Q:=by
 refine adi (body:=body) (Q:=Q) (fun m a=>∃i:Nat,a=i∧i+m=N∧I i) ?_ Ag N 0 j ⟨0,rfl,A8,q⟩;rintro m a k ⟨i,rfl,J,hi⟩ z;by_cases e:i<N
 ·exact hs i k e hi fun h=>z (m-1) _ A8 ⟨i+1,rfl,A8,h⟩
 have :i=N:=A8
 subst this;exact u k hi
def KX {body:(A→Int→Option R)→A→Int→Option R} (N:Nat) (j:N<Ag) (I:Nat→A→Prop) {a0:A} (q:I 0 a0)
 (hs:∀i a k,i<N→I i a→(∀a',I (i+1) a'→dQ (k a' ((i+1:Nat):Int)) Q)→dQ (body k a (i:Int)) Q) (u:∀a k,I N a→dQ (body k a (N:Int)) Q):dQ (aP body Ag a0 0) Q:=by
 refine Xh (body:=body) (Q:=Q) (fun m a b=>∃i:Nat,b=i∧i+m=N∧I i a) ?_ Ag N a0 0 j ⟨0,rfl,A8,q⟩;rintro m a b k ⟨i,rfl,J,hi⟩ z;by_cases e:i<N
 ·exact hs i a k e hi fun a' h=>z (m-1) _ _ A8 ⟨i+1,rfl,A8,h⟩
 have :i=N:=A8
 subst this;exact u a k hi
end
end Go.Proofs.YtkkdimcnpacjhaaGreat
end
section
namespace Go.Proofs
open Go.Proofs.YtkkdimcnpacjhaaGreat
open Go.Shelf
def Tryz.arN:Go.Shelf.Ren:=⟨fun |137=>140|217=>231|266=>316|n=>n,fun |9=>9|5=>5|3=>3|n=>n,fun |n=>n⟩
def Tryz.lays137:Go.Proofs.Lays.n137 Tryz.prog Tryz.arN:={
 mixed:=AA
 f137:=Tryz.func140.trans (BH some AA)
 f217:=Tryz.func231.trans (BH some AA)
 f266:=Tryz.func316.trans (BH some AA)
 t3:=Il
 a3:=Zl
 z3:=aQ
 v3:=aO
 t5:=kV
 a5:=lR
 z5:=sD
 v5:=tJ
 t9:=Ox
 a9:=uV
 z9:=sG
 v9:=uD }
open Go.RowKit in
def Tryz.strings_IndexByte (s:ByteArray) (c:Int) (w:World):
 Calls Tryz.prog 140 #[.string s,.int .u8 c] w fun e w'=>e=.returned (.int .i64 (Lib.indexByte s.data.toList c.toNat.toUInt8))∧w'=w:=Any.strings_IndexByte Tryz.lays137 s c w
def Tryz.arO:Go.Shelf.Ren:=⟨fun |219=>317|217=>231|225=>370|224=>371|267=>372|266=>316|314=>399|n=>n,fun |9=>9|3=>3|4=>4|5=>5|46=>148|146=>328|51=>212|n=>n,fun |1=>0|n=>n⟩
def Tryz.lays219:Go.Proofs.Lays.n219 Tryz.prog Tryz.arO:={
 mixed:=AA
 f217:=Tryz.func231.trans (BH some AA)
 f219:=Tryz.func317.trans (BH some AA)
 f224:=Tryz.func371.trans (BH some AA)
 f225:=Tryz.func370.trans (BH some AA)
 f266:=Tryz.func316.trans (BH some AA)
 f267:=Tryz.func372.trans (BH some AA)
 f314:=Tryz.func399.trans (BH some AA)
 t3:=Il
 a3:=Zl
 z3:=aQ
 v3:=aO
 t4:=XI
 a4:=mY
 z4:=oW
 v4:=mD
 t5:=kV
 a5:=lR
 z5:=sD
 v5:=tJ
 t9:=Ox
 a9:=uV
 z9:=sG
 v9:=uD
 t46:=aC3
 a46:=Tryz.isAgg148
 z46:=aAm
 v46:=xG
 t51:=aDY
 a51:=Tryz.isAgg212
 z51:=wH
 v51:=aAE
 t146:=Tryz.underlying328
 a146:=Tryz.isAgg328
 z146:=Tryz.sizeOf328
 v146:=Tryz.zeroValue328
 g1:=by kernel_rfl }
open Go.RowKit Go.Lib in
def Tryz.stringslite_Index_one (s:ByteArray) (c:UInt8) (w:World):
 Calls Tryz.prog 317 #[.string s,.string ⟨#[c]⟩] w fun e w'=>e=.returned (.int .i64 (Lib.indexByte s.data.toList c))∧w'=w:=Any.stringslite_Index_one Tryz.lays219 s c w
def Tryz.arP:Go.Shelf.Ren:=⟨fun |145=>141|220=>232|219=>317|217=>231|225=>370|224=>371|267=>372|266=>316|314=>399|n=>n,fun |9=>9|4=>4|59=>121|3=>3|5=>5|46=>148|146=>328|51=>212|n=>n,fun |1=>0|n=>n⟩
def Tryz.lays145:Go.Proofs.Lays.n145 Tryz.prog Tryz.arP:={
 mixed:=AA
 f145:=Tryz.func141.trans (BH some AA)
 f217:=Tryz.func231.trans (BH some AA)
 f219:=Tryz.func317.trans (BH some AA)
 f220:=Tryz.func232.trans (BH some AA)
 f224:=Tryz.func371.trans (BH some AA)
 f225:=Tryz.func370.trans (BH some AA)
 f266:=Tryz.func316.trans (BH some AA)
 f267:=Tryz.func372.trans (BH some AA)
 f314:=Tryz.func399.trans (BH some AA)
 t3:=Il
 a3:=Zl
 z3:=aQ
 v3:=aO
 t4:=XI
 a4:=mY
 z4:=oW
 v4:=mD
 t5:=kV
 a5:=lR
 z5:=sD
 v5:=tJ
 t9:=Ox
 a9:=uV
 z9:=sG
 v9:=uD
 t46:=aC3
 a46:=Tryz.isAgg148
 z46:=aAm
 v46:=xG
 t51:=aDY
 a51:=Tryz.isAgg212
 z51:=wH
 v51:=aAE
 t59:=Tryz.underlying121
 a59:=Tryz.isAgg121
 z59:=Tryz.sizeOf121
 v59:=Tryz.zeroValue121
 t146:=Tryz.underlying328
 a146:=Tryz.isAgg328
 z146:=Tryz.sizeOf328
 v146:=Tryz.zeroValue328
 g1:=by kernel_rfl }
open Go.RowKit Go.Lib in
def Tryz.strings_Cut (s sep:ByteArray) (m:Int) (w:World) (hs:s.size<4294967281) (hm:w.cell? ⟨0,0,none⟩=some (.int .i64 m)):
 Calls Tryz.prog 141 #[.string s,.string sep] w fun e w'=>e=.returned (.tuple #[.string ⟨(Lib.cut s.data.toList sep.data.toList).1.toArray⟩,.string ⟨(Lib.cut s.data.toList sep.data.toList).2.1.toArray⟩,.bool (Lib.cut s.data.toList sep.data.toList).2.2])∧∃n,w'=w.drewN n:=Any.strings_Cut Tryz.lays145 s sep m w hs hm
def Tryz.arQ:Go.Shelf.Ren:=⟨fun |189=>61|125=>124|257=>123|128=>215|129=>216|294=>207|295=>208|296=>209|297=>210|298=>211|299=>212|216=>205|300=>213|301=>214|328=>306|329=>307|330=>308|331=>309|332=>310|215=>270|343=>362|n=>n,fun |28=>35|3=>3|46=>148|0=>0|51=>212|53=>214|4=>4|183=>206|182=>205|131=>47|5=>5|9=>9|218=>279|222=>283|228=>305|229=>306|n=>n,fun |n=>n⟩
def Tryz.lays189:Go.Proofs.Lays.n189 Tryz.prog Tryz.arQ:={
 mixed:=AA
 f125:=Tryz.func124.trans (BH some AA)
 f128:=Tryz.func215.trans (BH some AA)
 f129:=Tryz.func216.trans (BH some AA)
 f189:=Tryz.func61.trans (BH some AA)
 f215:=Tryz.func270.trans (BH some AA)
 f216:=Tryz.func205.trans (BH some AA)
 f257:=Tryz.func123.trans (BH some AA)
 f294:=Tryz.func207.trans (BH some AA)
 f295:=Tryz.func208.trans (BH some AA)
 f296:=Tryz.func209.trans (BH some AA)
 f297:=Tryz.func210.trans (BH some AA)
 f298:=Tryz.func211.trans (BH some AA)
 f299:=Tryz.func212.trans (BH some AA)
 f300:=Tryz.func213.trans (BH some AA)
 f301:=Tryz.func214.trans (BH some AA)
 f328:=Tryz.func306.trans (BH some AA)
 f329:=Tryz.func307.trans (BH some AA)
 f330:=Tryz.func308.trans (BH some AA)
 f331:=Tryz.func309.trans (BH some AA)
 f332:=Tryz.func310.trans (BH some AA)
 f343:=Tryz.func362.trans (BH some AA)
 t0:=Tryz.underlying0
 a0:=Tryz.isAgg0
 z0:=Tryz.sizeOf0
 v0:=Tryz.zeroValue0
 t3:=Il
 a3:=Zl
 z3:=aQ
 v3:=aO
 t4:=XI
 a4:=mY
 z4:=oW
 v4:=mD
 t5:=kV
 a5:=lR
 z5:=sD
 v5:=tJ
 t9:=Ox
 a9:=uV
 z9:=sG
 v9:=uD
 t28:=aA0
 a28:=Tryz.isAgg35
 z28:=Tryz.sizeOf35
 v28:=Tryz.zeroValue35
 t46:=aC3
 a46:=Tryz.isAgg148
 z46:=aAm
 v46:=xG
 t51:=aDY
 a51:=Tryz.isAgg212
 z51:=wH
 v51:=aAE
 t53:=Tryz.underlying214
 a53:=Tryz.isAgg214
 z53:=Tryz.sizeOf214
 v53:=Tryz.zeroValue214
 t131:=Tryz.underlying47
 a131:=Tryz.isAgg47
 z131:=Tryz.sizeOf47
 v131:=Tryz.zeroValue47
 t182:=Tryz.underlying205
 a182:=Tryz.isAgg205
 z182:=Tryz.sizeOf205
 v182:=Tryz.zeroValue205
 t183:=Tryz.underlying206
 a183:=Tryz.isAgg206
 z183:=Tryz.sizeOf206
 v183:=Tryz.zeroValue206
 t218:=Tryz.underlying279
 a218:=Tryz.isAgg279
 z218:=Tryz.sizeOf279
 v218:=Tryz.zeroValue279
 t222:=Tryz.underlying283
 a222:=Tryz.isAgg283
 z222:=Tryz.sizeOf283
 v222:=Tryz.zeroValue283
 t228:=Tryz.underlying305
 a228:=Tryz.isAgg305
 z228:=Tryz.sizeOf305
 v228:=Tryz.zeroValue305
 t229:=Tryz.underlying306
 a229:=Tryz.isAgg306
 z229:=Tryz.sizeOf306
 v229:=Tryz.zeroValue306 }
open Go.Sort Go.RowKit in
def Tryz.slices_Sort_int (blk off cap:Nat) (CQ:List Int) (w:World) (hH:Holds Bv w blk off CQ.toArray) (hblk:blk<w.heap.size) (hsz:CQ.length<4611686018427387904):
 Calls Tryz.prog 61 #[.slice (some ⟨blk,off,none⟩) CQ.length cap] w fun e w'=>
  e=.returned (.tuple #[])∧∃n os,w'=grow (putRow Bv (Sort.ahead w n) blk off (CQ.mergeSort fun x y=>decide (x≤y)).toArray) os:=Any.slices_Sort_int Tryz.lays189 blk off cap CQ w hH hblk hsz
def Tryz.an2:Go.Shelf.Ren:=⟨fun |20=>62|n=>n,fun |22=>35|3=>3|4=>4|0=>0|n=>n,fun |n=>n⟩
def Tryz.am8:Go.Proofs.Lays2.n20 Tryz.prog Tryz.an2:={
 mixed:=AA
 f20:=Tryz.func62.trans (BH some AA)
 t0:=Tryz.underlying0
 a0:=Tryz.isAgg0
 z0:=Tryz.sizeOf0
 v0:=Tryz.zeroValue0
 t3:=Il
 a3:=Zl
 z3:=aQ
 v3:=aO
 t4:=XI
 a4:=mY
 z4:=oW
 v4:=mD
 t22:=aA0
 a22:=Tryz.isAgg35
 z22:=Tryz.sizeOf35
 v22:=Tryz.zeroValue35
 i3:=by kernel_rfl }
open Go.RowKit Go.Lib Go.Sort in
def Tryz.slices_Compact_int (blk off cap:Nat) (CQ:List Int) (w:World) (hH:Holds Bv w blk off CQ.toArray) (hsz:CQ.length≤9223372036854775807) (hcap:CQ.length≤cap):
 Calls Tryz.prog 62 #[.slice (some ⟨blk,off,none⟩) CQ.length cap] w fun e w'=>e=.returned (.slice (some ⟨blk,off,none⟩) (Lib.compact CQ).length cap)∧∃q,w'=putRow Bv (Sort.ahead w q) blk off (Lib.compact CQ++List.replicate (CQ.length-(Lib.compact CQ).length) 0).toArray:=Any.slices_Compact_int Tryz.am8 blk off cap CQ w hH hsz hcap
open Go.RowKit Go.Lib Go.Sort in
def Tryz.slices_Compact_int_empty (a:Option Addr) (cap:Nat) (w:World):
 Calls Tryz.prog 62 #[.slice a 0 cap] w fun e w'=>e=.returned (.slice a 0 cap)∧w'=w:=Any.slices_Compact_int_empty Tryz.am8 a cap w
open Go.RowKit Go.Sort in
def Tryz.slices_Sort_int_none (p:Option Addr) (cap:Nat) (w:World):
 Calls Tryz.prog 61 #[.slice p 0 cap] w fun e w'=>e=.returned (.tuple #[])∧w'=w:=Any.slices_Sort_int_none Tryz.lays189 p cap w
end Go.Proofs
end
section
namespace Go.Proofs.YtkkdimcnpacjhaaGreat
open Go.RowKit
def Yd (x:Int):List Int→List Int
 | []=>[x]
 |y::l=>bif decide (x≤y)then x::y::l else y::Yd x l
def Pj (l:List Int):List Int:=l.foldr Yd []
def aLC (x:Int):∀l,(Yd x l).Perm (x::l)
 | []=>.refl _
 |y::l=>by
  unfold Yd;cases h:decide (x≤y)with
  |true=>exact .refl _
  |false=>exact((aLC x l).cons y).trans (.swap x y l)
def UE :∀l,(Pj l).Perm l
 | []=>.refl _
 |x::l=>(aLC x (Pj l)).trans ((UE l).cons x)
def aQL (x:Int):∀l,l.Pairwise (· ≤ ·)→(Yd x l).Pairwise (· ≤ ·)
 | [],_=>by simp[Yd]
 |y::l,h=>by
  have h':=O7.1 h;unfold Yd;cases q:decide (x≤y)with
  |true=>
   have m:x≤y:=iI q;refine O7.2 ⟨fun z j=>?_,h⟩;rcases EO.1 j with rfl|j
   ·exact m
   have :=h'.1 z j;omega
  |false=>
   have m:¬x≤y:=Ir q;refine O7.2 ⟨fun z j=>?_,aQL x l h'.2⟩;rcases EO.1 ((aLC x l).mem_iff.1 j)with rfl|j
   ·omega
   exact h'.1 z j
def aBq :∀l,(Pj l).Pairwise (· ≤ ·)
 | []=>.nil
 |x::l=>aQL x _ (aBq l)
def aD8 (l:List Int):Pj l=l.mergeSort fun x y=>decide (x≤y):=by
 have hs:(l.mergeSort fun x y=>decide (x≤y)).Pairwise (· ≤ ·):=by
  have :=List.pairwise_mergeSort (le:=fun x y:Int=>decide (x≤y)) (by intro a b c;simp;omega) (by intro a b;simp;omega) l;exact this.imp (by intro a b h;simpa using h)
 exact((UE l).trans (List.mergeSort_perm l _).symm).eq_of_pairwise (fun a b _ _ h k=>A8) (aBq l) hs
abbrev AB:=List Int
def MJ (l:List Int):Option AB:=if l.length≤1099511627776 then some (Pj l)else none
def Si (l:List Int):Option AB:=if l.length≤1099511627776 then some (Lib.compact l)else none
def lQ.nil (w:World) (e size:Nat):lQ w e size (.slice none 0 0) 0 []:=.of (yB w 0 e size)
def ahn {w:World} {g cap n:Nat} {e:TypeId} {os:Array Obj} {j:Array Value} {m q:List Int} (hl:q.length=m.length) (u:w.heap[g]? =some (.cells j e (0,0)))
 (z:m.length≤cap) (I:cap≤maxLen) (J:cap*1≤j.size):
 lQ (Go.Sort.grow (Go.Sort.putRow Bv (Go.Sort.ahead w n) g 0 q.toArray) os) e 1 (.slice (some ⟨g,0,none⟩) m.length cap) m.length (q.map Bv):=
 ⟨Zc,.inr ⟨g,cap,_,rfl,EK _,heap_sortedI _ u,z,I,by simpa[Go.Sort.putCells]using J,by rw[dL,←hl];exact take_putCellsI j q A8⟩⟩
def aq1 {w:World} {e:TypeId} {g n cap q k:Nat} {CQ ys:List Int} (h:lQ w e 1 (.slice (some ⟨g,0,none⟩) n cap) n (CQ.map Bv)) (L:ys.length=n) (M:k≤n):
 lQ (Go.Sort.putRow Bv (Go.Sort.ahead w q) g 0 ys.toArray) e 1 (.slice (some ⟨g,0,none⟩) k cap) k ((ys.take k).map Bv):=by
 rcases h.2 with⟨m,_⟩|⟨O,u,j,m,z,I,U,J,hs,Y⟩
 ·cases m
 injection m with e1 _ e3
 injection e1 with e1
 injection e1 with e1
 subst e1;subst e3;refine⟨DK,.inr ⟨g,cap,Go.Sort.putCells Bv 0 ys.toArray j,rfl,z,?_,A8,J,by simpa[Go.Sort.putCells]using hs,?_⟩⟩
 ·simp[Go.Sort.putRow,Go.Sort.mapBlock,Go.Sort.ahead,Nl,I,Go.Sort.onCells]
 have :=take_putCellsI j ys A8;rw[dL,XY,←this,aMi,mM A8]
def aiM {l m:List Int} (h:l.Perm m):Pj l=Pj m:=by
 have hs:∀(l:List Int),(Pj l).Pairwise (· ≤ ·):=aBq;exact((UE l).trans (h.trans (UE m).symm)).eq_of_pairwise (fun a b _ _ j q=>A8) (hs l) (hs m)
def afP {l m:List Int} (h:l.Perm m):MJ l=MJ m:=by
 unfold MJ;rw[h.length_eq,aiM h]
abbrev BF:=Ap Tryz.prog
def eA (l r:List Int) (h:MJ l=some r):BF 61 [.aY 0] [.arr 3 1 (List.map Ac l)] (.eF []) [.arr 3 1 (List.map Ac r)]:=by
 unfold MJ at h;split at h
 ·rename_i O;obtain rfl:=CG h;refine Ap.azs fun v w m=>?_;rcases m.2 with⟨rfl,L⟩|⟨g,cap,M,rfl,q,u,z,I,J,j⟩
  ·have hl:l=[]:=GN L;subst hl;refine(Tryz.slices_Sort_int_none _ _ _).mono ?_;rintro e w' ⟨rfl,h⟩;subst h;exact⟨rfl,lQ.nil _ _ _,Turns.refl _ _⟩
  have hs:(l.mergeSort fun x y=>decide (x≤y)).length=l.length:=List.length_mergeSort _;refine(Tryz.slices_Sort_int g 0 cap l w (holds_of_blockI u MK) (FX.1 u).1 A8).mono ?_;rintro e w' ⟨rfl,n,os,rfl⟩;rw[aD8];refine⟨rfl,?_,Turns.axc (grownBy_sortedI _)⟩;rw[hs];exact ahn (os:=os) (n:=n) hs u z I J
 cases h
def aCf (l r:List Int) (h:Si l=some r):BF 62 [.aY 0] [.arr 3 1 (List.map Ac l)] (.aY 1) [.dead,.arr 3 1 (List.map Ac r)]:=by
 unfold Si at h;split at h
 ·rename_i hn;obtain rfl:=CG h;refine Ap.turned fun v w m=>?_;rcases m.2 with⟨rfl,M⟩|⟨g,cap,O,rfl,z,u,I,U,Y,j⟩
  ·have hl:l=[]:=GN M;subst hl;refine(Tryz.slices_Compact_int_empty _ _ _).mono ?_;rintro e w' ⟨rfl,h⟩;subst h;exact⟨_,rfl,lQ.nil _ _ _,Turns.refl _ _,fun g u=>by simp[Cb]at u⟩
  refine(Tryz.slices_Compact_int g 0 cap l w (holds_of_blockI u MK) A8 I).mono ?_;rintro e w' ⟨rfl,q,rfl⟩;have J:=Lib.compact_length_le l;have Z:(Lib.compact l++List.replicate (l.length-(Lib.compact l).length) 0).length=l.length:=DK
  refine⟨_,rfl,?_,?_,fun g u=>.inl u⟩
  ·have :=aq1 (q:=q) m Z J;rw[rX rfl]at this;exact this
  exact⟨rfl,rfl,rfl,by simp[Sort.putRow,Sort.mapBlock,Sort.ahead],fun k hk L=>by
   have :g≠k:=fun e=>L vC
   simp[Sort.putRow,Sort.mapBlock,Sort.ahead,Nl,this]⟩
 cases h
def strings_IndexByte (s:ByteArray) (c:Int):Option Int:=some (Lib.indexByte s.data.toList c.toNat.toUInt8)
def apR (s:ByteArray) (c:Int) (r:Int) (h:strings_IndexByte s c=some r):BF 140 [.d (DU s),.d (Ea c)] [] (.d (Ac r)) []:=by
 rw[←CG h];exact Ap.plain (vs:=[.string s,.int .u8 c]) (v:=.int .i64 (Lib.indexByte s.data.toList c.toNat.toUInt8)) (fun _ _ _=>.d _ _ (.lit _)) fun w=>(Tryz.strings_IndexByte s c w).mono fun e w' ⟨j,m⟩=>⟨j,by rw[m];exact⟨rfl,rfl,rfl,Dc _,fun _ _=>rfl⟩⟩
def aAJ (s t:ByteArray):Option Int:=match t.data.toList with
 | [c]=>some (Lib.indexByte s.data.toList c)
 |_=>none
def ap8 (s t:ByteArray) (r:Int) (h:aAJ s t=some r):BF 317 [.d (DU s),.d (DU t)] [] (.d (Ac r)) []:=by
 unfold aAJ at h;split at h
 ·rename_i c j;rw[←CG h];obtain⟨⟨l⟩⟩:=t;simp only at j;subst j;exact Ap.plain (vs:=[.string s,.string ⟨#[c]⟩]) (v:=.int .i64 (Lib.indexByte s.data.toList c)) (fun _ _ _=>.d _ _ (.lit _)) fun w=>(Tryz.stringslite_Index_one s c w).mono fun e w' ⟨m,q⟩=>⟨m,by rw[q];exact⟨rfl,rfl,rfl,Dc _,fun _ _=>rfl⟩⟩
 cases h
structure Wj (P:Program) (t:TypeId) (s:Nat) (z:Value):Prop where
 und:∃n e,P.underlying t=some (.array n e)∧∃i,P.info? e=some i∧i.size=s
 zero:(P.info? t).bind (·.zero)=some z
 one:z.cells.all (·.oneCell')=true
def aOT (P:Program) (t:TypeId) (s:Nat):Bool:=
 match P.underlying t with
 |some (.array _ e)=>match P.info? e with
  |some i=>decide (i.size=s)
  |none=>false
 |_=>false
def rU {P:Program} {t:TypeId} {s:Nat} {z:Value} (h:aOT P t s=true) (j:(P.info? t).bind (·.zero)=some z) (m:z.cells.all (·.oneCell')=true):Wj P t s z:=by
 unfold aOT at h;split at h
 ·rename_i n e q;split at h
  ·rename_i i hi;exact⟨⟨n,e,q,i,hi,iI h⟩,j,m⟩
  cases h
 cases h
section
variable {P : Program} {o : Oper} {es : List Aq} {α : Type}
def ajL {t:TypeId} {j:Array (Nat×Operand)} {s:Nat} {z:Value} (hA:Wj P t s z) (vs:List AV) (hp:Lm (fun i=>some (i*s,s)) (Et z).length j.toList vs=true)
 (hd:(J6 (fun i=>some (i*s,s)) (Et z) j.toList vs).all AV.yR=true) (ho:o.op=.build t j):
 BN P o (Lu j.toList vs) es (.d (.agg (IG (J6 (fun i=>some (i*s,s)) (Et z) j.toList vs)))) es:=
 .pure fun ok H a w _ _ hn=>by
  obtain⟨⟨n,e,hu,i,hi,hs⟩,hz,h1⟩:=hA;have q:=aCm (P:=P) hz w;have u:(underlying t).run P w=.ok (.array n e) w:=aAU
  have I:(sizeOf e).run P w=.ok s w:=aLH
  obtain⟨m,hc,J⟩:=jk (place:=fun i=>some (i*s,s)) j.toList vs (Et z) z.cells (aMB (ok:=ok) (w:=w) (H:=H) h1) hp hn;refine⟨.agg m,?_,.d _ _ ?_⟩
  ·have e:(j.map fun(i,x)=>(i,a.eval x)).toList=j.toList.map fun p=>(p.1,a.eval p.2):=Am
   simp only[execOp,ho,Instr.build,Ep,q,u,I,F5];rw[e,hc];rfl
  rw[aPf hd]at J;generalize IG (J6 (fun i=>some (i*s,s)) (Et z) j.toList vs)=xs at J ⊢;obtain⟨Y,L⟩:=J;simp only[C9]at Y L
  have Z:∀i,i<xs.length→(xs.map AV.d).getD i .junk=.d (xs.getD i D8):=by
   intro i hi;simp[List.getD,hi]
  have M:m.size=xs.length:=Mid
  refine .agg xs m M ?_ ?_<;>intro i hi
  ·have :=(L i hi).1;rw[Z i hi]at this;exact this
  have O:=(L i hi).2;rw[Z i hi]at O;have U:i<m.size:=A8
  have e:m.toList.getD i undef=m.getD i undef:=by simp[List.getD,Array.getD,U]
  rw[e]at O;cases O with |d _ _ h=>exact h
def LG (enc:α→D) (l:List α):D:=.agg (l.map enc)
def aBr {x y:Operand} {t e:TypeId} {n:Nat} {k:IntKind} {i:Int} (enc:α→D) {l:List α} {a:α} (h:Af l i=some a) (O:P.underlying t=some (.array n e)) (z:Dl P e false 1) (hl:l.length=n) (U:o.op=.index t x y):
 BN P o [(x,.d (LG enc l)),(y,.d (.lit (.int k i)))] es (.d (enc a)) es:=
 .pure fun ok H Y w _ _ I=>by
  obtain⟨Z,J⟩:=JY h;have m:=(EL I).1;have L:=(EL I).2.lit;simp only at m L;have q:=(FB.1 J).1;have hu:(underlying t).run P w=.ok (.array n e) w:=by simp[underlying,O]
  generalize hv:Y.eval x=v at m;cases m with
  |d _ _ m=>
   cases m with
   |agg _ vs u hf M=>
    rw[C9]at u hf M;have j:i.toNat<vs.size:=A8
    refine⟨vs[i.toNat],?_,?_⟩
    ·have hb:0≤i∧i<n:=⟨Z,A8⟩
     simp only[execOp,U,hv,L,Instr.index,asIntOf,Ep,Fa,hu,F5,hb,and_self,J5,z.size w,part,z.agg w];simp[j]
    have :=M i.toNat q;simp only[Array.getD,j,dif_pos]at this;have e2:(l.map enc).getD i.toNat D8=enc a:=by simp[List.getD,J]
    rw[e2]at this;exact .d _ _ this
def akZ {x:Operand} {k off:Nat} (m:o.op=.nilCheck x):BN P o [(x,.ptr k off)] es (.ptr k off) es:=
 .pure fun ok H a w _ _ q=>by
  have j:=Jk q;simp only at j;generalize z:a.eval x=u at j;cases j with
  |ptr _ _ b s h=>exact⟨_,by simp[execOp,m,z],.ptr _ _ b s h⟩
def an1 {x:Operand} {k i off:Nat} (m:o.op=.nilCheck x):BN P o [(x,.kT k i off)] es (.kT k i off) es:=
 .pure fun ok H a w _ _ q=>by
  have j:=Jk q;simp only at j;generalize z:a.eval x=u at j;cases j with
  |kT _ _ _ b n cap s h=>exact⟨_,by simp[execOp,m,z],.kT _ _ _ b n cap s h⟩
def aqz {x:Operand} {cs:List D} {off:Nat} (q:o.op=.nilCheck x):BN P o [(x,.d (.ref cs off))] es (.d (.ref cs off)) es:=
 .pure fun ok H a w _ _ z=>by
  have j:=Jk z;simp only at j;generalize I:a.eval x=u at j;cases j with
  |d _ _ h=>cases h with
   |ref _ _ b p m J L M=>exact⟨_,by simp[execOp,q,I],.d _ _ (.ref _ _ b p m J L M)⟩
def aR4 (n:Nat):D:=.fn (.func n) [] []
end
def PX {α:Type} (p:α→Prop):List α→Prop
 | []=>True
 |x::l=>p x∧PX p l
def PX.mem {α:Type} {p:α→Prop}:∀{l:List α},PX p l→∀x∈l,p x
 | [],_,x,h=>Gv
 |y::l,hl,x,h=>by
  rcases EO.1 h with rfl|h
  ·exact hl.1
  exact hl.2.mem x h
class Kn (P:Program) where
 und:List (Nat×TypeDesc)
 ajc:PX (fun p:Nat×TypeDesc=>P.underlying p.1=some p.2) und
 ty:List (Nat×Bool×Nat)
 hty:PX (fun p:Nat×Bool×Nat=>Dl P p.1 p.2.1 p.2.2) ty
 fld:List ((Nat×Nat)×Nat)
 hfld:PX (fun p:(Nat×Nat)×Nat=>Cc P p.1.1 p.1.2 p.2) fld
 part:List ((Nat×Nat)×Nat×Bool×Nat)
 hpart:PX (fun p:(Nat×Nat)×Nat×Bool×Nat=>bI P p.1.1 p.1.2 p.2.1 p.2.2.1 p.2.2.2=true) part
 zero:List (Nat×Value)
 hzero:PX (fun p:Nat×Value=>(P.info? p.1).bind (·.zero)=some p.2∧p.2.cells.all (·.oneCell')=true) zero
 st:List (Nat×List (Nat×Nat)×Value)
 hst:PX (fun p:Nat×List (Nat×Nat)×Value=>II P p.1 p.2.1 p.2.2) st
 arr:List (Nat×Nat×Value)
 harr:PX (fun p:Nat×Nat×Value=>Wj P p.1 p.2.1 p.2.2) arr
def Q5 {β:Type} (t:Nat):List (Nat×β)→Option β
 | []=>none
 |(u,b)::l=>match Nat.beq t u with |true=>some b|false=>Q5 t l
def N9 {β:Type} {t:Nat} {b:β}:∀{l:List (Nat×β)},Q5 t l=some b→(t,b)∈l
 | [],h=>Fr
 |(u,c)::l,h=>by
  unfold Q5 at h;split at h
  ·rename_i e;cases h;rw[aNM e];exact Ec
  exact Ez _ (N9 h)
def rD {β:Type} (t f:Nat):List ((Nat×Nat)×β)→Option β
 | []=>none
 |((u,g),b)::l=>match Nat.beq t u&&Nat.beq f g with |true=>some b|false=>rD t f l
def jc {β:Type} {t f:Nat} {b:β}:∀{l:List ((Nat×Nat)×β)},rD t f l=some b→((t,f),b)∈l
 | [],h=>Fr
 |((u,g),c)::l,h=>by
  unfold rD at h;split at h
  ·rename_i e;cases h;rw[CV]at e;rw[aNM e.1,aNM e.2];exact Ec
  exact Ez _ (jc h)
structure OU where
 ns:List (Operand×AV)
 x:AV
 E:List Aq
 bar:Bool
def aHG (op:BinOp) (k:IntKind) (a b:Int):Option Value:=
 match op with
 | .add=>some (.int k (k.wrap (a+b)))
 | .sub=>some (.int k (k.wrap (a-b)))
 | .mul=>some (.int k (k.wrap (a*b)))
 | .eql=>some (.bool (a==b))
 | .neq=>some (.bool (a != b))
 | .lss=>some (.bool (decide (a<b)))
 | .leq=>some (.bool (decide (a≤b)))
 | .gtr=>some (.bool (decide (a>b)))
 | .geq=>some (.bool (decide (a≥b)))
 |_=>none
def anJ {op:BinOp} {k:IntKind} {a b:Int} {r:Value} {t:TypeId} {P:Program} (h:aHG op k a b=some r) (w:World):(binOp op t (.int k a) (.int k b)).run P w=.ok r w:=by
 unfold aHG at h;cases op<;>first|(cases h;done)|(cases h;simp[binOp,Op.intArith,Op.intCmp];done)|(cases h;cases k<;>rfl)
def aFm (op:BinOp) (a b:ByteArray):Option Value:=
 match op with
 | .eql=>some (.bool (a.toList==b.toList))
 | .neq=>some (.bool (!(a.toList==b.toList)))
 | .lss=>some (.bool (Op.bytesLess a.toList b.toList))
 | .leq=>some (.bool (Op.bytesLess a.toList b.toList||a.toList==b.toList))
 | .gtr=>some (.bool (!(Op.bytesLess a.toList b.toList||a.toList==b.toList)))
 | .geq=>some (.bool (!Op.bytesLess a.toList b.toList))
 |_=>none
def agd {op:BinOp} {a b:ByteArray} {r:Value} {t:TypeId} {P:Program} (h:aFm op a b=some r) (w:World):(binOp op t (.string a) (.string b)).run P w=.ok r w:=by
 unfold aFm at h;cases op<;>first|(cases h;done)|(cases h;rfl)
def BN.aAP {P:Program} {o:Oper} {ns j:List (Operand×AV)} {es es':List Aq} {x:AV} (h:BN P o ns es x es') (m:∀n∈ns,n∈j∨n=(.const (.slice none 0 0),.d (.sl []))):BN P o j es x es':=by
 intro C ok H a w Q u z;refine h C ok H a w Q u (fun n q=>?_);rcases m n q with I|rfl
 ·exact z n I
 exact .d _ _ (.sl0 none 0)
def aG0 {P:Program} (K:Kn P) (σ:Aj) (o:Oper):Option OU:=
 match o.op with
 | .move x=>match x with
   | .const (.slice none 0 0)=>some ⟨[],.d (.sl []),σ.ents,false⟩
   |x=>some ⟨[(x,σ.get x)],σ.get x,σ.ents,false⟩
 | .assign x=>match x with
   | .const (.slice none 0 0)=>some ⟨[],.d (.sl []),σ.ents,false⟩
   |x=>some ⟨[(x,σ.get x)],σ.get x,σ.ents,false⟩
 | .pick c x y=>match σ.get c with
   | .d (.lit (.bool true))=>some ⟨[(c,.d (.lit (.bool true))),(x,σ.get x)],σ.get x,σ.ents,false⟩
   | .d (.lit (.bool false))=>some ⟨[(c,.d (.lit (.bool false))),(y,σ.get y)],σ.get y,σ.ents,false⟩
   |_=>none
 | .binOp op t x y _=>match σ.get x,σ.get y with
   | .d (.lit (.int k a)),.d (.lit (.int k' b))=>if k=k' then(aHG op k a b).map fun r=>⟨[(x,.d (.lit (.int k a))),(y,.d (.lit (.int k b)))],.d (.lit r),σ.ents,false⟩else none
   | .d (.lit (.string a)),.d (.lit (.string b))=>(aFm op a b).map fun r=>⟨[(x,.d (.lit (.string a))),(y,.d (.lit (.string b)))],.d (.lit r),σ.ents,false⟩
   | .d (.lit (.bool a)),.d (.lit (.bool b))=>match Q5 t K.und with
     |some .bool=>match op with
      | .eql=>some ⟨[(x,.d (DX a)),(y,.d (DX b))],.d (DX (a==b)),σ.ents,false⟩
      | .neq=>some ⟨[(x,.d (DX a)),(y,.d (DX b))],.d (DX (!(a==b))),σ.ents,false⟩
      |_=>none
     |_=>none
   |_,_=>none
 | .unOp op _ x=>match σ.get x with
   | .d (.lit (.bool b))=>match op with
     | .not=>some ⟨[(x,.d (.lit (.bool b)))],.d (.lit (.bool !b)),σ.ents,false⟩
     |_=>none
   | .d (.lit (.int k n))=>match op with
     | .neg=>some ⟨[(x,.d (.lit (.int k n)))],.d (.lit (.int k (k.wrap (0-n)))),σ.ents,false⟩
     |_=>none
   |_=>none
 | .convert s t x=>match Q5 s K.und,Q5 t K.und,σ.get x with
   |some (.int I),some (.int k),.d (.lit (.int J n))=>if I=J then some ⟨[(x,.d (.lit (.int I n)))],.d (.lit (.int k (k.wrap n))),σ.ents,false⟩else none
   |some .string,some .string,.d (.lit (.string u))=>some ⟨[(x,.d (DU u))],.d (DU u),σ.ents,false⟩
   |_,_,_=>none
 | .extract x i=>match σ.get x with
   | .eF xs=>match xs[i]? with
     |some v=>some ⟨[(x,.eF xs)],v,σ.ents,false⟩
     |none=>none
   |_=>none
 | .fieldAddr t x f=>match rD t f K.fld,σ.get x with
   |some off,.ptr k q=>some ⟨[(x,.ptr k q)],.ptr k (q+off),σ.ents,false⟩
   |some off,.kT k i q=>some ⟨[(x,.kT k i q)],.kT k i (q+off),σ.ents,false⟩
   |some off,.d (.ref cs q)=>some ⟨[(x,.d (.ref cs q))],.d (.ref cs (q+off)),σ.ents,false⟩
   |_,_=>none
 | .nilCheck x=>match σ.get x with
   | .ptr k q=>some ⟨[(x,.ptr k q)],.ptr k q,σ.ents,false⟩
   | .kT k i q=>some ⟨[(x,.kT k i q)],.kT k i q,σ.ents,false⟩
   | .d (.ref cs q)=>some ⟨[(x,.d (.ref cs q))],.d (.ref cs q),σ.ents,false⟩
   |_=>none
 | .field t x f=>match rD t f K.part,σ.get x with
   |some (off,agg,n),.d (.agg cs)=>if off+n≤cs.length∧(agg=false→n=1)then some ⟨[(x,.d (.agg cs))],.d (Oy agg cs off n),σ.ents,false⟩else none
   |_,_=>none
 | .load t x=>match Q5 t K.ty,σ.get x with
   |some (agg,n),.d (.ref cs off)=>if off+n≤cs.length∧(agg=false→n=1)then some ⟨[(x,.d (.ref cs off))],.d (Oy agg cs off n),σ.ents,false⟩else none
   |some (agg,n),.ptr k off=>match σ.ents[k]? with
    |some (.box cs)=>if(off+n≤cs.length∧(agg=false→n=1))∧cs.all AV.yR=true then some ⟨[(x,.ptr k off)],.d (Oy agg (IG cs) off n),σ.ents,false⟩else match agg,n,cs[off]? with
     |false,1,some v=>some ⟨[(x,.ptr k off)],v,σ.ents,false⟩
     |_,_,_=>none
    |_=>none
   |_,_=>none
 | .box _ x=>if(σ.get x).cells.all AV.leaf=true then some ⟨[(x,σ.get x)],.ptr σ.ents.length 0,σ.ents++[.box (σ.get x).cells],true⟩else none
 | .alloc t=>match Q5 t K.zero with
   |some z=>some ⟨[],.ptr σ.ents.length 0,σ.ents++[.box (Et z)],true⟩
   |none=>none
 | .store t x y=>match Q5 t K.ty,σ.get x with
   |some (_,n),.ptr k off=>match σ.ents[k]? with
    |some (.box cs)=>match y with
     | .const (.slice none 0 0)=>if n=1∧off+1≤cs.length then some ⟨[(x,.ptr k off)],.junk,σ.ents.set k (.box (setAt cs off [.d (.sl [])])),true⟩else none
     |y=>if((σ.get y).cells.all AV.leaf=true∧(σ.get y).cells.length=n)∧off+n≤cs.length then some ⟨[(x,.ptr k off),(y,σ.get y)],.junk,σ.ents.set k (.box (setAt cs off (σ.get y).cells)),true⟩else none
    |_=>none
   |_,_=>none
 | .build t j=>match Q5 t K.st with
   |some (m,z)=>
    if Lm (fun(i:Nat)=>m[i]?) (Et z).length j.toList (j.toList.map fun p=>σ.get p.2)=true∧(J6 (fun(i:Nat)=>m[i]?) (Et z) j.toList (j.toList.map fun p=>σ.get p.2)).all AV.yR=true
    then some ⟨Lu j.toList (j.toList.map fun p=>σ.get p.2),.d (.agg (IG (J6 (fun(i:Nat)=>m[i]?) (Et z) j.toList (j.toList.map fun p=>σ.get p.2)))),σ.ents,false⟩
    else none
   |none=>match Q5 t K.arr with
    |some (s,z)=>
     if Lm (fun i=>some (i*s,s)) (Et z).length j.toList (j.toList.map fun p=>σ.get p.2)=true∧(J6 (fun i=>some (i*s,s)) (Et z) j.toList (j.toList.map fun p=>σ.get p.2)).all AV.yR=true
     then some ⟨Lu j.toList (j.toList.map fun p=>σ.get p.2),.d (.agg (IG (J6 (fun i=>some (i*s,s)) (Et z) j.toList (j.toList.map fun p=>σ.get p.2)))),σ.ents,false⟩
     else none
    |none=>none
 | .call c=>match c.callee,c.args.toList,c.argTypes.toList with
   | .builtin .len,[x],[t]=>match Q5 t K.und,σ.get x with
     |some .string,.d (.lit (.string s))=>some ⟨[(x,.d (DU s))],.d (Ac s.size),σ.ents,false⟩
     |_,_=>none
   |_,_,_=>none
 |_=>none
def aJP (σ:Aj):∀(l:List (Nat×Operand)),needs σ (Lu l (l.map fun p=>σ.get p.2))
 | []=>trivial
 |(_,x)::l=>⟨rfl,aJP σ l⟩
def anX {P:Program} (K:Kn P) {σ:Aj} {o:Oper} {r:OU} (h:aG0 K σ o=some r):BN P o r.ns σ.ents r.x r.E∧needs σ r.ns∧(r.bar=false→r.E=σ.ents):=by
 unfold aG0 at h;split at h
 ·rename_i x j;split at h
  ·cases h;exact⟨aiW j,trivial,fun _=>rfl⟩
  cases h;exact⟨an5 j,⟨rfl,trivial⟩,fun _=>rfl⟩
 ·rename_i x j;split at h
  ·cases h;exact⟨ako j,trivial,fun _=>rfl⟩
  cases h;exact⟨alD j,⟨rfl,trivial⟩,fun _=>rfl⟩
 ·rename_i c x y j;split at h
  ·rename_i e;cases h;exact⟨amd true rfl j,⟨e,rfl,trivial⟩,fun _=>rfl⟩
  ·rename_i e;cases h;exact⟨arT false rfl j,⟨e,rfl,trivial⟩,fun _=>rfl⟩
  cases h
 ·rename_i op t x y t' j;split at h
  ·rename_i k a k' b O U;split at h
   ·rename_i I;subst I;rw[TT]at h;obtain⟨v,L,rfl⟩:=h;exact⟨Kq j (anJ L) ⟨rfl,rfl⟩,⟨O,U,trivial⟩,fun _=>rfl⟩
   cases h
  ·rename_i a b O U;rw[TT]at h;obtain⟨v,L,rfl⟩:=h;exact⟨Kq j (agd L) ⟨rfl,rfl⟩,⟨O,U,trivial⟩,fun _=>rfl⟩
  ·rename_i a b O U;split at h
   ·rename_i Y;have Y:=K.ajc.mem _ (N9 Y);split at h
    ·cases h;exact⟨aoo Y j,⟨O,U,trivial⟩,fun _=>rfl⟩
    ·cases h;exact⟨amV Y j,⟨O,U,trivial⟩,fun _=>rfl⟩
    cases h
   cases h
  cases h
 ·rename_i op t x j;split at h
  ·rename_i b e;split at h
   ·cases h;exact⟨aLi j (fun _=>rfl),⟨e,trivial⟩,fun _=>rfl⟩
   cases h
  ·rename_i k n e;split at h
   ·cases h;exact⟨aLi j (fun _=>rfl),⟨e,trivial⟩,fun _=>rfl⟩
   cases h
  cases h
 ·rename_i s t x j;split at h
  ·rename_i k0 k k1 n q h2 e;split at h
   ·rename_i I;subst I;cases h;exact⟨asj (K.ajc.mem _ (N9 q)) (K.ajc.mem _ (N9 h2)) j,⟨e,trivial⟩,fun _=>rfl⟩
   cases h
  ·rename_i u q h2 e;cases h;exact⟨asL (K.ajc.mem _ (N9 q)) (K.ajc.mem _ (N9 h2)) j,⟨e,trivial⟩,fun _=>rfl⟩
  cases h
 ·rename_i x i j;split at h
  ·rename_i xs e;split at h
   ·rename_i v L;cases h;exact⟨ahd j L,⟨e,trivial⟩,fun _=>rfl⟩
   cases h
  cases h
 ·rename_i t x f j;split at h
  ·rename_i off k o' q e;cases h;exact⟨aqN (K.hfld.mem _ (jc q)) j,⟨e,trivial⟩,fun _=>rfl⟩
  ·rename_i off k i o' q e;cases h;exact⟨alR (K.hfld.mem _ (jc q)) j,⟨e,trivial⟩,fun _=>rfl⟩
  ·rename_i off cs o' q e;cases h;exact⟨ami (K.hfld.mem _ (jc q)) j,⟨e,trivial⟩,fun _=>rfl⟩
  cases h
 ·rename_i x j;split at h
  ·rename_i e;cases h;exact⟨akZ j,⟨e,trivial⟩,fun _=>rfl⟩
  ·rename_i e;cases h;exact⟨an1 j,⟨e,trivial⟩,fun _=>rfl⟩
  ·rename_i e;cases h;exact⟨aqz j,⟨e,trivial⟩,fun _=>rfl⟩
  cases h
 ·rename_i t x f j;split at h
  ·rename_i off agg n cs q e;split at h
   ·rename_i m;cases h;exact⟨amW rfl (K.hpart.mem _ (jc q)) m.1 m.2 j,⟨e,trivial⟩,fun _=>rfl⟩
   cases h
  cases h
 ·rename_i t x j;split at h
  ·rename_i agg n cs off q e;split at h
   ·rename_i m;cases h;exact⟨akQ rfl (K.hty.mem _ (N9 q)) m.1 m.2 j,⟨e,trivial⟩,fun _=>rfl⟩
   cases h
  ·rename_i agg n k off q e;split at h
   ·rename_i cs I;split at h
    ·rename_i m;cases h;exact⟨as3 rfl I m.2 (K.hty.mem _ (N9 q)) m.1.1 m.1.2 j,⟨e,trivial⟩,fun _=>rfl⟩
    split at h
    ·rename_i v L _;cases h;exact⟨aPG I L (K.hty.mem _ (N9 q)) j,⟨e,trivial⟩,fun _=>rfl⟩
    cases h
   cases h
  cases h
 ·rename_i t x j;split at h
  ·rename_i m;cases h;exact⟨ari m j,⟨rfl,trivial⟩,fun M=>by cases M⟩
  cases h
 ·rename_i t j;split at h
  ·rename_i z hz;cases h;exact⟨atL (K.hzero.mem _ (N9 hz)).1 (K.hzero.mem _ (N9 hz)).2 j,trivial,fun M=>by cases M⟩
  cases h
 ·rename_i t x y j;split at h
  ·rename_i agg n k off q e;split at h
   ·rename_i cs I;split at h
    ·split at h
     ·rename_i m;cases h;refine⟨BN.aAP (aQG (v:=.d (.sl [])) I rfl (by have h9:=(K.hty.mem _ (N9 q)).size;rw[m.1]at h9;exact h9) rfl m.2 j) (fun n hn=>?_),⟨e,trivial⟩,fun M=>by cases M⟩;simp only[EO,Ef,iM]at hn;rcases hn with rfl|rfl
      ·exact .inl Am
      exact .inr rfl
     cases h
    split at h
    ·rename_i m;cases h;exact⟨aQG I m.1.1 (K.hty.mem _ (N9 q)).size m.1.2 m.2 j,⟨e,rfl,trivial⟩,fun M=>by cases M⟩
    cases h
   cases h
  cases h
 ·rename_i t parts j;split at h
  ·rename_i Z z hs;split at h
   ·rename_i m;cases h;exact⟨aoF (K.hst.mem _ (N9 hs)) _ j rfl m.1 m.2,aJP σ _,fun _=>rfl⟩
   cases h
  split at h
  ·rename_i s z hs;split at h
   ·rename_i m;cases h;exact⟨ajL (K.harr.mem _ (N9 hs)) _ m.1 m.2 j,aJP σ _,fun _=>rfl⟩
   cases h
  cases h
 ·rename_i c j;split at h
  ·rename_i x t J ha ht
   have j:o.op=.call { callee:=.builtin .len,args:= #[x],argTypes:= #[t] }:=by
    obtain⟨cal,aDK,ts⟩:=c;simp only at J ha ht;rw[j,J,show aDK= #[x]from by rw[←eL (xs:=aDK),ha],show ts= #[t]from by rw[←eL (xs:=ts),ht]]
   split at h
   ·rename_i s q e;cases h;exact⟨aq7 s (K.ajc.mem _ (N9 q)) j,⟨e,trivial⟩,fun _=>rfl⟩
   cases h
  cases h
 cases h
def IV (ops:Array Oper) (σ:Aj):Option (Nat×Bool)→Option Bool
 |none=>some true
 |some (j,m)=>match(ops[j]?).bind (·.dst)with
  |some d=>match σ.slots.getD d .junk with
   | .d (.lit (.bool b))=>some (b==m)
   | .d (.lit (.tuple a))=>match a.toList with
     | []=>some false
     |_=>none
   |_=>none
  |none=>none
def Ku {ops:Array Oper} {σ:Aj} {g:Option (Nat×Bool)} (h:IV ops σ g=some true):Um ops σ g:=by
 unfold IV at h;split at h
 ·exact .inl rfl
 rename_i j m;split at h
 ·rename_i d hd;split at h
  ·rename_i b hs;refine .inr ⟨j,m,d,b,rfl,hd,hs,?_⟩;simpa using h
  ·split at h<;>cases h
  cases h
 cases h
def aog {ops:Array Oper} {σ:Aj} {g:Option (Nat×Bool)} (h:IV ops σ g=some false):WZ ops σ g:=by
 unfold IV at h;split at h
 ·cases h
 rename_i j m;split at h
 ·rename_i d hd;split at h
  ·rename_i b hs;refine asB j m d b rfl hd hs ?_;have :(b==m)=false:=CG h;cases b<;>cases m<;>first|rfl|cases this
  ·rename_i a hs;split at h
   ·rename_i ha;have ha:a= #[]:=by rw[←eL (xs:=a),ha]
    subst ha;exact afU j m d rfl hd hs
   cases h
  cases h
 cases h
def Uo {P:Program} (K:Kn P) (ops:Array Oper) (σ:Aj) (o:Oper):Option OU:=
 match IV ops σ o.guard with
 |some true=>match aG0 K σ o with
  |some r=>if(KF r.ns).all (tmpsOf o).contains=true then some r else none
  |none=>none
 |some false=>some ⟨[],.d (.lit undef),σ.ents,false⟩
 |none=>none
def X4 {P:Program} (K:Kn P) {ops:Array Oper} {σ:Aj} {o:Oper} {r:OU} (h:Uo K ops σ o=some r):Qe P ops σ r.x r.E r.bar o:=by
 unfold Uo at h;split at h
 ·rename_i j;split at h
  ·rename_i J m;split at h
   ·rename_i q;cases h;obtain⟨u,z,I⟩:=anX K m;exact⟨.inl ⟨_,u,z,q,Ku j⟩,I⟩
   cases h
  cases h
 ·rename_i j;cases h;exact⟨.inr ⟨rfl,rfl,aog j⟩,fun _=>rfl⟩
 cases h
def Gt {P:Program} (K:Kn P) (ops:Array Oper):Nat→List Oper→Aj→Option (Aj×List OU)
 |0,_,σ=>some (σ,[])
 |n+1,l,σ=>match l with
  |o::l=>match Uo K ops σ o with
   |some r=>match Gt K ops n l (σ.put o.dst r.x r.E)with
    |some (σ',rs)=>some (σ',r::rs)
    |none=>none
   |none=>none
  | []=>none
def Qc :Option (Aj×List OU)→Aj
 |some (σ,_)=>σ
 |none=>⟨[],[],0⟩
def ZQ :Option (Aj×List OU)→List OU
 |some (_,rs)=>rs
 |none=>[]
def Chain.auto {P:Program} (K:Kn P) {ops:Array Oper}:∀(n:Nat) {l:List Oper} {σ σ':Aj},(Gt K ops n l σ).isSome=true→Chain P ops (l.drop n) (Qc (Gt K ops n l σ)) σ'→Chain P ops l σ σ'
 |0,l,σ,σ',_,k=>by simpa[Gt,Qc]using k
 |n+1,l,σ,σ',h,k=>by
  unfold Gt at h k;split at h
  ·rename_i o l';split at h
   ·rename_i r m;split at h
    ·rename_i q rs j;simp only[m,j]at k;refine .ac1 o.dst (X4 K m) rfl (Chain.auto K n jB ?_);rw[j];exact k
    cases h
   cases h
  cases h
def Eb.auto {P:Program} (K:Kn P) {ops:Array Oper}:∀(n:Nat) {l:List Oper} {σ σ':Aj} {rs:List AV} {ess:List (List Aq)} {bs:List Bool},(Gt K ops n l σ).isSome=true→Eb P ops (l.drop n) (Qc (Gt K ops n l σ)) rs ess bs σ'→
 Eb P ops l σ ((ZQ (Gt K ops n l σ)).map OU.x++rs) ((ZQ (Gt K ops n l σ)).map OU.E++ess) ((ZQ (Gt K ops n l σ)).map OU.bar++bs) σ'
 |0,l,σ,σ',rs,ess,bs,_,k=>by simpa[Gt,Qc,ZQ]using k
 |n+1,l,σ,σ',rs,ess,bs,h,k=>by
  unfold Gt at h k ⊢;split at h
  ·rename_i o l';split at h
   ·rename_i r m;split at h
    ·rename_i u q j;simp only[m,j]at k ⊢;refine .ac1 o.dst (X4 K m) rfl ?_;have :=Eb.auto K n (l:=l') (σ:=σ.put o.dst r.x r.E) (σ':=σ') (rs:=rs) (ess:=ess) (bs:=bs) jB (by rw[j];exact k);rw[j]at this;exact this
    cases h
   cases h
  cases h
def Chain.a {P:Program} [T:Kn P] {ops:Array Oper} {l:List Oper} {σ σ':Aj} (n:Nat) (k:Chain P ops (l.drop n) (Qc (Gt T ops n l σ)) σ') (h:(Gt T ops n l σ).isSome=true:=by kernel_rfl):Chain P ops l σ σ':=Chain.auto T n h k
def Eb.a {P:Program} [T:Kn P] {ops:Array Oper} {l:List Oper} {σ σ':Aj} {rs:List AV} {ess:List (List Aq)} {bs:List Bool} (n:Nat) (k:Eb P ops (l.drop n) (Qc (Gt T ops n l σ)) rs ess bs σ') (h:(Gt T ops n l σ).isSome=true:=by kernel_rfl):
 Eb P ops l σ ((ZQ (Gt T ops n l σ)).map OU.x++rs) ((ZQ (Gt T ops n l σ)).map OU.E++ess) ((ZQ (Gt T ops n l σ)).map OU.bar++bs) σ':=Eb.auto T n h k
def Chain.c {P:Program} [T:Kn P] {ops:Array Oper} {o:Oper} {rest:List Oper} {σ σ':Aj} {e c:Bool} (h:some e=some c) (k:Chain P ops rest (σ.qG o.dst (.d (.lit (.bool c)))) σ') (hs:(Uo T ops σ o).map (fun r=>(r.x,r.E,r.bar))=some (.d (.lit (.bool e)),σ.ents,false):=by kernel_rfl):Chain P ops (o::rest) σ σ':=by
 rw[TT]at hs;obtain⟨r,q,j⟩:=hs;have m:=X4 T q;simp only[RF]at j;rw[j.1,j.2.1,j.2.2,CG h]at m;exact .ac1 o.dst m rfl k
def Eb.c {P:Program} [T:Kn P] {ops:Array Oper} {o:Oper} {rest:List Oper} {σ σ':Aj} {rs:List AV} {ess:List (List Aq)} {bs:List Bool} {e c:Bool} (h:some e=some c) (k:Eb P ops rest (σ.qG o.dst (.d (.lit (.bool c)))) rs ess bs σ') (hs:(Uo T ops σ o).map (fun r=>(r.x,r.E,r.bar))=some (.d (.lit (.bool e)),σ.ents,false):=by kernel_rfl):
 Eb P ops (o::rest) σ (.d (.lit (.bool c))::rs) (σ.ents::ess) (false::bs) σ':=by
 rw[TT]at hs;obtain⟨r,q,j⟩:=hs;have m:=X4 T q;simp only[RF]at j;rw[j.1,j.2.1,j.2.2,CG h]at m;exact .ac1 o.dst m rfl k
def acK (σ:Aj) (ns:List (Operand×AV)):Prop:=(ns.map fun n=>σ.get n.1)=ns.map (·.2)
def Sr {σ:Aj}:∀{ns:List (Operand×AV)},acK σ ns→needs σ ns
 | [],_=>trivial
 |n::ns,h=>by
  simp only[acK,I7,vW]at h;exact⟨h.1,Sr h.2⟩
def Chain.p {P:Program} {ops:Array Oper} {o:Oper} {rest:List Oper} {σ σ':Aj} {ns:List (Operand×AV)} {x:AV} (h:BN P o ns σ.ents x σ.ents) (k:Chain P ops rest (σ.qG o.dst x) σ') (j:(ns.map fun n=>σ.get n.1)=ns.map (·.2):=by kernel_rfl) (m:IV ops σ o.guard=some true:=by kernel_rfl):Chain P ops (o::rest) σ σ':=
 .op o.dst h (Sr j) (Ku m) rfl k
def Eb.p {P:Program} {ops:Array Oper} {o:Oper} {rest:List Oper} {σ σ':Aj} {ns:List (Operand×AV)} {x:AV} {rs:List AV} {ess:List (List Aq)} {bs:List Bool} (h:BN P o ns σ.ents x σ.ents) (k:Eb P ops rest (σ.qG o.dst x) rs ess bs σ') (j:(ns.map fun n=>σ.get n.1)=ns.map (·.2):=by kernel_rfl) (m:IV ops σ o.guard=some true:=by kernel_rfl)
 (q:(KF ns).all (tmpsOf o).contains=true:=by kernel_rfl):Eb P ops (o::rest) σ (x::rs) (σ.ents::ess) (false::bs) σ':=
 .op o.dst h (Sr j) (Ku m) rfl q k
def Chain.e {P:Program} {ops:Array Oper} {o:Oper} {rest:List Oper} {σ σ':Aj} {ns:List (Operand×AV)} {x:AV} {es':List Aq} (E:List Aq) (h:BN P o ns σ.ents x es') (k:Chain P ops rest (σ.put o.dst x E) σ') (j:es'=E:=by kernel_rfl) (m:(ns.map fun n=>σ.get n.1)=ns.map (·.2):=by kernel_rfl) (q:IV ops σ o.guard=some true:=by kernel_rfl):Chain P ops (o::rest) σ σ':=
 .oe o.dst E h j (Sr m) (Ku q) rfl k
def Eb.e {P:Program} {ops:Array Oper} {o:Oper} {rest:List Oper} {σ σ':Aj} {ns:List (Operand×AV)} {x:AV} {es':List Aq} {rs:List AV} {ess:List (List Aq)} {bs:List Bool} (E:List Aq) (h:BN P o ns σ.ents x es') (k:Eb P ops rest (σ.put o.dst x E) rs ess bs σ') (j:es'=E:=by kernel_rfl) (m:(ns.map fun n=>σ.get n.1)=ns.map (·.2):=by kernel_rfl) (q:IV ops σ o.guard=some true:=by kernel_rfl)
 (u:(KF ns).all (tmpsOf o).contains=true:=by kernel_rfl):Eb P ops (o::rest) σ (x::rs) (E::ess) (true::bs) σ':=
 .oe o.dst E h j (Sr m) (Ku q) rfl u k
def UA (σ:Aj) (o:Oper):Option (FuncId×List AV):=
 match o.op with
 | .call c=>match c.callee with
   | .value (.func f)=>some (f,c.args.toList.map σ.get)
   |_=>none
 |_=>none
def adp {srcs:List DJ}:∀{l:List AV},l.all AV.yR=true→Kz srcs l l
 | [],_=>trivial
 |x::l,h=>by
  simp only[qY,CV]at h;refine⟨?_,adp h.2⟩;cases x with
  |d x=>exact .inl rfl
  |_=>cases h.1
def abh (σ:Aj):∀(l:List Operand),needs σ (Em l (l.map σ.get))
 | []=>trivial
 |_::l=>⟨rfl,abh σ l⟩
def aAp {P:Program} {σ:Aj} {o:Oper} {f:FuncId} {dX:List AV} {q:AV} (L:Ap P f dX [] q []) (M:DV P f=true) (m:UA σ o=some (f,dX)) (hd:dX.all AV.yR=true):∃ns,BN P o ns σ.ents (q.up [] σ.ents.length) σ.ents∧needs σ ns∧(KF ns).all (tmpsOf o).contains=true:=by
 unfold UA at m;split at m
 ·rename_i c J;split at m
  ·rename_i Y j;cases m;obtain⟨callee,args,ats⟩:=c;simp only at j;subst j;refine⟨_,aNW L M (adp hd) Am rfl J,abh σ _,?_⟩;rw[E5];intro t z;unfold KF at z;rw[SN]at z;obtain⟨n,O,I⟩:=z
   have u:n.1∈args.toList:=by
    have :∀(l:List Operand) (vs:List AV),n∈Em l vs→n.1∈l:=by
     intro l
     induction l with
     |nil=>intro vs h;cases vs<;>simp[Em]at h
     |cons x l U=>
      intro vs h;cases vs with
      |nil=>simp[Em]at h
      |cons v vs=>
       simp only[Em,EO]at h;rcases h with rfl|h
       ·exact Ec
       exact Ez _ (U vs h)
    exact this _ _ O
   unfold tmpsOf;simp only[List.contains_iff_mem,SN];refine⟨n.1,?_,I⟩;rw[J];show n.1∈(#[Operand.func f]++args).toList;simp[u]
  cases m
 cases m
def Chain.call {P:Program} {ops:Array Oper} {o:Oper} {rest:List Oper} {σ σ':Aj} {f:FuncId} {dX:List AV} {j:AV} (m:Ap P f dX [] j []) (q:DV P f=true) (k:Chain P ops rest (σ.qG o.dst (j.up [] σ.ents.length)) σ') (u:UA σ o=some (f,dX):=by kernel_rfl)
 (hd:dX.all AV.yR=true:=by kernel_rfl) (z:IV ops σ o.guard=some true:=by kernel_rfl):Chain P ops (o::rest) σ σ':=by
 obtain⟨ns,I,J,_⟩:=aAp m q u hd;exact .op o.dst I J (Ku z) rfl k
def Eb.call {P:Program} {ops:Array Oper} {o:Oper} {rest:List Oper} {σ σ':Aj} {f:FuncId} {dX:List AV} {j:AV} {rs:List AV} {ess:List (List Aq)} {bs:List Bool} (m:Ap P f dX [] j []) (q:DV P f=true) (k:Eb P ops rest (σ.qG o.dst (j.up [] σ.ents.length)) rs ess bs σ') (u:UA σ o=some (f,dX):=by kernel_rfl)
 (hd:dX.all AV.yR=true:=by kernel_rfl) (z:IV ops σ o.guard=some true:=by kernel_rfl):Eb P ops (o::rest) σ (j.up [] σ.ents.length::rs) (σ.ents::ess) (false::bs) σ':=by
 obtain⟨ns,I,J,L⟩:=aAp m q u hd;exact .op o.dst I J (Ku z) rfl L k
def ji (v:Value):Exit:=.panic [{ v,recovered:=false }]
structure CW (P:Program) (ops:Array Oper) (l:List Oper) (σ:Aj) (K:Exit→Aj→Prop):Prop where
 run:∀(ro:Option Nat) (l2:List Oper) (Q:Exit→Act→World→Prop) (C:Dw) (ok:Nat→Prop) (H:List BJ) (a:Act) (w:World),Holds C ok H σ a w→
  ((∀σ' ok' H' a' w',K .normal σ'→Holds C ok' H' σ' a' w'→wpListIn (IE ro) 0 P ops Q l2 a' w')∧(∀v σ' ok' H' a' w',K (ji v) σ'→Holds C ok' H' σ' a' w'→Q (ji v) a' w'))→wpListIn (IE ro) 0 P ops Q (l++l2) a w
section
variable {P : Program} {ops : Array Oper} {o : Oper} {rest l : List Oper} {σ : Aj} {K : Exit → Aj → Prop}
def CW.nil (h:K .normal σ):CW P ops [] σ K:=⟨fun _ _ _ _ _ _ _ _ j m=>m.1 _ _ _ _ _ h j⟩
def CW.bH {M:Aj→Prop} (h:M σ):CW P ops [] σ (Jf M K):=.nil h
def CW.step {x:AV} {E:List Aq} {bar:Bool} (hs:Qe P ops σ x E bar o) (k:CW P ops rest (σ.put o.dst x E) K):CW P ops (o::rest) σ K:=by
 refine⟨fun ro m Q C ok H a w j J=>?_⟩;show wpListIn (IE ro) 0 P ops Q (o::(rest++m)) a w;unfold wpListIn;rcases hs.1 with⟨ns,L,M,_,q⟩|⟨rfl,rfl,q⟩
 ·rw[CJ (OH j q)];refine Pm ?_ (L.inR ro C ok H a w Q j.mem (fun n u=>Ou M n u▸j.get n.1));rintro a' w' ⟨v,ok',H',rfl,z,I,O,U⟩;exact k.run ro m Q C _ _ _ _ (j.put o.dst z I O U) J
 rw[CU (by rw[aHO j q];simp)];exact⟨fun _ _=>trivial,k.run ro m Q C _ _ _ _ (j.put o.dst (.refl _ _) (.refl _) j.mem (.d _ _ (.lit _))) J⟩
def CW.conv (m:Aj) (h:∀C ok H a w,Holds C ok H σ a w→∃ok',Holds C ok' H m a w) (k:CW P ops l m K):CW P ops l σ K:=⟨fun ro q Q C ok H a w u z=>by
 obtain⟨ok',j⟩:=h C ok H a w u
 exact k.run ro q Q C _ _ _ _ j z⟩
def CW.auto (T:Kn P):∀(n:Nat) {l:List Oper} {σ:Aj},(Gt T ops n l σ).isSome=true→CW P ops (l.drop n) (Qc (Gt T ops n l σ)) K→CW P ops l σ K
 |0,l,σ,_,k=>by simpa[Gt,Qc]using k
 |n+1,l,σ,h,k=>by
  unfold Gt at h k;split at h
  ·rename_i o l';split at h
   ·rename_i r m;split at h
    ·rename_i q rs j;simp only[m,j]at k;refine .step (X4 T m) (CW.auto T n jB ?_);rw[j];exact k
    cases h
   cases h
  cases h
def CW.a [T:Kn P] (n:Nat) (k:CW P ops (l.drop n) (Qc (Gt T ops n l σ)) K) (h:(Gt T ops n l σ).isSome=true:=by kernel_rfl):CW P ops l σ K:=CW.auto T n h k
def CW.p {ns:List (Operand×AV)} {x:AV} (h:BN P o ns σ.ents x σ.ents) (k:CW P ops rest (σ.qG o.dst x) K) (j:(ns.map fun n=>σ.get n.1)=ns.map (·.2):=by kernel_rfl) (m:IV ops σ o.guard=some true:=by kernel_rfl) (q:(KF ns).all (tmpsOf o).contains=true:=by kernel_rfl):CW P ops (o::rest) σ K:=
 .step (aOq h (Sr j) (Ku m) q) k
def CW.e {ns:List (Operand×AV)} {x:AV} {es':List Aq} (E:List Aq) (h:BN P o ns σ.ents x es') (k:CW P ops rest (σ.put o.dst x E) K) (j:es'=E:=by kernel_rfl) (m:(ns.map fun n=>σ.get n.1)=ns.map (·.2):=by kernel_rfl) (q:IV ops σ o.guard=some true:=by kernel_rfl) (u:(KF ns).all (tmpsOf o).contains=true:=by kernel_rfl):CW P ops (o::rest) σ K:=
 .step (bar:=true) ⟨.inl ⟨ns,j▸h,Sr m,u,Ku q⟩,fun h=>Fr⟩ k
def CW.call {f:FuncId} {dX:List AV} {j:AV} (m:Ap P f dX [] j []) (q:DV P f=true) (k:CW P ops rest (σ.qG o.dst (j.up [] σ.ents.length)) K) (u:UA σ o=some (f,dX):=by kernel_rfl)
 (hd:dX.all AV.yR=true:=by kernel_rfl) (z:IV ops σ o.guard=some true:=by kernel_rfl):CW P ops (o::rest) σ K:=by
 obtain⟨ns,I,J,L⟩:=aAp m q u hd;exact .step (aOq I J (Ku z) L) k
def CW.c [T:Kn P] {e c:Bool} (h:some e=some c) (k:CW P ops rest (σ.qG o.dst (.d (.lit (.bool c)))) K) (hs:(Uo T ops σ o).map (fun r=>(r.x,r.E,r.bar))=some (.d (.lit (.bool e)),σ.ents,false):=by kernel_rfl):CW P ops (o::rest) σ K:=by
 rw[TT]at hs;obtain⟨r,q,j⟩:=hs;have m:=X4 T q;simp only[RF]at j;rw[j.1,j.2.1,j.2.2,CG h]at m;exact .step m k
def Aj.wipe (j:List Nat) (σ:Aj):Aj:=⟨j.foldl (fun l d=>l.set d .junk) σ.slots,σ.ents,σ.base⟩
def Holds.wipe {C:Dw} {ok:Nat→Prop} {H:List BJ} {a:Act} {w:World}:∀(j:List Nat) {σ:Aj},Holds C ok H σ a w→Holds C ok H (σ.wipe j) a w
 | [],σ,h=>h
 |d::j,σ,h=>by
  refine Holds.wipe j (σ:=⟨σ.slots.set d .junk,σ.ents,σ.base⟩) ⟨h.mem,by simpa using h.size,h.defers,h.base,fun t m=>?_⟩;simp only[Zx]at m;by_cases e:d=t
  ·subst e;have q:(σ.slots.set d .junk).getD d .junk=.junk:=zD
   rw[q];exact .junk _
  have q:(σ.slots.set d .junk).getD t .junk=σ.slots.getD t .junk:=aIH
  rw[q];exact h.slot t m
def apf (n:Nat) (l j:List Oper):l++j=l.take n++(l.drop n++j):=by
 rw[←Gq,Z4]
def CW.join (n:Nat) (M:Aj→Prop) (u:∀s,M s→CW P ops (l.drop n) s K) (z:CW P ops (l.take n) σ (Jf M K)):CW P ops l σ K:=⟨fun ro m Q C ok H a w I q=>by
 rw[apf n l m]
 exact z.run ro _ Q C ok H a w I ⟨fun σ' ok' H' a' w' J j=>(u σ' J).run ro m Q C ok' H' a' w' j q,q.2⟩⟩
def CW.merge (n:Nat) (j:List Nat) (d:Nat) (x:AV) (q:CW P ops (l.take n) σ (Jf (fun s=>s.wipe j=(σ.wipe j).qG (some d) x) K)) (u:CW P ops (l.drop n) ((σ.wipe j).qG (some d) x) K):CW P ops l σ K:=
 .join n _ (fun s hs=>⟨fun ro z Q C ok H a w I J=>by
  have e:s.wipe j=(σ.wipe j).qG (some d) x:=hs;have m:=I.wipe j;rw[e]at m
  exact u.run ro z Q C ok H a w m J⟩) q
def Az {id:Nat} {Q:Exit→Aj→Prop} (h:CW P ops ops.toList σ Q):AP P (.region id ops false) σ Q:=⟨fun ro _ C ok H a w q=>by
 refine aIm ?_;have :=h.run ro [] (fun e a' w'=>∃ok' H' σ',Holds C ok' H' σ' a' w'∧Q e σ') C ok H a w q ⟨fun σ' ok' H' a' w' m j=>⟨ok',H',σ',j,m⟩,fun v σ' ok' H' a' w' m j=>⟨ok',H',σ',j,m⟩⟩
 rwa [PG]at this⟩
def AO {id:Nat} {y:Code} {Q:Exit→Aj→Prop} (h:CW P ops ops.toList σ (Jf (fun s=>AP P y s Q) Q)):AP P (.seq (.region id ops false) y) σ Q:=
 AP.seq (fun s=>AP P y s Q) (Az h) (fun _ h=>h)
end
def BI (n:Nat) (l:List (Nat×AV)):List AV:=(List.range n).map fun i=>(Q5 i l).getD .junk
def mk (n w:Nat):List Bool:=(List.range n).map fun i=>Nat.testBit w i
def anF {σ S:Aj} (m:List Bool) (π:List (Nat×Bool)) (j:TI σ.base σ.ents π=true:=by kernel_rfl) (q:S=⟨Jv π m σ.slots,Qy σ.ents π,σ.base⟩:=by kernel_rfl):CO σ S:=vk.sub ⟨m,π,j,q⟩
inductive LQ (P:Program) where
 |call (i:Nat) (f:FuncId) (dX:List AV) (res:AV) (run:Ap P f dX [] res []) (ent:DV P f=true) (dat:dX.all AV.yR=true)
 |dat (i:Nat) (op:Op) (ns:List (Operand×AV)) (x:AV) (h:∀(o:Oper) (es:List Aq),o.op=op→BN P o ns es x es)
 |at_ (i:Nat) (op:Op) (ns:List (Operand×AV)) (k:Nat) (e:Aq) (x:AV) (h:∀(o:Oper) (es:List Aq),es[k]? =some e→o.op=op→BN P o ns es x es)
 |fix (i:Nat) (op:Op) (ns:List (Operand×AV)) (es:List Aq) (x:AV) (E:List Aq) (h:∀(o:Oper),o.op=op→BN P o ns es x E)
def LQ.ix {P:Program}:LQ P→Nat
 | .call i .. =>i
 | .dat i .. =>i
 | .at_ i .. =>i
 | .fix i .. =>i
inductive WI where
 |call (c:Option (FuncId×List AV))
 |dat (op:Op) (vs:List AV)
 |at_ (op:Op) (vs:List AV) (e:Option Aq)
 |fix (op:Op) (vs:List AV) (es:List Aq)
def aFO {P:Program} (i:Nat):List (LQ P)→Option (LQ P)
 | []=>none
 |c::l=>match Nat.beq i c.ix with |true=>some c|false=>aFO i l
section
variable {P : Program}
def qB (σ:Aj) (o:Oper):LQ P→Aj×Option WI
 | .call _ _ _ j _ _ _=>(σ.qG o.dst (j.up [] σ.ents.length),some (.call (UA σ o)))
 | .dat _ _ ns x _=>(σ.qG o.dst x,some (.dat o.op (ns.map fun n=>σ.get n.1)))
 | .at_ _ _ ns k _ x _=>(σ.qG o.dst x,some (.at_ o.op (ns.map fun n=>σ.get n.1) σ.ents[k]?))
 | .fix _ _ ns _ x E _=>(σ.put o.dst x E,some (.fix o.op (ns.map fun n=>σ.get n.1) σ.ents))
def nU :LQ P→WI
 | .call _ f dX _ _ _ _=>.call (some (f,dX))
 | .dat _ op ns _ _=>.dat op (ns.map (·.2))
 | .at_ _ op ns _ e _ _=>.at_ op (ns.map (·.2)) (some e)
 | .fix _ op ns es _ _ _=>.fix op (ns.map (·.2)) es
def Vl (T:Kn P) (L:List (LQ P)) (ops:Array Oper) (σ:Aj) (i:Nat):Option (Aj×Option WI):=
 match ops[i]? with
 |none=>none
 |some o=>match aFO i L with
  |some c=>match IV ops σ o.guard with
   |some true=>some (qB σ o c)
   |_=>none
  |none=>match Uo T ops σ o with
   |some r=>some (σ.put o.dst r.x r.E,none)
   |none=>none
def KZ (T:Kn P) (L:List (LQ P)) (ops:Array Oper) (σ:Aj):List Nat→Aj
 | []=>σ
 |i::l=>match Vl T L ops (KZ T L ops σ l) i with
  |some (σ',_)=>σ'
  |none=>σ
def YI (ops:Array Oper) (m:List Nat) (i:Nat):Bool:=match ops[i]? with
 |some o=>o.after.toList.all fun e=> !Region.binds .any e||(m.contains e.on&&decide (e.on<ops.size))
 |none=>false
def aMZ (ops:Array Oper) (N:List (List Nat)) (F:List Nat) (k:Nat) (m:List Nat) (T:List (Nat×Nat×Nat)):Bool:=
 ((List.range ops.size).all fun i=>m.contains i|| !YI ops m i||
   T.any fun t=>t.2.1==i&&decide (t.2.2<N.length)&&(fun q=>(List.range ops.size).all fun j=>q.contains j==(m.contains j||j==i)) (N.getD t.2.2 []))&&
 (F.contains k||(List.range ops.size).any fun i=> !m.contains i&&YI ops m i)
def zi (ops:Array Oper) (N:List (List Nat)) (F:List Nat):Nat→List (List Nat)→List (Nat×Nat×Nat)→Bool
 |_,[],_=>true
 |k,m::M,Tr=>aMZ ops N F k m (Tr.takeWhile fun t=>t.1==k)&&zi ops N F (k+1) M (Tr.dropWhile fun t=>t.1==k)
def tu (ops:Array Oper) (N:List (List Nat)) (Tr:List (Nat×Nat×Nat)) (F:List Nat):Bool:=zi ops N F 0 N Tr
def aQV {α:Type} {p:α→Bool}:∀{l:List α} {x:α},x∈l.takeWhile p→p x=true
 | [],_,h=>Gv
 |y::l,x,h=>by
  rw[List.takeWhile_cons]at h;cases j:p y with
  |true=>
   rw[j]at h;rcases EO.1 h with rfl|h
   ·exact j
   exact aQV h
  |false=>rw[j]at h;simp at h
def aO7 {ops:Array Oper} {N:List (List Nat)} {F:List Nat}:∀(M:List (List Nat)) (k:Nat) (Tr:List (Nat×Nat×Nat)),zi ops N F k M Tr=true→∀j,j<M.length→
 ∃T,aMZ ops N F (k+j) (M.getD j []) T=true∧∀t∈T,t∈Tr∧t.1=k+j
 | [],_,_,_,j,u=>by simp at u
 |m::M,k,Tr,h,j,u=>by
  unfold zi at h;rw[CV]at h;cases j with
  |zero=>exact⟨_,h.1,fun t q=>⟨(List.takeWhile_sublist _).subset q,by have :=aQV q;simpa using this⟩⟩
  |succ j=>
   obtain⟨T,I,z⟩:=aO7 M (k+1) _ h.2 j LJ;refine⟨T,?_,fun t q=>⟨(aEy _).subset (z t q).1,?_⟩⟩
   ·rw[show k+(j+1)=k+1+j by omega];simpa using I
   rw[(z t q).2];omega
def X7 (L:List (LQ P)) (i:Nat):Option WI:=(aFO i L).map nU
def apn (T:Kn P) {L:List (LQ P)} {ops:Array Oper} {σ σ':Aj} {i:Nat} {o:Oper} (z:ops[i]? =some o) (h:Vl T L ops σ i=some (σ',X7 L i)):
 ∃x E,((∃ns,BN P o ns σ.ents x E∧needs σ ns∧Um ops σ o.guard)∨(x=.d (.lit undef)∧E=σ.ents∧WZ ops σ o.guard))∧σ'=σ.put o.dst x E:=by
 unfold Vl X7 at h;rw[z]at h;simp only at h;split at h
 ·rename_i c I;split at h
  ·rename_i m;simp only[I,Ho,KJ]at h;cases c with
   |call i f dX J run ent dat=>
    simp only[qB,nU,RF,KJ,WI.call.injEq]at h;obtain⟨ns,q,u,O⟩:=aAp run ent h.2 dat;exact⟨_,_,.inl ⟨ns,q,u,Ku m⟩,h.1.symm⟩
   |dat i op ns x j=>
    simp only[qB,nU,RF,KJ,WI.dat.injEq]at h;exact⟨_,_,.inl ⟨ns,j o _ h.2.1,Sr h.2.2,Ku m⟩,h.1.symm⟩
   |at_ i op ns k e x j=>
    simp only[qB,nU,RF,KJ,WI.at_.injEq]at h;exact⟨_,_,.inl ⟨ns,j o _ h.2.2.2 h.2.1,Sr h.2.2.1,Ku m⟩,h.1.symm⟩
   |fix i op ns es x E j=>
    simp only[qB,nU,RF,KJ,WI.fix.injEq]at h;exact⟨_,_,.inl ⟨ns,h.2.2.2▸j o h.2.1,Sr h.2.2.1,Ku m⟩,h.1.symm⟩
  cases h
 split at h
 ·rename_i r M;simp only[KJ,RF]at h;obtain⟨q,u⟩:=X4 T M;refine⟨_,_,?_,h.1.symm⟩;rcases q with⟨ns,a,b,_,c⟩|⟨a,b,c⟩
  ·exact .inl ⟨ns,a,b,c⟩
  exact .inr ⟨a,b,c⟩
 cases h
def uY (s t:Aj):Prop:=∀C ok H a w,Holds C ok H s a w→∃ok' H',Holds C ok' H' t a w
def ajI (s:Aj):uY s s:=fun _ ok H _ _ h=>⟨ok,H,h⟩
def aC {s t:Aj} (h:CO s t):uY s t:=h
def AP.nodes (T:Kn P) {id:Nat} {ops:Array Oper} {σ:Aj} {Q:Exit→Aj→Prop} (L:List (LQ P)) (N:List (List Nat)) (Tr:List (Nat×Nat×Nat)) (F:List Nat) (fin:Aj) (hm:P.follows .mixedOrders=true) (hN:tu ops N Tr F=true) (h0:N.getD 0 [0]=[])
 (hT:(Tr.map fun t=>Vl T L ops (KZ T L ops σ (N.getD t.1 [])) t.2.1)=Tr.map fun t=>some (KZ T L ops σ (N.getD t.2.2 []),X7 L t.2.1))
 (hF:PX (fun k=>uY (KZ T L ops σ (N.getD k [])) fin) F) (hQ:Q .normal fin):AP P (.region id ops true) σ Q:=by
 refine⟨fun ro _ C ok H a w m=>?_⟩;refine wE hm ?_
 let S:Nat→Aj:=fun k=>KZ T L ops σ (N.getD k [])
 let I:Array Bool→Act→World→Prop:=fun l a w=>l.size=ops.size∧∃k ok H,k<N.length∧(∀i,i<ops.size→l.getD i false=(N.getD k []).contains i)∧Holds C ok H (S k) a w
 have hNN:∀k,k<N.length→(((List.range ops.size).all fun i=>(N.getD k []).contains i|| !YI ops (N.getD k []) i||
  Tr.any fun t=>t.1==k&&t.2.1==i&&decide (t.2.2<N.length)&&(List.range ops.size).all fun j=>(N.getD t.2.2 []).contains j==((N.getD k []).contains j||j==i))&&
  (F.contains k||(List.range ops.size).any fun i=> !(N.getD k []).contains i&&YI ops (N.getD k []) i))=true:=fun k hk=>by
  obtain⟨T,z,M⟩:=aO7 N 0 Tr hN k hk;unfold aMZ at z;rw[Ic,CV,E5]at z;rw[CV,E5];refine⟨fun i hi=>?_,z.2⟩;have q:=z.1 i hi;rw[YB]at q ⊢;rcases q with q|q
  ·exact .inl q
  obtain⟨t,ht,h4⟩:=Gw.1 q;obtain⟨Y,O⟩:=M t ht;rw[Ic]at O;refine .inr (Gw.2 ⟨t,Y,?_⟩);rw[show(t.1==k)=true by simpa using O,FT];exact h4
 refine aE3 I (fun l a w h=>h.1) ?_ ?_ ops.size _ _ _ ?_ ?_
 ·rintro l a w ⟨z,k,ok,H,hk,hl,m⟩ i hi;unfold Region.ready at hi;rw[ET]at hi;obtain⟨hi1,hi2⟩:=hi;have hi':i<ops.size:=zV
  have ho:ops[i]? =some ops[i]:=by simp[hi']
  simp only[CV]at hi2;have u:=hi2.2;rw[ho]at u;simp only[Ho,MH]at u;have U:=fun e he=>(PU.1 u) e he
  have hself:l.getD i false=false:=by
   have h8:=hi2.1;have hil:i<l.size:=A8
   simp[Array.getD,hil]at h8 ⊢;exact h8
  have hnc:(N.getD k []).contains i=false:=by rw[←hl i hi'];exact hself
  have hrd:YI ops (N.getD k []) i=true:=by
   unfold YI;rw[ho];simp only[E5];intro e he;have h9:=U e jX;cases hb:Region.binds .any e with
   |false=>simp
   |true=>
    simp only[hb,Dv,Kv]at h9 ⊢;by_cases hon:e.on<ops.size
    ·rw[←hl e.on hon,h9];simp[hon]
    have :l.getD e.on false=false:=by simp[Array.getD,show ¬e.on<l.size by omega]
    rw[this]at h9;cases h9
  have M:=hNN k hk;simp only[CV,E5]at M;have q:=M.1 i (by simpa using hi');rw[hnc,hrd]at q;simp only[Dv,Bool.or_self,Kv,Gw]at q;obtain⟨⟨k',J,t⟩,htm,h4⟩:=q;simp only[CV,PZ,Fb,E5]at h4;obtain⟨⟨⟨rfl,rfl⟩,ht⟩,Y⟩:=h4;have O:Vl T L ops (S k') J=some (S t,X7 L J):=List.map_inj_left.1 hT (k',J,t) htm;obtain⟨x,E,hs,he⟩:=apn T ho O
  have Z:∀(a':Act) (w':World) (ok':Nat→Prop) (H':List BJ),Holds C ok' H' ((S k').put ops[J].dst x E) a' w'→I (l.setIfInBounds J true) a' w':=by
   intro a' w' ok' H' hp;refine⟨by simp[z],t,ok',H',ht,fun j hj=>?_,he▸hp⟩;have h7:=Y j (by simpa using hj);rw[h7,←hl j hj];by_cases hij:J=j
   ·subst hij;simp[Array.getD,z,hj]
   have :(j==J)=false:=DK
   rw[this,KR];simp only[Gj,Ja hij]
  unfold wpOpIn;rw[ho];show if Region.wanted ops[J] (yielded ops a.tmps)=true then _ else _
  rcases hs with⟨ns,hop,ac2,hg⟩|⟨rfl,rfl,hg⟩
  ·rw[CJ (OH m hg)];refine Pm ?_ (hop.inR ro C ok H a w _ m.mem (fun n hn'=>Ou ac2 n hn'▸m.get n.1));rintro a' w' ⟨v,ok',H',rfl,hgr,hnn,hm',hx⟩;exact Z _ _ _ _ (m.put ops[J].dst hgr hnn hm' hx)
  rw[CU (by rw[aHO m hg];simp)];exact⟨fun _ _=>trivial,Z _ _ _ _ (m.put ops[J].dst (.refl _ _) (.refl _) m.mem (.d _ _ (.lit _)))⟩
 ·rintro l a w ⟨z,k,ok,H,hk,hl,m⟩ hr;have M:=hNN k hk;simp only[CV,YB]at M
  have hFk:k∈F:=by
   rcases M.2 with h|h
   ·simpa using h
   rw[Gw]at h;obtain⟨i,hi,q⟩:=h;simp only[nK]at hi;simp only[CV,Qq]at q;obtain⟨h4,Y⟩:=q;have ho:ops[i]? =some ops[i]:=Pq
   have hmem:i∈Region.ready .any ops l:=by
    unfold Region.ready;rw[ET];refine⟨FU,?_⟩;have hf:l.getD i false=false:=by rw[hl i hi];exact h4
    have hil:i<l.size:=A8
    have hf':l.getD i true=false:=aD1
    rw[hf',ho];simp only[I4,FT,Ho,MH];rw[PU];intro e he;unfold YI at Y;rw[ho]at Y;simp only[E5]at Y;have O:=Y e jX;cases hb:Region.binds .any e with
    |false=>simp
    |true=>
     simp only[hb,Dv,Kv]at O ⊢;rw[CV,Fb]at O;rw[hl e.on O.2];exact O.1
   rw[hr]at hmem;simp at hmem
  obtain⟨ok',H',q⟩:=hF.mem k hFk C ok H a w m;exact⟨ok',H',fin,q,hQ⟩
 ·unfold toCome;simp
 refine⟨Am,0,ok,H,?_,fun i hi=>?_,?_⟩
 ·cases N with
  |nil=>cases h0
  |cons x l=>simp
 ·have e:N.getD 0 []=[]:=by
   cases N with
   |nil=>rfl
   |cons x l=>simpa using h0
  rw[e];simp[Array.getD]
 have e:S 0=σ:=by
  show KZ T L ops σ (N.getD 0 [])=σ;cases N with
  |nil=>rfl
  |cons x l=>have :x=[]:=by simpa using h0
             subst this;rfl
 rw[e];refine⟨⟨⟨m.mem.fr.os,m.mem.fr.tape,m.mem.fr.output,m.mem.fr.size,m.mem.fr.block⟩,m.mem.xu,m.mem.xw,m.mem.jM,m.mem.names,m.mem.hlen,fun k e h z M=>(m.mem.ent k e h z M).drew,m.mem.blk,m.mem.Dp⟩,m.size,m.defers.mono (fun b hb=>⟨hb,rfl⟩),m.base,fun t ht=>R.mono (w:=w) (ok:=ok) (w':={ w with drawn:=w.drawn+1 }) (fun b hb=>⟨hb,rfl⟩) (.refl _) (m.slot t ht)⟩
def aEG {f:FuncId} {dX:List AV} {j:AV} (i:Nat) (run:Ap P f dX [] j []) (ent:DV P f=true) (dat:dX.all AV.yR=true:=by kernel_rfl):LQ P:=.call i f dX j run ent dat
def lY {ns:List (Operand×AV)} {x:AV} (i:Nat) (op:Op) (k:Nat) (e:Aq) (h:∀(o:Oper) (es:List Aq),es[k]? =some e→o.op=op→BN P o ns es x es):LQ P:=.at_ i op ns k e x h
def aF7 {ns:List (Operand×AV)} {x:AV} (i:Nat) (op:Op) (es E:List Aq) (h:∀(o:Oper),o.op=op→BN P o ns es x E):LQ P:=.fix i op ns es x E h
section
variable [T : Kn P] {id : Nat} {ops : Array Oper} {σ : Aj} {Q : Exit → Aj → Prop} {y : Code}
def AP.aBT (L:List (LQ P)) (N:List (List Nat)) (Tr:List (Nat×Nat×Nat)) (j:Nat) (m:AP P y (KZ T L ops σ (N.getD j [])) Q) (q:P.follows .mixedOrders=true:=by kernel_rfl) (u:tu ops N Tr [j]=true:=by kernel_rfl) (z:N.getD 0 [0]=[]:=by kernel_rfl)
 (I:(Tr.map fun t=>Vl T L ops (KZ T L ops σ (N.getD t.1 [])) t.2.1)=Tr.map fun t=>some (KZ T L ops σ (N.getD t.2.2 []),X7 L t.2.1):=by kernel_rfl):AP P (.seq (.region id ops true) y) σ Q:=
 AP.seq1 _ (AP.nodes T L N Tr [j] _ q u z I ⟨ajI _,trivial⟩ rfl) m
def AP.aBU (L:List (LQ P)) (N:List (List Nat)) (Tr:List (Nat×Nat×Nat)) (F:List Nat) (j:Aj) (m:PX (fun k=>uY (KZ T L ops σ (N.getD k [])) j) F) (q:AP P y j Q) (u:P.follows .mixedOrders=true:=by kernel_rfl) (z:tu ops N Tr F=true:=by kernel_rfl) (I:N.getD 0 [0]=[]:=by kernel_rfl)
 (J:(Tr.map fun t=>Vl T L ops (KZ T L ops σ (N.getD t.1 [])) t.2.1)=Tr.map fun t=>some (KZ T L ops σ (N.getD t.2.2 []),X7 L t.2.1):=by kernel_rfl):AP P (.seq (.region id ops true) y) σ Q:=
 AP.seq1 j (AP.nodes T L N Tr F j u z I J m rfl) q
end
end
section
variable {P : Program} {ops : Array Oper} {es : List Aq}
def VN (ops:Array Oper) (bs:List Bool) (sl:List Nat):Bool:=(List.range ops.size).all fun i=> !(bs.getD i false)||(!sl.contains i&&
 ((List.range i).all fun j=>sl.contains j||(List.range (i+1)).any fun m=>(decide (j<m)&& !sl.contains m)&&(match ops[m]? with |some o=>Fl o j|none=>false))&&
  ((List.range ops.size).all fun k=> !decide (i<k)||(List.range k).any fun m=>decide (i≤m)&&(match ops[k]? with |some o=>Fl o m|none=>false)))
def aJN {bs:List Bool} {sl:List Nat} (h:VN ops bs sl=true) {i:Nat} (hi:i<ops.size) (Y:bs.getD i false=true) {D:Nat→Prop} (hd:∀(j:Nat) (o:Oper),ops[j]? =some o→D j→∀m,Fl o m=true→D m)
 (Z:∀(o:Oper),ops[i]? =some o→∀m,Fl o m=true→D m):∀j,j<i→sl.contains j=false→D j:=by
 unfold VN at h;rw[E5]at h;have L:=h i FU;simp only[Y,Dv,Kv,CV,E5]at L
 have key:∀n j,i-j≤n→j<i→sl.contains j=false→D j:=by
  intro n
  induction n with
  |zero=>intro j h2 M _;omega
  |succ n ih=>
   intro j h2 M q;have O:=L.1.2 j aEV;rw[q,Kv,Gw]at O;obtain⟨m,hm,U⟩:=O;simp only[nK]at hm;simp only[CV,Fb,Qq]at U;obtain⟨⟨h6,u⟩,z⟩:=U;have I:m<ops.size:=A8
   have J:ops[m]? =some ops[m]:=by simp[I]
   rw[J]at z;by_cases e:m=i
   ·subst e;exact Z _ J j z
   exact hd m _ J (ih m A8 A8 u) j z
 exact fun j hj hs=>key (i-j) j (Dc _) hj hs
def asl {bs:List Bool} {sl:List Nat} (h:VN ops bs sl=true) {i:Nat} (hi:i<ops.size) (Z:bs.getD i false=true) {D:Nat→Prop} (hd:∀(j:Nat) (o:Oper),ops[j]? =some o→D j→∀m,Fl o m=true→D m):
 ∀k,i<k→∀(o:Oper),ops[k]? =some o→(∀m,Fl o m=true→D m)→D i:=by
 unfold VN at h;rw[E5]at h;have L:=h i FU;simp only[Z,Dv,Kv,CV,E5]at L;intro k
 induction k using Nat.strongRecOn with
 |_ k ih=>
  intro I o M q;have hk:k<ops.size:=(FX.1 M).1;have O:=L.2 k acd;simp only[I,decide_true,Dv,Kv,Gw]at O;obtain⟨m,U,Y⟩:=O;simp only[nK]at U;simp only[CV,Fb,M]at Y;obtain⟨h6,h7⟩:=Y;have u:=q m h7;by_cases e:m=i
  ·subst e;exact u
  have J:m<ops.size:=A8
  have z:ops[m]? =some ops[m]:=by simp[J]
  exact ih m U A8 _ z (hd m _ z u)
def af9 {bs:List Bool} {sl:List Nat} (h:VN ops bs sl=true) {i:Nat} (hi:i<ops.size) (m:bs.getD i false=true):sl.contains i=false:=by
 unfold VN at h;rw[E5]at h;have j:=h i FU;simp only[m,Dv,Kv,CV,Qq]at j;exact j.1.1
def AP.ayX {id:Nat} {σ σ':Aj} {Q:Exit→Aj→Prop} {rs:List AV} {ess:List (List Aq)} {bs:List Bool} (hm:P.follows .mixedOrders=true) (M:(Uz ops&&Ut ops&&UC ops σ.slots.length&&VE ops)=true) (sl:List Nat) (O:VN ops bs sl=true)
 (h:Eb P ops ops.toList σ rs ess bs σ')
 (hsl:∀i,i∈sl→bs.getD i false=false∧∀m,i≤m→m≤ops.size→∀o,ops[i]? =some o→Qe P ops ⟨(EN ops σ (fun i=>rs.getD i .junk) (fun i=>ess.getD i []) i).slots,(EN ops σ (fun i=>rs.getD i .junk) (fun i=>ess.getD i []) m).ents,σ.base⟩ (rs.getD i .junk) (EN ops σ (fun i=>rs.getD i .junk) (fun i=>ess.getD i []) m).ents false o) (hQ:Q .normal σ'):AP P (.region id ops true) σ Q:=by
 refine⟨fun ro _ C ok H a w hh=>?_⟩;simp only[CV]at M;obtain⟨⟨⟨he,hd⟩,hs⟩,hc⟩:=M;have NK:=aJI he;have hinj:=aHe hd;have M:=aLp hc
 have FZ:∀(i:Nat) (o:Oper) (d:Tmp),ops[i]? =some o→o.dst=some d→d<σ.slots.length:=by
  intro i o d h1 h2;unfold UC at hs;rw[E5]at hs;simpa using hs d (aIV h1 h2)
 let r:Nat→AV:=fun i=>rs.getD i .junk
 let ev:Nat→List Aq:=fun i=>ess.getD i []
 let bar:Nat→Bool:=fun i=>bs.getD i false
 obtain⟨Gx,hend⟩:=h.facts σ r ev bar 0 (fun k=>Am) Am rfl (fun k y hy=>aLj) (fun k y hy=>aNQ) (fun k y hy=>by simp[bar,List.getD,hy])
 let U:Nat→Aj:=EN ops σ r ev
 have hU:∀i,i<ops.size→(U (i+1)).ents=ev i:=by
  intro i hi;have L:ops[i]? =some ops[i]:=Pq
  show(EN ops σ r ev (i+1)).ents=_;simp only[EN,L];rfl
 have hconst:∀n lo,(∀b,lo≤b→b<lo+n→bar b=false)→lo+n≤ops.size→(U (lo+n)).ents=(U lo).ents:=by
  intro n
  induction n with
  |zero=>intro lo _ _;rfl
  |succ n ih=>
   intro lo z hle;have h1:=ih lo (fun b h1 h2=>z b h1 A8) A8;have hi:lo+n<ops.size:=A8
   have L:ops[lo+n]? =some ops[lo+n]:=Pq
   have h2:=(Gx (lo+n) _ A8 L).2 (z (lo+n) A8 A8);rw[←NQ,hU _ hi,h2];exact h1
 have Y:∀lo hi,lo≤hi→hi≤ops.size→(∀b,lo≤b→b<hi→bar b=false)→(U hi).ents=(U lo).ents:=by
  intro lo hi h1 h2 h3;obtain⟨n,rfl⟩:=aFy h1;exact hconst n lo h3 h2
 refine wE hm ?_
 let I:Array Bool→Act→World→Prop:=fun l a w=>l.size=ops.size∧∃ok H m,m≤ops.size∧(∀b,bar b=true→b<ops.size→(l.getD b false=true↔b<m))∧CS C ok H (U m).ents w∧a.tmps.size=σ.slots.length∧Marks C ok w a.defers∧
  (∀t,t<σ.slots.length→(∀(j:Nat) (o:Oper),ops[j]? =some o→o.dst=some t→l.getD j false=false)→R ok w H (σ.slots.getD t .junk) (a.tmps.getD t undef))∧
  (∀(i:Nat) (o:Oper) (d:Tmp),ops[i]? =some o→o.dst=some d→l.getD i false=true→R ok w H (r i) (a.tmps.getD d undef))∧
  (∀(j:Nat) (o:Oper),ops[j]? =some o→l.getD j false=true→∀i,Fl o i=true→l.getD i false=true)
 refine aE3 I (fun l a w h=>h.1) ?_ ?_ ops.size _ _ _ ?_ ?_
 ·rintro l a w ⟨h1,ok,H,m,JG,J,hmem0,hsz,hdf,h5,h6,h7⟩ i hi;unfold Region.ready at hi;rw[ET]at hi;obtain⟨hi1,hi2⟩:=hi;have hi':i<ops.size:=zV
  have L:ops[i]? =some ops[i]:=by simp[hi']
  simp only[CV]at hi2;have NM:=hi2.2;rw[L]at NM;simp only[Ho,MH]at NM;have afc:=fun e he=>(PU.1 NM) e he
  have Z:∀j,Fl ops[i] j=true→l.getD j false=true∧j<i:=by
   intro j u;unfold Fl at u;rw[Gw]at u;obtain⟨e,hee,u⟩:=u;simp only[CV,Fb]at u;have :=afc e aGG;simp only[u.2,Dv,Kv]at this;rw[u.1]at this;exact⟨this,u.1▸NK i _ L e hee u.2⟩
  have hself:l.getD i false=false:=by
   have h8:=hi2.1;have hil:i<l.size:=A8
   simp[Array.getD,hil]at h8 ⊢;exact h8
  have al5:∀(j:Nat) (o:Oper),ops[j]? =some o→l.getD j false=true→∀m,Fl o m=true→l.getD m false=true:=fun j o u hl m hm=>h7 j o u hl m hm
  have hEi:(i≤m→sl.contains i=false)→(U i).ents=(U m).ents:=fun hns=>by
   by_cases him:i≤m
   ·refine(Y i m him JG (fun b h2 h3=>?_)).symm;rw[←Jd];intro z;have hbl:=(J b z A8).2 h3;by_cases e:b=i
    ·subst e;rw[hself]at hbl;cases hbl
    have :=aJN O (show b<ops.size by omega) z (D:=fun j=>l.getD j false=true) al5 (fun o L m hm=>al5 b o L hbl m hm) i A8 (hns him);rw[hself]at this;cases this
   refine Y m i A8 A8 (fun b h2 h3=>?_);rw[←Jd];intro z;have :=asl O (show b<ops.size by omega) z (D:=fun j=>l.getD j false=true) al5 i h3 _ L (fun m hm=>(Z m hm).1);exact absurd ((J b z A8).1 this) A8
  obtain⟨E0,E1,hmem,hfact,hE1,hE2⟩:∃E0 E1,CS C ok H E0 w∧Qe P ops ⟨(U i).slots,E0,σ.base⟩ (r i) E1 (bar i) ops[i]∧(bar i=false→E1=(U m).ents)∧(bar i=true→E1=ev i):=by
   by_cases hs:i≤m∧i∈sl
   ·have h9:=hsl i hs.2;refine⟨(U m).ents,(U m).ents,hmem0,?_,fun _=>rfl,fun z=>?_⟩
    ·rw[show bar i=false from h9.1];exact h9.2 m hs.1 JG _ L
    rw[show bar i=false from h9.1]at z;cases z
   have hE:=hEi (fun him=>by
    rw[←Jd]
    intro hc;exact hs ⟨him,by simpa using hc⟩)
   refine⟨(U i).ents,ev i,by rw[hE];exact hmem0,?_,fun z=>?_,fun _=>rfl⟩
   ·have hf:=Gx i ops[i] A8 L;have hbase:(U i).base=σ.base:=aBd i;have :U i=⟨(U i).slots,(U i).ents,σ.base⟩:=by rw[←hbase]
    exact this▸hf
   rw[(Gx i _ A8 L).2 z];exact hE
  have hread:∀t,t∈tmpsOf ops[i]→R ok w H ((EN ops σ r ev i).slots.getD t .junk) (a.tmps.getD t undef):=by
   intro t ht;by_cases hw:∃(j:Nat) (o:Oper),ops[j]? =some o∧o.dst=some t
   ·obtain⟨j,o,u,q⟩:=hw;rcases(M i _ L).1 j o t u q ht with hce|hce
    ·obtain⟨hdj,hji⟩:=Z j hce;rw[Sl hinj u q (FZ j o t u q) i hji];exact h6 j o t u q hdj
    have hij:i<j:=by
     unfold Fl at hce;rw[Gw]at hce;obtain⟨e,hee,hce⟩:=hce;simp only[CV,Fb]at hce;exact hce.1▸NK j _ u e hee hce.2
    rw[Rs i (fun j' o' hj' ho' hd'=>zq)];refine h5 t (FZ j o t u q) (fun j' o' ho' hd'=>?_);have hjj:=hinj j j' o o' t u ho' q hd';subst hjj;rw[←Jd];intro hd;rw[h7 j o u hd i hce]at hself;cases hself
   have hw':∀(j:Nat) (o:Oper),ops[j]? =some o→o.dst≠some t:=fun j o h1 h2=>hw ⟨j,o,h1,h2⟩;rw[Rs i (fun j o _ u=>hw' j o u)];by_cases htn:t<σ.slots.length
   ·exact h5 t htn (fun j o u q=>absurd q (hw' j o u))
   rw[cO htn];exact .junk _
  have SX:∀j d v,Fl ops[i] j=true→(ops[j]?).bind (·.dst)=some d→(EN ops σ r ev i).slots.getD d .junk=.d (.lit v)→yielded ops a.tmps j=(match v with | .bool b=>some b|_=>none):=by
   intro j d v u q z;cases hoj:ops[j]? with
   |none=>rw[hoj]at q;simp at q
   |some oj=>
    rw[hoj]at q;simp only[AQ]at q;obtain⟨hdj,hji⟩:=Z j u;have hdn:=FZ j oj d hoj q;rw[Sl hinj hoj q hdn i hji]at z;have hv:=(z▸h6 j oj d hoj q hdj).bool
    have hs:a.tmps[d]? =some v:=by
     have :d<a.tmps.size:=by rw[hsz];exact hdn
     simp[Array.getD,this]at hv;simp[this,hv]
    unfold yielded;rw[hoj];simp only[AQ,q,hs];cases v<;>rfl
  have hput:∀(x:AV) (v:Value) (ok':Nat→Prop) (H':List BJ) (w':World),x=r i→Dz ok w ok' w'→Names H H'→CS C ok' H' E1 w'→R ok' w' H' x v→I (l.setIfInBounds i true) (a.put ops[i].dst v) w':=by
   intro x v ok' H' w' hx hgr hnm hmem' hR;subst hx
   have hother:∀(d t:Nat),ops[i].dst=some d→d≠t→(a.put ops[i].dst v).tmps.getD t undef=a.tmps.getD t undef:=by
    intro d t hd hne;rw[hd];exact aHU hne
   obtain⟨m',akk,abL,akl⟩:∃m',m'≤ops.size∧(∀b,bar b=true→b<ops.size→((l.setIfInBounds i true).getD b false=true↔b<m'))∧CS C ok' H' (U m').ents w':=by
    have hget:∀b,b≠i→(l.setIfInBounds i true).getD b false=l.getD b false:=fun b z=>by
     simp only[Gj,Ja (Ne.symm z)]
    have akm:(l.setIfInBounds i true).getD i false=true:=aHC
    cases hbi:bar i with
    |false=>
     refine⟨m,JG,fun b z hbs=>?_,?_⟩
     ·have hne:b≠i:=fun e=>by subst e;rw[hbi]at z;cases z
      rw[hget b hne];exact J b z hbs
     rw[←hE1 hbi];exact hmem'
    |true=>
     refine⟨i+1,A8,fun b z hbs=>?_,by rw[hU i hi',←hE2 hbi];exact hmem'⟩;by_cases e:b=i
     ·subst e;rw[akm];simp
     rw[hget b e];constructor
     ·intro hbl;apply Ve;intro hn;have :=aJN O hbs z (D:=fun j=>l.getD j false=true) al5 (fun o L m hm=>al5 b o L hbl m hm) i A8 (af9 O hi' hbi);rw[hself]at this;cases this
     intro hlt;exact aJN O hi' hbi (D:=fun j=>l.getD j false=true) al5 (fun o ho' m hm=>by rw[L]at ho';obtain rfl:=CG ho';exact(Z m hm).1) b A8 (af9 O hbs z)
   refine⟨by simp[h1],ok',H',m',akk,abL,akl,aMz,aIn,?_,?_,?_⟩
   ·intro t ht hno
    have hne:ops[i].dst≠some t:=by
     intro e;have :=hno i _ L e;simp[Array.getD,h1,hi']at this
    have hold:(a.put ops[i].dst v).tmps.getD t undef=a.tmps.getD t undef:=by
     cases hdi:ops[i].dst with
     |none=>rfl
     |some d=>exact hdi▸hother d t hdi (fun e=>hne (by rw[hdi,e]))
    rw[hold];refine(h5 t ht (fun j o u q=>?_)).mono hgr hnm;have hij:i≠j:=fun e=>by subst e;rw[L]at u;obtain rfl:=CG u;exact hne q
    have :=hno j o u q;simpa only[Gj,Ja hij]using this
   ·intro k o d hk hkd hl;by_cases hik:i=k
    ·subst hik;rw[L]at hk;obtain rfl:=CG hk;rw[hkd,aMQ (by rw[hsz];exact FZ i _ d L hkd)];exact hR
    have hl':l.getD k false=true:=by
     simp only[Gj,Ja hik]at hl ⊢;exact hl
    have :=(h6 k o d hk hkd hl').mono hgr hnm;cases hdst:ops[i].dst with
    |none=>exact this
    |some d'=>
     have hne:d'≠d:=fun e=>hik (hinj i k _ _ d' L hk hdst (e▸hkd));rw[←hdst,hother d' d hdst hne];exact this
   intro j o u hl k hk;have hil:i<l.size:=A8
   by_cases hik:i=k
   ·subst hik;simp[Array.getD,hil]
   have hkk:l.getD k false=true:=by
    by_cases hij:i=j
    ·subst hij;rw[L]at u;obtain rfl:=CG u;exact(Z k hk).1
    have hl':l.getD j false=true:=by
     simp only[Gj,Ja hij]at hl ⊢;exact hl
    exact h7 j o u hl' k hk
   simp only[Gj,Ja hik]at hkk ⊢;exact hkk
  unfold wpOpIn;rw[L];show if Region.wanted ops[i] (yielded ops a.tmps)=true then _ else _
  rcases hfact.1 with⟨ns,hop,ac2,hnt,hg⟩|⟨hx,hev,hg⟩
  ·have hwant:Region.wanted ops[i] (yielded ops a.tmps)=true:=by
    unfold Region.wanted;rcases hg with hg|⟨j,want,d,b,hg,u,z,rfl⟩
    ·rw[hg]
    rw[hg];show(yielded ops a.tmps j==some b)=true;rw[SX j d _ ((M i _ L).2 j b hg) u z];simp
   rw[CJ hwant];refine Pm ?_ (hop.inR ro C ok H a w _ hmem (fun n hn=>?_))
   ·rintro a' w' ⟨v,ok',H',rfl,hgr,hnn,hm',hx⟩;exact hput _ v ok' H' w' rfl hgr hnn hm' hx
   have hnv:=Ou ac2 n hn;obtain⟨x,y⟩:=n;simp only at hnv ⊢;subst hnv;cases x with
   |tmp t=>
    refine hread t ?_;rw[E5]at hnt
    have :t∈KF ns:=by
     unfold KF;rw[SN];exact⟨_,hn,rfl⟩
    simpa using hnt t this
   |const v=>exact .d _ _ (.lit v)
   |global g=>exact .d _ _ (.lit _)
   |func f=>exact .d _ _ (.fn (.func f) [] [] #[] #[] rfl rfl (fun i hi=>MO) (fun i hi=>MO))
  have hwant:Region.wanted ops[i] (yielded ops a.tmps)=false:=by
   unfold Region.wanted;obtain⟨j,want,d,v,hg,u,z,hv⟩:=hg;rw[hg];show(yielded ops a.tmps j==some want)=false;rw[SX j d _ ((M i _ L).2 j want hg) u z];rcases hv with rfl|rfl
   ·simp
   rfl
  rw[CU (by rw[hwant];simp)];exact⟨fun _ _=>trivial,hput _ _ ok H w hx.symm (.refl _ _) (.refl _) aHa (.d _ _ (.lit _))⟩
 ·rintro l a w ⟨h1,ok,H,m,JG,J,hmem,hsz,hdf,h5,h6,h7⟩ hr
  have hall:∀n i,i<n→i<ops.size→l.getD i false=true:=by
   intro n
   induction n with
   |zero=>intro i hi;omega
   |succ n ih=>
    intro i hi hi2;by_cases hn:i<n
    ·exact ih i hn hi2
    have hin:i=n:=A8
    subst hin;rw[←aLY];intro hf;have L:ops[i]? =some ops[i]:=by simp[hi2]
    have hmem:i∈Region.ready .any ops l:=by
     unfold Region.ready;rw[ET];refine⟨by simpa using hi2,?_⟩;have hil:i<l.size:=A8
     have hf':l.getD i true=false:=aD1
     rw[hf',L];simp only[I4,FT,Ho,MH];rw[PU];intro e he;cases hbe:Region.binds .any e with
     |false=>simp
     |true=>
      have hlt:=NK i _ L e jX hbe;rw[ih e.on A8 A8];simp
    rw[hr]at hmem;simp at hmem
  refine⟨ok,H,σ',?_,hQ⟩;subst hend
  have hE:(U ops.size).ents=(U m).ents:=Y m ops.size JG (Dc _) (fun b h2 h3=>by
   rw[←Jd];intro z
   exact absurd ((J b z h3).1 (hall (b+1) b A8 h3)) A8)
  refine⟨aef,by rw[Ti];exact hsz,hdf,aMd,fun t ht=>?_⟩;rw[Ti]at ht;by_cases hw:∃(j:Nat) (o:Oper),ops[j]? =some o∧o.dst=some t
  ·obtain⟨j,o,u,q⟩:=hw;have hjn:j<ops.size:=(FX.1 u).1;rw[Sl hinj u q ht ops.size hjn];exact h6 j o t u q (hall (j+1) j A8 hjn)
  have hw':∀(j:Nat) (o:Oper),ops[j]? =some o→o.dst≠some t:=fun j o h1 h2=>hw ⟨j,o,h1,h2⟩;rw[Rs ops.size (fun j o _ u=>hw' j o u)];exact h5 t ht (fun j o u q=>absurd q (hw' j o u))
 ·unfold toCome;simp
 refine⟨Am,ok,H,0,EK _,fun b z _=>aBv,?_,hh.size,hh.defers.mono (fun b z=>⟨z,rfl⟩),fun t ht _=>?_,fun i o d _ _ hl=>?_,fun j o _ hl=>?_⟩
 ·exact⟨⟨hh.mem.fr.os,hh.mem.fr.tape,hh.mem.fr.output,hh.mem.fr.size,hh.mem.fr.block⟩,hh.mem.xu,hh.mem.xw,hh.mem.jM,hh.mem.names,hh.mem.hlen,fun k e h h1 h2=>(hh.mem.ent k e h h1 h2).drew,hh.mem.blk,hh.mem.Dp⟩
 ·exact R.mono (w:=w) (ok:=ok) (w':={ w with drawn:=w.drawn+1 }) (fun b z=>⟨z,rfl⟩) (.refl _) (hh.slot t ht)
 ·simp[Array.getD]at hl
 simp[Array.getD]at hl
def Xy (n:Nat) (sl:List Nat):List (Nat×Nat):=sl.flatMap fun i=>((List.range (n+1)).filter fun m=>decide (i≤m)).map fun m=>(i,m)
def uU (ops:Array Oper) (σ:Aj) (rs:List AV) (ess:List (List Aq)) (i:Nat):Aj:=EN ops σ (fun i=>rs.getD i .junk) (fun i=>ess.getD i []) i
def aEH (T:Kn P) (ops:Array Oper) (σ:Aj) (rs:List AV) (ess:List (List Aq)) (p:Nat×Nat):Option (AV×List Aq×Bool):=
 match ops[p.1]? with
 |some o=>(Uo T ops ⟨(uU ops σ rs ess p.1).slots,(uU ops σ rs ess p.2).ents,σ.base⟩ o).map fun r=>(r.x,r.E,r.bar)
 |none=>none
def aP7 (T:Kn P) {σ:Aj} {rs:List AV} {ess:List (List Aq)} {bs:List Bool} {sl:List Nat} (u:(sl.all fun i=> !(bs.getD i false))=true)
 (z:(Xy ops.size sl).map (aEH T ops σ rs ess)=(Xy ops.size sl).map fun p=>some (rs.getD p.1 .junk,(uU ops σ rs ess p.2).ents,false)):
 ∀i,i∈sl→bs.getD i false=false∧∀m,i≤m→m≤ops.size→∀o,ops[i]? =some o→Qe P ops ⟨(EN ops σ (fun i=>rs.getD i .junk) (fun i=>ess.getD i []) i).slots,(EN ops σ (fun i=>rs.getD i .junk) (fun i=>ess.getD i []) m).ents,σ.base⟩ (rs.getD i .junk) (EN ops σ (fun i=>rs.getD i .junk) (fun i=>ess.getD i []) m).ents false o:=by
 intro i hi;refine⟨by have :=E5.1 u i hi;simpa using this,fun m J U o L=>?_⟩
 have M:(i,m)∈Xy ops.size sl:=by
  unfold Xy;rw[RX];exact⟨i,hi,FH.2 ⟨m,ET.2 ⟨DK,TJ⟩,rfl⟩⟩
 have j:=List.map_inj_left.1 z (i,m) M;unfold aEH at j;rw[L]at j;simp only[TT]at j;obtain⟨r,O,q⟩:=j;have I:=X4 T O;simp only[RF]at q;rw[q.1,q.2.1,q.2.2]at I;exact I
def AP.aBV [T:Kn P] {id:Nat} {σ σ':Aj} {Q:Exit→Aj→Prop} {rs:List AV} {ess:List (List Aq)} {bs:List Bool} (sl:List Nat) (h:Eb P ops ops.toList σ rs ess bs σ') (z:Q .normal σ') (I:P.follows .mixedOrders=true:=by kernel_rfl)
 (j:(Uz ops&&Ut ops&&UC ops σ.slots.length&&VE ops)=true:=by kernel_rfl) (m:VN ops bs sl=true:=by kernel_rfl) (q:(sl.all fun i=> !(bs.getD i false))=true:=by kernel_rfl)
 (u:(Xy ops.size sl).map (aEH T ops σ rs ess)=(Xy ops.size sl).map fun p=>some (rs.getD p.1 .junk,(uU ops σ rs ess p.2).ents,false):=by kernel_rfl):AP P (.region id ops true) σ Q:=
 AP.ayX I j sl m h (aP7 T q u) z
def AP.ayY [T:Kn P] {id:Nat} {y:Code} {σ σ':Aj} {Q:Exit→Aj→Prop} {rs:List AV} {ess:List (List Aq)} {bs:List Bool} (sl:List Nat) (h:Eb P ops ops.toList σ rs ess bs σ') (z:AP P y σ' Q) (I:P.follows .mixedOrders=true:=by kernel_rfl)
 (j:(Uz ops&&Ut ops&&UC ops σ.slots.length&&VE ops)=true:=by kernel_rfl) (m:VN ops bs sl=true:=by kernel_rfl) (q:(sl.all fun i=> !(bs.getD i false))=true:=by kernel_rfl)
 (u:(Xy ops.size sl).map (aEH T ops σ rs ess)=(Xy ops.size sl).map fun p=>some (rs.getD p.1 .junk,(uU ops σ rs ess p.2).ents,false):=by kernel_rfl):AP P (.seq (.region id ops true) y) σ Q:=
 AP.seq1 σ' (AP.ayX I j sl m h (aP7 T q u) rfl) z
def AP.conv {c:Code} {σ m:Aj} {Q:Exit→Aj→Prop} (h:∀C ok H a w,Holds C ok H σ a w→∃ok',Holds C ok' H m a w) (k:AP P c m Q):AP P c σ Q:=⟨fun ro q C ok H a w u=>by
 obtain⟨ok',j⟩:=h C ok H a w u
 exact k.run ro q C ok' H a w j⟩
end
def zK (es:List Aq) (H:List BJ):List Nat:=(es.zip H).filterMap fun p=>if p.1.live then Cb p.2.v else none
def ada {es:List Aq} {H:List BJ} {b:Nat}:b∈zK es H↔∃(k:Nat) (e:Aq) (h:BJ),es[k]? =some e∧e.live=true∧H[k]? =some h∧Cb h.v=some b:=by
 unfold zK;rw[SN];constructor
 ·rintro⟨⟨e,h⟩,q,j⟩;obtain⟨k,m⟩:=List.mem_iff_getElem?.1 q;rw[adf]at m;split at j
  ·rename_i hl;exact⟨k,e,h,m.1,hl,m.2,j⟩
  cases j
 rintro⟨k,e,h,u,z,I,J⟩;exact⟨(e,h),List.mem_iff_getElem?.2 ⟨k,adf.2 ⟨u,I⟩⟩,by simp[z,J]⟩
def Dw.now (w:World) (ok:Nat→Prop) (es:List Aq) (H:List BJ):Dw:=⟨w,ok,zK es H,H⟩
section
variable {C : Dw} {ok ok' : Nat → Prop} {H H' : List BJ} {es es' : List Aq} {w w' : World}
def CS.inner (j:CS C ok H es w):CS (Dw.now w ok es H) ok H es w:=
 ⟨.refl _ _,fun _ h=>h,fun _ h=>.inl h,j.jM,.refl _,j.hlen,j.ent,
  fun k e h b m hl q u=>⟨(j.blk k e h b m hl q u).1,(j.blk k e h b m hl q u).2.1,.inr (ada.2 ⟨k,e,h,m,hl,q,u⟩)⟩,j.Dp⟩
def CS.outer (j:CS C ok H es w) (h:CS (Dw.now w ok es H) ok' H' es' w'):Dz ok w ok' w'∧Names H H'∧CS C ok' H' es' w':=by
 have z:∀b,b∈zK es H→¬ok b∧b<w.heap.size∧(C.w0.heap.size≤b∨b∈C.X):=fun b q=>by
  obtain⟨k,e,hd,m,J,u,U⟩:=ada.1 q;exact j.blk k e hd b m J u U
 refine⟨fun b q=>⟨h.xu b q,h.fr.block b (j.jM b q) fun I=>(z b I).1 q⟩,h.names,⟨h.fr.os.trans j.fr.os,h.fr.tape.trans j.fr.tape,h.fr.output.trans j.fr.output,EZ j.fr.size h.fr.size,fun k O I=>?_⟩,fun b q=>h.xu b (j.xu b q),fun b q=>?_,h.jM,j.names.trans h.names,h.hlen,h.ent,fun k e hd b Y hl Z q=>?_,h.Dp⟩
 ·have L:k<w.heap.size:=Vh O j.fr.size;refine(h.fr.block k L fun M=>?_).trans (j.fr.block k O I);rcases(z k M).2.2 with m|m
  ·omega
  exact I m
 ·rcases h.xw b q with m|m|m
  ·exact j.xw b m
  ·exact .inr (.inl (EZ j.fr.size m))
  exact .inr ((z b m).2.2)
 obtain⟨m,J,u⟩:=h.blk k e hd b Y hl Z q;refine⟨m,J,?_⟩;rcases u with u|u
 ·exact .inl (EZ j.fr.size u)
 exact(z b u).2.2
def CS.ahM (u:CS C ok H es w) {n:Nat} {e e':Aq} {h:BJ} {b:Nat} {o:Obj} (J:es[n]? =some e) (hl:e.live=true) (L:H[n]? =some h) (M:Cb h.v=some b) (he:Dz ok w ok (w.putObj b o)→EY ok (w.putObj b o) H h e'):
 CS C ok H (es.set n e') (w.putObj b o)∧Dz ok w ok (w.putObj b o):=by
 obtain⟨O,h2,h3⟩:=u.blk n e h b J hl L M;have hg:Dz ok w ok (w.putObj b o):=fun c j=>⟨j,Xc fun e=>O (e▸j)⟩
 have z:=(FB.1 J).1;refine u.change (fun c=>c=b) rfl rfl rfl Am (fun c _ j=>Xc j) (fun c j _=>by subst j;exact⟨O,h3⟩) (fun _ h=>h) (fun _ h=>.inl h) (.refl _) (by simpa using u.hlen) fun k e2 h4 hk m=>?_;rcases LD z hk with⟨rfl,rfl⟩|⟨q,I⟩
 ·right;rw[L]at m;obtain rfl:=CG m;refine⟨he hg,fun _ c j=>?_⟩;rw[M]at j;obtain rfl:=CG j;refine⟨O,jq,h3,fun k' e3 h5 q U Y Z hb3=>?_⟩;rcases LD z U with⟨rfl,_⟩|⟨_,hk4⟩
  ·exact q rfl
  exact q (u.Dp k' _ e3 e h5 h _ hk4 J Y hl Z L hb3 M)
 left;exact⟨I,m,fun hl2 c j hcb=>q (u.Dp k n e2 e h4 h c I J hl2 hl m L j (by rw[hcb];exact M))⟩
def YA :List Tmp→List AV→List AV→List AV
 |p::j,x::xs,sl=>YA j xs (sl.set p x)
 |_,_,sl=>sl
def ad6 :∀(j:List Tmp) (xs:List AV) (vs:List Value) (sl:List AV) (tm:Array Value),xs.length=j.length→vs.length=j.length→(∀i,i<xs.length→R ok w H (xs.getD i .junk) (vs.getD i undef))→
 tm.size=sl.length→(∀t,t<sl.length→R ok w H (sl.getD t .junk) (tm.getD t undef))→
 ((j.zip vs).foldl (fun t p=>t.setIfInBounds p.1 p.2) tm).size=(YA j xs sl).length∧∀t,t<(YA j xs sl).length→R ok w H ((YA j xs sl).getD t .junk) (((j.zip vs).foldl (fun t p=>t.setIfInBounds p.1 p.2) tm).getD t undef)
 | [],xs,vs,sl,tm,_,_,_,hs,q=>by
   have e:YA [] xs sl=sl:=by cases xs<;>rfl
   rw[e];exact⟨hs,q⟩
 |p::j,[],vs,sl,tm,h,_,_,_,_=>Gv
 |p::j,x::xs,[],sl,tm,_,h,_,_,_=>Gv
 |p::j,x::xs,v::vs,sl,tm,J,L,I,hs,q=>by
  refine ad6 j xs vs (sl.set p x) (tm.setIfInBounds p v) TJ sI (fun i hi=>by simpa using I (i+1) FU) nZ (fun t m=>?_);rw[Zx]at m;by_cases e:p=t
  ·subst e;have u:(sl.set p x).getD p .junk=x:=zD
   have z:(tm.setIfInBounds p v).getD p undef=v:=by simp[Array.getD,hs,m]
   rw[u,z];simpa using I 0 Am
  have u:(sl.set p x).getD t .junk=sl.getD t .junk:=aIH
  have z:(tm.setIfInBounds p v).getD t undef=tm.getD t undef:=by simp[Gj,Ja e]
  rw[u,z];exact q t m
end
def WS :Exit→Option (LoopState×Option Code)
 | .normal=>some (.ready,none)
 | .ret=>some (.done,some .ret)
 | .exit i=>some (.done,some (.exit i))
 |_=>none
section
variable {P : Program} {ops : Array Oper} {o : Oper} {rest l : List Oper} {σ : Aj} {K : Exit → Aj → Prop}
def wu {h:BJ} {l:Nat} (e:h.v=.func (.yield l) #[] #[]):Cb h.v=some l:=vC
def CW.yield {f:Operand} {xs:Array Operand} {ts:Array TypeId} {tm:Array Value} {slots:List AV} {rc:Array Tmp×Code×Code} (k:Nat) (dX:List AV)
 (ho:o.op=.call { callee:=.value f,args:=xs,argTypes:=ts }) (hf:σ.get f=.mp k) (hk:σ.ents[k]? =some (.loop tm slots rc .ready none)) (hx:xs.toList.map σ.get=dX) (z:rc.1.size=xs.size)
 (hg:IV ops σ o.guard=some true) (I:(Oh rc.2.1&&Oh rc.2.2)=true)
 (h:AP P rc.2.1 ⟨YA rc.1.toList dX slots,σ.ents,σ.ents.length⟩ fun e s=>e=.normal∧∃sl,s.ents[k]? =some (.loop tm sl rc .ready none)∧
  AP P rc.2.2 ⟨s.slots,s.ents.set k (.loop tm sl rc .busy none),s.base⟩ fun e s2=>∃u j,s2.ents[k]? =some (.loop tm u rc .busy none)∧WS e=some j∧
   CW P ops rest (Aj.qG ⟨σ.slots,s2.ents.set k (.loop tm u rc j.1 j.2),σ.base⟩ o.dst (.d (.lit (.bool j.2.isNone)))) K):CW P ops (o::rest) σ K:=by
 rw[CV]at I;refine⟨fun ro l2 Q C ok H a w q J=>?_⟩;show wpListIn (IE ro) 0 P ops Q (o::(rest++l2)) a w;unfold wpListIn;rw[CJ (OH q (Ku hg))];have hv:=hf▸q.get f;obtain⟨hd,L,Y⟩:=FV q.mem.ent q.mem.hlen hk;obtain⟨l,fn,D,e1,e2,e3,e4⟩:=Y
 have Z:a.eval f=.func (.yield l) #[] #[]:=by
  cases hv with
  |mp _ v s hl hH=>
   rw[L]at hH;obtain rfl:=CG hH;exact e1
 have hrun:(execOp a.eval o).run P w=.ok (.round l fn ((rc.1.zip (xs.map a.eval)).foldl (fun tmps (t,a)=>tmps.setIfInBounds t a) tm) rc.2.1 rc.2.2) w:=by
  have :=run_yield (P:=P) e2 (args:=xs.map a.eval) (by simp[z]);simp[execOp,ho,resolve,Z,Deferred.ofValue,invoke,this]
 unfold Oper.wpIn;rw[eX _ _ _ (by rw[ho];intro c h;cases h),hrun,Oper.uponIn_round];refine⟨fun _ _=>trivial,fun h=>Fr,roundIn_of_wpIn trivial ?_⟩
 have hT:(rc.1.zip (xs.map a.eval)).foldl (fun tmps (t,a)=>tmps.setIfInBounds t a) tm=(rc.1.toList.zip (xs.toList.map a.eval)).foldl (fun t p=>t.setIfInBounds p.1 p.2) tm:=by
  rw[←Array.foldl_toList,Array.toList_zip,Array.toList_map]
 rw[hT];have hpl:dX.length=rc.1.toList.length:=by rw[←hx];simp[z]
 obtain⟨p1,p2⟩:=ad6 (ok:=ok) (w:=w) (H:=H) rc.1.toList dX (xs.toList.map a.eval) slots tm hpl (by simp[z]) (fun i hi=>by
  have hi':i<xs.toList.length:=by rw[←hx]at hi;simpa using hi
  have hi2:i<xs.size:=by simpa using hi'
  have U:dX.getD i .junk=σ.get xs.toList[i]:=by rw[←hx];simp[List.getD,hi2]
  have q2:(xs.toList.map a.eval).getD i undef=a.eval xs.toList[i]:=by simp[List.getD,hi2]
  rw[U,q2];exact q.get _) e3 e4
 have hin:Holds (Dw.now w ok σ.ents H) ok H ⟨YA rc.1.toList dX slots,σ.ents,σ.ents.length⟩ { tmps:=(rc.1.toList.zip (xs.toList.map a.eval)).foldl (fun t p=>t.setIfInBounds p.1 p.2) tm,defers:=[] } w:=
  ⟨q.mem.inner,p1,.nil _ _ _,q.mem.hlen,p2⟩
 show Code.wpIn (IE (some l)) 0 P _ _ _ _;refine TF (h.run (some l) (.inr I.1) _ _ _ _ _ hin) ?_;rintro e a1 w1 ⟨ok1,H1,s1,m,rfl,sl,hs1,h2⟩;obtain⟨g1,n1,m1⟩:=q.mem.outer m.mem;have hk1:=n1 k hd L;obtain⟨l',fn',D',U,q2,q3,q4⟩:=m.mem.ent k _ hd hs1 hk1;have M:l'=l:=by rw[e1]at U;cases U;rfl
 subst M
 obtain⟨m2,g2⟩:=m.mem.ahM (o:=.loop { state:=.busy,pending:=none,fn:=fn',tmps:=tm,params:=rc.1,assign:=rc.2.1,body:=rc.2.2,defers:=D' }) (e':=.loop tm sl rc .busy none) hs1 rfl hk1 (wu U)
  (fun g=>⟨l',fn',D',U,V8 (FX.1 q2).1,q3,fun t O=>(q4 t O).mono g (.refl _)⟩)
 refine⟨_,run_beginRound q2 rfl,?_⟩;refine TF (h2.run (some l') (.inr I.2) _ _ _ _ _ ⟨m2,m.size,m.defers.mono g2,m.base,fun t O=>(m.slot t O).mono g2 (.refl _)⟩) ?_;rintro e a2 w3 ⟨ok2,H2,s2,hh2,u,j,hs2,hj,hL⟩;obtain⟨g3,n3,m3⟩:=q.mem.outer hh2.mem;have hk2:=n3 k hd L;obtain⟨l3,fn3,D3,r1,r2,r3,r4⟩:=hh2.mem.ent k _ hd hs2 hk2;have M:l3=l':=by rw[e1]at r1;cases r1;rfl
 subst M
 have key:j.1=(if j.2.isNone then LoopState.ready else .done)→∃v w',(Instr.endRound l3 j.2).run P w3=.ok v w'∧wpListIn (IE ro) 0 P ops Q (rest++l2) (a.put o.dst v) w':=by
  intro hst
  obtain⟨m4,g4⟩:=m3.ahM (o:=.loop { state:=(if j.2.isNone then LoopState.ready else .done),pending:=j.2,fn:=fn3,tmps:=tm,params:=rc.1,assign:=rc.2.1,body:=rc.2.2,defers:=D3 }) (e':=.loop tm u rc j.1 j.2) hs2 rfl hk2 (wu r1)
   (fun g=>⟨l3,fn3,D3,r1,by rw[hst];exact V8 (FX.1 r2).1,r3,fun t O=>(r4 t O).mono g (.refl _)⟩)
  refine⟨_,_,run_endRound j.2 r2,hL.run ro l2 Q C _ _ _ _ (Holds.put (σ:=⟨σ.slots,s2.ents.set k (.loop tm u rc j.1 j.2),σ.base⟩) ⟨m4,q.size,q.defers.mono (g3.trans g4),q.base,fun t O=>(q.slot t O).mono (g3.trans g4) n3⟩ o.dst (.refl _ _) (.refl _) m4 (.d _ _ (.lit _))) J⟩
 cases e with
 |normal=>obtain rfl:=CG hj;exact key rfl
 |ret=>obtain rfl:=CG hj;exact key rfl
 |exit i=>obtain rfl:=CG hj;exact key rfl
 |_=>cases hj
def AP.avQ {Q:Exit→Aj→Prop} {g:Operand} {U:Array Tmp} {assign body c:Code} {gf:FuncId} {fn:Func} (m:List AV) (hg:∀(C:Dw) (ok:Nat→Prop) (H:List BJ) (a:Act) (w:World),Holds C ok H σ a w→R ok w H (.fn (.func gf) [] m) (a.eval g)) (hf:P.funcs[gf]? =some fn) (he:DV P gf=true) (I:fn.body=some c) (hres:fn.results= #[])
 (h:∀tm,AP P c ⟨(.mp σ.ents.length::m)++List.replicate (fn.ntmps-(m.length+1)) .junk,σ.ents++[.loop tm σ.slots (U,assign,body) .ready none],σ.ents.length+1⟩ fun e s=>(e=.normal∨e=.ret)∧
  ∃sl j x,s.ents[σ.ents.length]? =some (.loop tm sl (U,assign,body) j.1 j.2)∧WS x=some j∧Q x ⟨σ.slots,s.ents.set σ.ents.length .dead,σ.base⟩):AP P (.rangeFunc g U assign body) σ Q:=by
 refine⟨fun ro hr C ok H a w q=>?_⟩;obtain rfl:ro=none:=hr.resolve_right (by simp[Oh]);have hv:=hg C ok H a w q;generalize hav:a.eval g=v at hv;cases hv with
 |fn _ _ _ vs us hl1 hl2 h1 h2=>
  obtain rfl:vs= #[]:=Yx (by simpa using hl1);refine wpIn_rangeFunc ?_;intro fnm _;obtain⟨L,hrec⟩:∃L:Loop,L={ state:=.ready,pending:=none,fn:=fnm,tmps:=a.tmps,params:=U,assign,body,defers:=w.heap.size }:=⟨_,rfl⟩
  obtain⟨z,J⟩:∃z,(w.alloc (.deferred (some []))).alloc (.loop L)=z:=⟨_,rfl⟩
  have hsz:z.heap.size=w.heap.size+2:=by rw[←J];simp
  have hL:z.heap[w.heap.size+1]? =some (.loop L):=by
   rw[←J];have :=gV (w.alloc (.deferred (some []))) (.loop L);rwa [aIa]at this
  have hD:z.heap[w.heap.size]? =some (.deferred (some [])):=by
   rw[←J];exact(J7 _ _ _ Am).trans (gV w _)
  have hold:∀b,b<w.heap.size→z.heap[b]? =w.heap[b]? :=fun b I=>by
   rw[←J];exact(J7 _ _ _ DK).trans (J7 _ _ _ I)
  have hos:z.os=w.os∧z.tape=w.tape∧z.output=w.output:=by rw[←J];exact⟨rfl,rfl,rfl⟩
  obtain⟨hd,hhd⟩:∃hd:BJ,hd=⟨.func (.yield (w.heap.size+1)) #[] #[],0⟩:=⟨_,rfl⟩
  have Y:hd.v=.func (.yield (w.heap.size+1)) #[] #[]:=by rw[hhd]
  have hgr:Dz ok w (fun b=>ok b∨b=w.heap.size) z:=fun b I=>⟨.inl I,hold b (q.mem.jM b I)⟩
  have hHn:(H++[hd])[σ.ents.length]? =some hd:=by rw[←q.mem.hlen];simp
  obtain⟨m2,g2⟩:=q.mem.change (ok':=fun b=>ok b∨b=w.heap.size) (H':=H++[hd]) (es':=σ.ents++[.loop a.tmps σ.slots (U,assign,body) .ready none]) (w':=z) (fun _=>False) hos.1 hos.2.1 hos.2.2 A8 (fun b I _=>hold b I) (fun _ h=>h.elim)
   (fun _ h=>.inl h) (fun b I=>I.imp id fun h=>A8) (.push _ _) (by simp[q.mem.hlen]) (fun k e hk he Z=>by
    rcases V4 he with he'|⟨rfl,rfl⟩
    ·left;have hkl:k<H.length:=by rw[q.mem.hlen];exact(FB.1 he').1
     rw[Fv hkl]at Z;exact⟨he',Z,fun _ _ _ h=>h⟩
    right;rw[hHn]at Z;obtain rfl:=CG Z;refine⟨⟨w.heap.size+1,fnm,w.heap.size,Y,by rw[hL,hrec],q.size,fun t ht=>(q.slot t ht).mono hgr (.push _ _)⟩,fun _ b I=>?_⟩;rw[wu Y]at I;obtain rfl:=CG I;refine⟨fun hx=>?_,A8,.inl (by have :=q.mem.fr.size;omega),fun k' e' h' hne he' hl' M hb'=>?_⟩
    ·rcases hx with hx|hx
     ·have :=q.mem.jM _ hx;omega
     omega
    rcases V4 he' with he2|⟨rfl,_⟩
    ·have hkl:k'<H.length:=by rw[q.mem.hlen];exact(FB.1 he2).1
     rw[Fv hkl]at M;have :=(q.mem.blk k' e' h' _ he2 hl' M hb').2.1;omega
    exact hne rfl)
  have hargs:∀t,t<((.mp σ.ents.length::m)++List.replicate (fn.ntmps-(m.length+1)) .junk:List AV).length→
   R (fun b=>ok b∨b=w.heap.size) z (H++[hd]) (((.mp σ.ents.length::m)++List.replicate (fn.ntmps-(m.length+1)) .junk:List AV).getD t .junk)
     (((#[.func (.yield (w.heap.size+1)) #[] #[]]++us)++Array.replicate (fn.ntmps-(#[.func (.yield (w.heap.size+1)) #[] #[]]++us:Array Value).size) undef:Array Value).getD t undef):=by
   intro t ht;by_cases h0:t<m.length+1
   ·have q1:((.mp σ.ents.length::m)++List.replicate (fn.ntmps-(m.length+1)) .junk:List AV).getD t .junk=(.mp σ.ents.length::m:List AV).getD t .junk:=by
     simp only[List.getD];rw[Fv (by simpa using h0)]
    have q2:((#[.func (.yield (w.heap.size+1)) #[] #[]]++us)++Array.replicate (fn.ntmps-(#[.func (.yield (w.heap.size+1)) #[] #[]]++us:Array Value).size) undef:Array Value).getD t undef=(#[.func (.yield (w.heap.size+1)) #[] #[]]++us:Array Value).getD t undef:=by
     simp only[Gj];rw[Yq DK]
    rw[q1,q2];cases t with
    |zero=>
     have q3:(#[.func (.yield (w.heap.size+1)) #[] #[]]++us:Array Value).getD 0 undef=.func (.yield (w.heap.size+1)) #[] #[]:=by
      simp only[Gj];rw[Yq Am];rfl
     rw[q3];exact .mp _ _ 0 rfl (by rw[hHn,hhd])
    |succ t=>
     have q3:(#[.func (.yield (w.heap.size+1)) #[] #[]]++us:Array Value).getD (t+1) undef=us.getD t undef:=by
      simp only[Gj];rw[aLZ Am];rfl
     rw[q3];simpa using(h2 t A8).mono hgr (.push _ _)
   have q1:((.mp σ.ents.length::m)++List.replicate (fn.ntmps-(m.length+1)) .junk:List AV).getD t .junk=.junk:=by
    simp only[List.getD];rw[J3 DK,aMY];split<;>rfl
   rw[q1];exact .junk _
  have hin:Holds (Dw.now z (fun b=>ok b∨b=w.heap.size) (σ.ents++[.loop a.tmps σ.slots (U,assign,body) .ready none]) (H++[hd])) (fun b=>ok b∨b=w.heap.size) (H++[hd])
   ⟨(.mp σ.ents.length::m)++List.replicate (fn.ntmps-(m.length+1)) .junk,σ.ents++[.loop a.tmps σ.slots (U,assign,body) .ready none],σ.ents.length+1⟩
   { tmps:=(#[.func (.yield (w.heap.size+1)) #[] #[]]++us)++Array.replicate (fn.ntmps-(#[.func (.yield (w.heap.size+1)) #[] #[]]++us:Array Value).size) undef,defers:=[] } z:=
   ⟨m2.inner,by simp[hl2];omega,.nil _ _ _,by simp[Dw.now,q.mem.hlen],hargs⟩
  refine⟨w.heap.size+1,[{ target:=.collected w.heap.size,args:= #[] }],z,{ target:=.fn (.func gf) us,args:= #[.func (.yield (w.heap.size+1)) #[] #[]] },z,gf, #[.func (.yield (w.heap.size+1)) #[] #[]]++us,z,?_,?_,fun _ _=>trivial,?_,fun h=>Fr,?_⟩
  ·rw[←J,hrec];exact run_enterLoop_outer _ _ _ _ _
  ·have e9:a.eval (.const (.func (.yield (w.heap.size+1)) #[] #[]))=.func (.yield (w.heap.size+1)) #[] #[]:=rfl;simp[resolve,hav,Deferred.ofValue,e9]
  ·have :=RI he (#[.func (.yield (w.heap.size+1)) #[] #[]]++us) z;simpa[invoke]using this
  refine aHQ hf I trivial (TF ((h a.tmps).run none (.inl rfl) _ _ _ _ _ hin) ?_) rfl;rintro e a' w' ⟨ok',H',s,M,hee,sl,j,x,hs,hj,hQ⟩;obtain⟨Ds,hDs,hnd,hds⟩:=M.defers
  have key:LeavesInM (IE none) 0 P fn a'.tmps (rangePost (IE none) 0 P (w.heap.size+1) (fun e a' w'=>∃ok' H' σ',Holds C ok' H' σ' a' w'∧Q e σ') { a with defers:=[{ target:=.collected w.heap.size,args:= #[] }]++a.defers }) a'.defers .returning w':=by
   rw[hDs];refine aLf (P:=P) (C:=Dw.now z (fun b=>ok b∨b=w.heap.size) (σ.ents++[.loop a.tmps σ.slots (U,assign,body) .ready none]) (H++[hd])) m2.jM (fun ok3 a3 w3 h3=>?_) Ds M hds hnd;refine⟨.tuple #[],by simp[results,hres],?_⟩;obtain⟨g3,n3,m3⟩:=m2.outer h3.mem;have hk3:=n3 _ hd hHn;obtain⟨l3,fn3,D3,r1,r2,r3,r4⟩:=h3.mem.ent _ _ hd hs hk3;have hll:l3=w.heap.size+1:=by rw[Y]at r1;cases r1;rfl
   subst hll
   have hnb:j.1≠ .busy:=by
    cases x<;>simp[WS]at hj<;>rw[←hj]<;>simp
   obtain⟨m4,g4⟩:=m3.ahM (o:=.loop { state:=.exhausted,pending:=j.2,fn:=fn3,tmps:=a.tmps,params:=U,assign:=assign,body:=body,defers:=D3 }) (e':=.dead) hs rfl hk3 (wu Y) (fun _=>trivial);have O:=(g2.trans g3).trans g4
   have u:Holds C ok3 H' ⟨σ.slots,s.ents.set σ.ents.length .dead,σ.base⟩ { a with defers:=[{ target:=.collected w.heap.size,args:= #[] }]++a.defers }
    (w3.putObj (w.heap.size+1) (.loop { state:=.exhausted,pending:=j.2,fn:=fn3,tmps:=a.tmps,params:=U,assign:=assign,body:=body,defers:=D3 })):=by
    refine⟨m4,q.size,?_,q.base,fun t ht=>(q.slot t ht).mono O ((Names.push _ _).trans n3)⟩;obtain⟨Es,q1,q2,q3⟩:=q.defers.mono O;obtain⟨Fs,p1,p2,p3⟩:=q.defers
    have hEF:Es=Fs:=by
     have :=q1.symm.trans p1;exact(List.map_inj_right (fun a b h=>JU)).1 this
    subst hEF;refine⟨w.heap.size::Es,by simp[q1],JX.2 ⟨fun hm=>?_,q2⟩,fun D hDm=>?_⟩
    ·have :=q.mem.jM _ (p3 _ hm).1;omega
    rcases EO.1 hDm with rfl|hDm
    ·have hok2:(fun b=>ok b∨b=w.heap.size) w.heap.size:=.inr rfl;have q4:=(g3.trans g4) _ hok2;exact⟨q4.1,q.mem.fr.size,q4.2.trans hD⟩
    exact q3 D hDm
   refine⟨j.2,_,run_endLoop r2 hnb,?_⟩;cases x with
   |normal=>simp[WS]at hj;rw[←hj]at u ⊢;exact⟨_,_,_,u,hQ⟩
   |ret=>simp[WS]at hj;rw[←hj]at u ⊢;exact wpIn_ret ⟨_,_,_,u,hQ⟩
   |exit i=>simp[WS]at hj;rw[←hj]at u ⊢;exact wpIn_exit ⟨_,_,_,u,hQ⟩
   |_=>cases hj
  rcases hee with rfl|rfl
  ·exact key
  exact key
def AP.rangeFunc {Q:Exit→Aj→Prop} {g:Operand} {u:Array Tmp} {assign body c:Code} {z:FuncId} {fn:Func} (m:List AV) (I:σ.get g=.fn (.func z) [] m) (J:P.funcs[z]? =some fn) (L:DV P z=true) (M:fn.body=some c) (q:fn.results= #[])
 (h:∀tm,AP P c ⟨(.mp σ.ents.length::m)++List.replicate (fn.ntmps-(m.length+1)) .junk,σ.ents++[.loop tm σ.slots (u,assign,body) .ready none],σ.ents.length+1⟩ fun e s=>(e=.normal∨e=.ret)∧
  ∃sl j x,s.ents[σ.ents.length]? =some (.loop tm sl (u,assign,body) j.1 j.2)∧WS x=some j∧Q x ⟨σ.slots,s.ents.set σ.ents.length .dead,σ.base⟩):AP P (.rangeFunc g u assign body) σ Q:=
 AP.avQ m (fun _ _ _ _ _ O=>I▸O.get g) J L M q h
def AP.akv {Q:Exit→Aj→Prop} {g:Operand} {q:Array Tmp} {assign body c:Code} {u:FuncId} {fn:Func} (cs:List D) (z:σ.get g=.d (.fn (.func u) [] cs)) (I:P.funcs[u]? =some fn) (J:DV P u=true) (L:fn.body=some c) (m:fn.results= #[])
 (h:∀tm,AP P c ⟨(.mp σ.ents.length::cs.map .d)++List.replicate (fn.ntmps-((cs.map AV.d).length+1)) .junk,σ.ents++[.loop tm σ.slots (q,assign,body) .ready none],σ.ents.length+1⟩ fun e s=>(e=.normal∨e=.ret)∧
  ∃sl j x,s.ents[σ.ents.length]? =some (.loop tm sl (q,assign,body) j.1 j.2)∧WS x=some j∧Q x ⟨σ.slots,s.ents.set σ.ents.length .dead,σ.base⟩):AP P (.rangeFunc g q assign body) σ Q:=
 AP.avQ (cs.map .d) (fun _ _ _ _ _ M=>R.dfn (z▸M.get g)) I J L m h
end
def ajw :Code→Nat→Code
 | .seq a b,i=>if i=0 then a else b
 | .cond _ a b,i=>if i=0 then a else b
 | .block _ a,_=>a
 | .loop a,_=>a
 | .scope a,_=>a
 | .rangeFunc _ _ a b,i=>if i=0 then a else b
 |c,_=>c
def zJ (c:Option Code) (p:List Nat):Array Tmp×Code×Code:=
 match p.foldl ajw (c.getD .skip)with
 | .rangeFunc _ j a b=>(j,a,b)
 |_=>(#[],.skip,.skip)
section
variable {K V : Type} [BEq K]
def CB :List (K×V)→K→Option V
 | [],_=>none
 |p::l,k=>bif k==p.1 then some p.2 else CB l k
def Dj :List (K×V)→K→V→List (K×V)
 | [],k,v=>[(k,v)]
 |p::l,k,v=>bif k==p.1 then(k,v)::l else p::Dj l k v
def BX (ek:K→Value) (ev:V→D) (p:K×V):Value×D:=(ek p.1,ev p.2)
structure KeyTy (P:Program) (t:TypeId) (ek:K→Value):Prop where
 same:∃kd,P.underlying t=some kd∧∀a b,Instr.sameNow kd (ek a) (ek b)=some (a==b)
 check:∀e a w,(Instr.checkKey e 10000 t (ek a)).run P w=.ok () w
 eq:∀a b:K,(a==b)=true→a=b
 bits:∀a,Instr.sameBits 10000 (ek a) (ek a)=true
def aqD {P:Program} {t:TypeId} {k:IntKind} (h:P.underlying t=some (.int k)):KeyTy P t (fun n:Int=>Value.int k n):=by
 refine⟨⟨_,h,fun a b=>by simp[Instr.sameNow]⟩,fun e a w=>?_,fun a b h=>JU,fun a=>?_⟩
 ·have :∀n,(Instr.checkKey e (n+1) t (.int k a)).run P w=.ok () w:=fun n=>by simp[Instr.checkKey,underlying,h]
  exact this 9999
 unfold Instr.sameBits;simp
def aDy {ek:K→Value} {kd:TypeDesc} (hs:∀a b,Instr.sameNow kd (ek a) (ek b)=some (a==b)) (k:K) (v:V):∀(m:List (K×V)) (l:List MapEntry) (i:Nat),l.map (·.key)=m.map (fun p=>ek p.1)→
 (Instr.findNow kd (ek k) l i=some none∧CB m k=none∧Dj m k v=m++[(k,v)])∨
 ∃j e p,Instr.findNow kd (ek k) l i=some (some (i+j,e.val))∧l[j]? =some e∧m[j]? =some p∧CB m k=some p.2∧(k==p.1)=true∧Dj m k v=m.set j (k,v)
 | [],[],_,_=>.inl ⟨rfl,rfl,rfl⟩
 | [],_::_,_,h=>Gv
 |_::_,[],_,h=>Gv
 |p::m,e::l,i,h=>by
  simp only[I7,vW]at h;cases q:(k==p.1)with
  |true=>
   refine .inr ⟨0,e,p,?_,rfl,rfl,?_,q,?_⟩
   ·simp[Instr.findNow,h.1,hs,q]
   ·simp[CB,q]
   simp[Dj,q]
  |false=>
   rcases aDy hs k v m l (i+1) h.2 with⟨u,z,I⟩|⟨j,e',J,u,z,I,L,M,O⟩
   ·refine .inl ⟨?_,?_,?_⟩
    ·simp[Instr.findNow,h.1,hs,q,u]
    ·simp[CB,q,z]
    simp[Dj,q,I]
   refine .inr ⟨j+1,e',J,?_,SS,PK,?_,M,?_⟩
   ·simp[Instr.findNow,h.1,hs,q,u];omega
   ·simp[CB,q,L]
   simp[Dj,q,O]
end
section
variable {ok : Nat → Prop} {w : World} {es : List (Value × D)} {ms : Array MapEntry} {clock : Nat}
def Ij.push (h:Ij ok w es ms clock) {k v:Value} {x:D} (M:DF ok w x v):Ij ok w (es++[(k,x)]) (ms.push { key:=k,val:=v,born:=clock }) (clock+1):=by
 have q:∀(i:Nat) (m:MapEntry),(ms.push { key:=k,val:=v,born:=clock })[i]? =some m→ms[i]? =some m∨(i=ms.size∧m={ key:=k,val:=v,born:=clock }):=fun i m u=>by
  rw[aHz]at u;split at u
  ·rename_i e;exact .inr ⟨e,(CG u).symm⟩
  exact .inl u
 refine⟨by simp[h.len],fun i e m I u=>?_,fun i j m n J u O=>?_⟩
 ·rcases q i m u with z|⟨rfl,rfl⟩
  ·have hi:i<es.length:=by rw[←h.len];exact(FX.1 z).1
   rw[Fv hi]at I;obtain⟨U,Y,Z⟩:=h.ent i e m I z;exact⟨U,Y,Nat.lt_succ_of_lt Z⟩
  rw[h.len]at I;simp at I;subst I;exact⟨rfl,M,XU _⟩
 rcases q i m u with z|⟨rfl,rfl⟩<;>rcases q j n O with L|⟨rfl,rfl⟩
 ·exact h.inc i j m n J z L
 ·have hi:i<es.length:=by rw[←h.len];exact(FX.1 z).1
  exact(h.ent i es[i] m Pq z).2.2
 ·have :=(FX.1 L).1;omega
 omega
def Ij.modify (h:Ij ok w es ms clock) {k v:Value} {x:D} (hx:DF ok w x v) (j:Nat):Ij ok w (es.set j (k,x)) (ms.modify j fun e=>{ e with key:=k,val:=v }) clock:=by
 have u:∀(i:Nat) (m:MapEntry),(ms.modify j fun e=>{ e with key:=k,val:=v })[i]? =some m→∃z,ms[i]? =some z∧m.born=z.born∧(i≠j→m=z)∧(i=j→m.key=k∧m.val=v):=fun i m I=>by
  rw[Nl]at I;split at I
  ·rename_i e;rw[TT]at I;obtain⟨z,J,rfl⟩:=I;exact⟨z,J,rfl,fun q=>absurd e.symm q,fun _=>⟨rfl,rfl⟩⟩
  rename_i e;exact⟨m,I,rfl,fun _=>rfl,fun q=>absurd q.symm e⟩
 refine⟨by simp[h.len],fun i e m L I=>?_,fun i Y m n M I hn=>?_⟩
 ·obtain⟨z,J,O,h3,Z⟩:=u i m I;have hi:i<es.length:=by rw[←h.len];exact(FX.1 J).1
  obtain⟨q1,q2,q3⟩:=h.ent i es[i] z Pq J;by_cases U:i=j
  ·subst U;simp[hi]at L;subst L;exact⟨(Z rfl).1,by rw[(Z rfl).2];exact hx,by rw[O];exact q3⟩
  rw[XT (fun q=>U q.symm)]at L;rw[h3 U];exact h.ent i e z L J
 obtain⟨z,J,O,_⟩:=u i m I;obtain⟨n0,g1,g2,_⟩:=u Y n hn;rw[O,g2];exact h.inc i Y z n0 M J g1
def Ij.mono {ok':Nat→Prop} {w':World} (h:Ij ok w es ms clock) (u:Dz ok w ok' w'):Ij ok' w' es ms clock:=⟨h.len,fun i e m j q=>⟨(h.ent i e m j q).1,(h.ent i e m j q).2.1.mono u,(h.ent i e m j q).2.2⟩,h.inc⟩
def Ij.keys (h:Ij ok w es ms clock):ms.toList.map (·.key)=es.map (·.1):=by
 apply qP
 ·simp[h.len]
 intro i j m;simp at j m;have :=(h.ent i es[i] ms[i] (by simp[m]) gu).1;simpa using this
end
def XO :Value→D
 | .agg vs=>.agg (vs.toList.map Nz)
 |v=>Nz v
def aeL {ok:Nat→Prop} {w:World} {z:Value} (h:z.cells.all (·.oneCell')=true):DF ok w (XO z) z:=by
 unfold XO;split
 ·rename_i vs;refine .agg _ vs Am (fun i hi=>?_) (fun i hi=>?_)
  ·simp at hi;have e:(vs.toList.map Nz).getD i D8=Nz vs[i]:=LX
   rw[e];exact qo ((PU.1 h) _ (by simp[Value.cells]))
  simp at hi;have e:(vs.toList.map Nz).getD i D8=Nz vs[i]:=LX
  have j:vs.getD i undef=vs[i]:=by simp[Array.getD,hi]
  rw[e,j];exact bG _
 exact bG _
section
variable {P : Program} {o : Oper} {es : List Aq} {K V : Type} [BEq K]
def Qw {ok:Nat→Prop} {w:World} {H:List BJ} {k:Nat} {v:Value} {h:BJ} (m:R ok w H (.mp k) v) (q:H[k]? =some h):v=h.v:=by
 cases m with
 |mp _ _ s hl j=>
  rw[q]at j;cases j;rfl
def aGT {t:TypeId} (z:o.op=.makeMap t none):BN P o [] es (.mp es.length) (es++[.map []]):=
 .eff fun C ok H a w q O=>by
  have u:EY ok (w.alloc (.map #[] 0)) (H++[⟨.map (some w.heap.size),0⟩]) ⟨.map (some w.heap.size),0⟩ (.map []):=
   ⟨w.heap.size, #[],0,rfl,(aF0 w _).1,⟨rfl,fun i e m I=>by simp at I,fun i j m n _ q=>TG⟩⟩
  obtain⟨J,L⟩:=q.push (.map #[] 0) ⟨.map (some w.heap.size),0⟩ _ (fun b u=>aHg) u;refine⟨.map (some w.heap.size),_,ok,_,.inl ?_,L,Names.push _ _,J,.mp _ _ 0 rfl aA5⟩;have M:(newObj (.map #[] 0)).run P w=.ok w.heap.size (w.alloc (.map #[] 0)):=rfl;simp[execOp,z,Instr.makeMap,M]
def aco {t k e:TypeId} {x:Operand} {kd:IntKind} {n:Int} (I:P.underlying t=some (.map k e)) (J:o.op=.makeMap t (some x)):BN P o [(x,.d (.lit (.int kd n)))] es (.mp es.length) (es++[.map []]):=
 .eff fun C ok H a w q L=>by
  have u:EY ok (w.alloc (.map #[] 0)) (H++[⟨.map (some w.heap.size),0⟩]) ⟨.map (some w.heap.size),0⟩ (.map []):=
   ⟨w.heap.size, #[],0,rfl,(aF0 w _).1,⟨rfl,fun i e m M=>uM,fun i j m n _ q=>TG⟩⟩
  obtain⟨O,U⟩:=q.push (.map #[] 0) ⟨.map (some w.heap.size),0⟩ _ (fun b u=>aHg) u;have z:=(Jk L).lit;simp only at z;refine⟨.map (some w.heap.size),_,ok,_,.inl ?_,U,Names.push _ _,O,.mp _ _ 0 rfl aA5⟩;have Y:(newObj (.map #[] 0)).run P w=.ok w.heap.size (w.alloc (.map #[] 0)):=rfl;simp[execOp,J,Instr.makeMap,Y,z,asInt,asIntOf,underlying,I]
def aBH {t Z vt:TypeId} {ek:K→Value} (ev:V→D) {J:V} {z:Value} {m:List (K×V)} {key:K} {ok:Nat→Prop} {w:World} {b:Nat} {ms:Array MapEntry} {clock:Nat} (ht:P.underlying t=some (.map Z vt)) (hk:KeyTy P Z ek) (hz:(P.info? vt).bind (·.zero)=some z) (L:XO z=ev J)
 (M:z.cells.all (·.oneCell')=true) (hb:w.heap[b]? =some (.map ms clock)) (hM:Ij ok w (m.map (BX ek ev)) ms clock) (c:Bool):
 ∃v,(Instr.lookup t (.map (some b)) (ek key) c).run P w=.ok (if c then .tuple #[v,.bool (CB m key).isSome]else v) w∧DF ok w (ev ((CB m key).getD J)) v:=by
 obtain⟨kd,q,hs⟩:=hk.same;have O:ms.toList.map (·.key)=m.map (fun p=>ek p.1):=by rw[hM.keys];simp[BX,cu]
 have u:=hk.check;obtain⟨i,hi,U⟩:=eP.1 hz;rcases aDy (i:=0) hs key J m ms.toList O with⟨Y,I,_⟩|⟨j,e,p,Y,I,h3,h4,_⟩
 ·refine⟨z,?_,?_⟩
  ·rw[I];simp[Instr.lookup,underlying,ht,OV hb,u,Instr.findKey,q,Y,zeroValue,typeInfo,hi,U]
  rw[I];have :=aeL (ok:=ok) (w:=w) M;rw[L]at this;exact this
 refine⟨e.val,?_,?_⟩
 ·rw[h4];simp[Instr.lookup,underlying,ht,OV hb,u,Instr.findKey,q,Y]
 rw[h4];have h5:(m.map (BX ek ev))[j]? =some (BX ek ev p):=by rw[Ia,h3];rfl
 exact(hM.ent j _ e h5 PK).2.1
def fO {t J L:TypeId} {x y:Operand} {k:Nat} {ek:K→Value} (ev:V→D) (M:V) {z:Value} {m:List (K×V)} {key:K} (Z:P.underlying t=some (.map J L)) (hk:KeyTy P J ek) (hz:(P.info? L).bind (·.zero)=some z) (q:XO z=ev M) (u:z.cells.all (·.oneCell')=true)
 (he:es[k]? =some (.map (m.map (BX ek ev)))) (ho:o.op=.lookup t x y false):BN P o [(x,.mp k),(y,.d (.lit (ek key)))] es (.d (ev ((CB m key).getD M))) es:=
 .pure fun ok H a w j hl O=>by
  obtain⟨hd,hh,I⟩:=FV j hl he;obtain⟨b,ms,clock,h1,h2,h3⟩:=I;have U:=Qw (EL O).1 hh;have Y:=(EL O).2.lit;simp only at U Y;obtain⟨v,hr,hv⟩:=aBH (key:=key) ev Z hk hz q u h2 h3 false;refine⟨v,?_,.d _ _ hv⟩;simp[execOp,ho,U,Y,h1,hr]
def aH7 {t J L:TypeId} {x y:Operand} {k:Nat} {ek:K→Value} (ev:V→D) (M:V) {z:Value} {m:List (K×V)} {key:K} (Z:P.underlying t=some (.map J L)) (hk:KeyTy P J ek) (hz:(P.info? L).bind (·.zero)=some z) (q:XO z=ev M) (u:z.cells.all (·.oneCell')=true)
 (he:es[k]? =some (.map (m.map (BX ek ev)))) (ho:o.op=.lookup t x y true):BN P o [(x,.mp k),(y,.d (.lit (ek key)))] es (.eF [.d (ev ((CB m key).getD M)),.d (DX (CB m key).isSome)]) es:=
 .pure fun ok H a w j hl O=>by
  obtain⟨hd,hh,I⟩:=FV j hl he;obtain⟨b,ms,clock,h1,h2,h3⟩:=I;have U:=Qw (EL O).1 hh;have Y:=(EL O).2.lit;simp only at U Y;obtain⟨v,hr,hv⟩:=aBH (key:=key) ev Z hk hz q u h2 h3 true;refine⟨.tuple #[v,.bool (CB m key).isSome],?_,.eF _ _ rfl fun i hi=>?_⟩
  ·simp[execOp,ho,U,Y,h1,hr]
  match i,hi with
  |0,_=>exact .d _ _ hv
  |1,_=>exact .d _ _ (.lit _)
def oV {C:Dw} {ok:Nat→Prop} {H:List BJ} {w:World} (I:CS C ok H es w) {k:Nat} {es0 q:List (Value×D)} {b clock j:Nat} {ms m:Array MapEntry} {hd:BJ} (J:es[k]? =some (.map es0)) (L:H[k]? =some hd) (u:hd.v=.map (some b)) (z:w.heap[b]? =some (.map ms clock))
 (M:Ij ok w q m j):(setObj b (.map m j)).run P w=.ok () (w.putObj b (.map m j))∧CS C ok H (es.set k (.map q)) (w.putObj b (.map m j))∧Dz ok w ok (w.putObj b (.map m j)):=by
 refine⟨by simp[setObj,Sem.run,z,World.putObj],I.ahM J rfl L oP fun O=>⟨b,m,j,u,V8 (FX.1 z).1,M.mono O⟩⟩
def rM {t kt vt:TypeId} {x y u:Operand} {k:Nat} {ek:K→Value} (ev:V→D) {m:List (K×V)} {key:K} {val:V} (ht:P.underlying t=some (.map kt vt)) (J:KeyTy P kt ek) (Y:es[k]? =some (.map (m.map (BX ek ev)))) (ho:o.op=.mapUpdate t x y u):
 BN P o [(x,.mp k),(y,.d (.lit (ek key))),(u,.d (ev val))] es .junk (es.set k (.map ((Dj m key val).map (BX ek ev)))):=
 .eff fun C ok H a w L Z=>by
  obtain⟨hd,hh,hok⟩:=FV L.ent L.hlen Y;obtain⟨b,ms,clock,M,O,U⟩:=hok;have hx:=Qw (Z (x,.mp k) Am) hh;have hy:=(Z (y,.d (.lit (ek key))) Am).lit;have hu:DF ok w (ev val) (a.eval u):=by have :=Z (u,.d (ev val)) Am;cases this with |d _ _ h=>exact h
  simp only at hx hy;obtain⟨kd,q,hs⟩:=J.same;have hks:ms.toList.map (·.key)=m.map (fun p=>ek p.1):=by rw[U.keys];simp[BX,cu]
  have z:=J.check;rcases aDy (i:=0) hs key val m ms.toList hks with⟨q1,_,q3⟩|⟨j,e,p,q1,q2,q3,_,q5,q6⟩
  ·have hM:=U.push (k:=ek key) hu;obtain⟨r1,r2,r3⟩:=oV (P:=P) L Y hh M O hM;refine⟨undef,_,ok,H,.inr ⟨rfl,?_⟩,r3,.refl _,?_,.junk _⟩
   ·simp[execOp,ho,hx,hy,M,Instr.mapUpdate,underlying,ht,OV O,z,Instr.findKey,q,q1,r1]
   rw[q3,Ip];exact r2
  have hM:=U.modify (k:=ek key) hu j;obtain⟨r1,r2,r3⟩:=oV (P:=P) L Y hh M O hM
  have I:e.key=ek key:=by
   have h5:(m.map (BX ek ev))[j]? =some (BX ek ev p):=by rw[Ia,q3];rfl
   rw[(U.ent j _ e h5 fM).1,J.eq _ _ q5];rfl
  have hst:∀w,(Instr.keyThatStays (ek key) (ek key)).run P w=.ok (ek key) w:=fun w=>by simp[Instr.keyThatStays,J.bits]
  have hms:ms[j]? =some e:=fM
  refine⟨undef,_,ok,H,.inr ⟨rfl,?_⟩,r3,.refl _,?_,.junk _⟩
  ·simp[execOp,ho,hx,hy,M,Instr.mapUpdate,underlying,ht,OV O,z,Instr.findKey,q,q1,hms,I,hst,r1]
  rw[q6,aCj];exact r2
def aoc {t O U:TypeId} {x:Operand} {k:Nat} {es0:List (Value×D)} (Y:P.underlying t=some (.map O U)) (u:es[k]? =some (.map es0)) (Z:o.op=.call { callee:=.builtin .clear,args:= #[x],argTypes:= #[t] }):
 BN P o [(x,.mp k)] es .junk (es.set k (.map [])):=
 .eff fun C ok H a w q hn=>by
  obtain⟨hd,I,z⟩:=FV q.ent q.hlen u;obtain⟨b,ms,clock,J,L,h3⟩:=z;have M:=Qw (hn (x,.mp k) Am) I;simp only at M;have hM:Ij ok w [] #[] clock:=⟨rfl,fun i e m u=>by simp at u,fun i j m n _ q=>TG⟩
  obtain⟨r1,r2,r3⟩:=oV (P:=P) q u I J L hM;refine⟨.tuple #[],_,ok,H,.inl ?_,r3,.refl _,r2,.junk _⟩;simp[execOp,Z,resolve,invoke,builtin,Builtin.clear_,M,J,underlying,Y,OV L,r1]
def aNX {t u z:TypeId} {x:Operand} {k:Nat} {es0:List (Value×D)} {n:Nat} (hl:es0.length=n) (I:P.underlying t=some (.map u z)) (J:es[k]? =some (.map es0)) (L:o.op=.call { callee:=.builtin .len,args:= #[x],argTypes:= #[t] }):
 BN P o [(x,.mp k)] es (.d (Ac n)) es:=
 .pure fun ok H a w j hlen M=>by
  obtain⟨hd,O,m⟩:=FV j hlen J;obtain⟨b,ms,clock,U,Y,Z⟩:=m;have q:=Qw (M (x,.mp k) Am) O;simp only at q;refine⟨goInt es0.length,?_,by rw[hl];exact .d _ _ (.lit _)⟩;simp[execOp,L,resolve,invoke,builtin,Builtin.len_,q,U,underlying,I,OV Y,Z.len]
end
def aCa {ok:Nat→Prop} {w:World} {H:List BJ} {xs ys:List AV} {vs us:List Value} (h:FQ ok w H xs vs) (k:FQ ok w H ys us):FQ ok w H (xs++ys) (vs++us):=by
 refine⟨by rw[Dk,Dk,h.1,k.1],fun i hi=>?_⟩;by_cases j:i<xs.length
 ·have m:(xs++ys).getD i .junk=xs.getD i .junk:=by simp[List.getD,Fv j]
  have q:(vs++us).getD i undef=vs.getD i undef:=by simp[List.getD,Fv (by rw[h.1];exact j:i<vs.length)]
  rw[m,q];exact h.2 i j
 have u:i-xs.length<ys.length:=aHW
 have m:(xs++ys).getD i .junk=ys.getD (i-xs.length) .junk:=by simp[List.getD,J3 (TN j)]
 have q:(vs++us).getD i undef=us.getD (i-xs.length) undef:=by simp[List.getD,J3 (by rw[h.1];omega:vs.length≤i),h.1]
 rw[m,q];exact k.2 _ u
def CS.aBX {C:Dw} {ok:Nat→Prop} {H:List BJ} {es:List Aq} {w w':World} (j:CS C ok H es w) {v':Value} {size:Nat} {e:Aq} (z:w.grownBy w' none) (I:∀g,Cb v'=some g→w.heap.size≤g∧g<w'.heap.size)
 (he:Dz ok w ok w'→EY ok w' (H++[⟨v',size⟩]) ⟨v',size⟩ e):CS C ok (H++[⟨v',size⟩]) (es++[e]) w'∧Dz ok w ok w':=by
 have g0:Dz ok w ok w':=fun b I=>⟨I,z.block b (j.jM b I) Am⟩
 refine j.change (fun _=>False) z.os z.tape z.output z.size (fun b I _=>z.block b I Am) (fun _ h=>h.elim) (fun _ h=>h) (fun _ h=>.inl h) (Names.push _ _) (by simp[j.hlen]) ?_;intro k e' h' M q;rcases V4 M with L|⟨L,h2⟩
 ·left;refine⟨L,?_,fun _ _ _ h=>h⟩;have O:k<H.length:=by rw[j.hlen];exact(FB.1 L).1
  rwa [Fv O]at q
 subst h2;have O:k=H.length:=by rw[j.hlen];exact L
 subst O;simp at q;subst q;refine .inr ⟨he g0,fun _ b U=>?_⟩;obtain⟨q1,q2⟩:=I b U;refine⟨fun u=>absurd (j.jM _ u) A8,q2,.inl (EZ j.fr.size q1),fun k' Y Z hne hk' hl m J=>?_⟩;rcases V4 hk' with u|⟨u,_⟩
 ·have hk2:k'<H.length:=by rw[j.hlen];exact(FB.1 u).1
  rw[Fv hk2]at m;exact absurd (j.blk k' Y Z _ u hl m J).2.1 A8
 rw[←j.hlen]at u;exact hne u
section
variable {P : Program} {o : Oper} {es es' : List Aq}
def BN.thaw {ns:List (Operand×AV)} {k e s:Nat} {xs:List D} (h:BN P o ns es (.aY k) es') (I:es'[k]? =some (.arr e s xs)):BN P o ns es (.d (.sl xs)) (es'.set k .dead):=by
 intro C ok H a w Q J L;refine Oper.wp_mono ?_ (h C ok H a w Q J L);rintro a' w' ⟨v,ok',H',rfl,M,m,j,O⟩
 have q:Holds (Dw.now w' ok' es' H') ok' H' ⟨[.aY k],es',H'.length⟩ { tmps:= #[v],defers:=[] } w':=⟨j.inner,rfl,.nil _ _ _,rfl,fun t U=>by
  match t,U with
  |0,_=>exact O⟩
 obtain⟨u,z⟩:=Qp k I _ _ _ _ _ q;obtain⟨Y,_,Z⟩:=j.outer z.mem;refine⟨v,u,H',rfl,M.trans Y,m,Z,?_⟩;have :=z.slot 0 (by simp[Aj.thaw]);simpa[Aj.thaw,AV.thaw]using this
def DF.aBY {ok:Nat→Prop} {w:World} {xs:List D} {ad:Option Addr} {n cap j:Nat} (h:DF ok w (.sl xs) (.slice ad n cap)) (z:xs.length≤j):DF ok w (.sl xs) (.slice ad n j):=by
 cases h with
 |sl0 _ _=>exact .sl0 _ _
 |sl _ b off _ size u q hs I J m=>exact .sl xs b off j size z q hs I J m
def aRn {t e:TypeId} {agg:Bool} {size n cap m:Nat} {ad:Option Addr} {w:World} (q:P.underlying t=some (.slice e)) (u:Dl P e agg size) (j:m≤cap):
 (Instr.slice t (.slice ad n cap) none (some (.int .i64 m)) (some (.int .i64 m))).run P w=.ok (.slice (if m=0 then ad else ad.map (·.add 0)) m m) w:=by
 have z:(underlying t).run P w=.ok (.slice e) w:=by simp[underlying,q]
 have I:((m:Int)≤(cap:Int)):=Int.ofNat_le.2 j;simp[Instr.slice,z,Instr.sliceBounds,Instr.sliceBound,asIntOf,I,j,u.size]
def ae2 {α:Type} {t e:TypeId} {agg:Bool} {size:Nat} {x y z:Operand} {h:Int} (enc:α→D) {xs r:List α} (hr:Gh xs 0 h=some r) (ht:P.underlying t=some (.slice e)) (hT:Dl P e agg size) (hc:∀a,(enc a).cells.length=size)
 (ho:o.op=.slice t x none (some y) (some z)):BN P o [(x,.d (BG enc xs)),(y,.d (Ac h)),(z,.d (Ac h))] es (.clip (r.map enc)) es:=
 .pure fun ok H a w _ _ O=>by
  obtain⟨⟨_,h1,h2⟩,rfl⟩:=aaC hr;have U:=O (x,.d (BG enc xs)) Am;have M:=(O (y,.d (Ac h)) Am).lit;have hz:=(O (z,.d (Ac h)) Am).lit;simp only at U M hz;generalize hv:a.eval x=v at U;have I:DF ok w (.sl (xs.map enc)) v:=by cases U with |d _ _ h=>exact h
  have J:∃ad cap,v=.slice ad (xs.map enc).length cap∧(xs.map enc).length≤cap:=by
   generalize hys:xs.map enc=ys at I;cases I with
   |sl0 ad cap=>exact⟨ad,cap,rfl,EK _⟩
   |sl _ b off cap size j=>exact⟨_,cap,rfl,j⟩
  obtain⟨ad,cap,rfl,j⟩:=J
  have hlen:(List.map enc ((xs.drop 0).take (h.toNat-0))).length=h.toNat:=by
   rw[C9,FI,jL];omega
  have u:=aRn (P:=P) (n:=xs.length) (ad:=ad) (w:=w) ht hT (m:=h.toNat) (cap:=cap) (by rw[C9]at j;omega);have Y:((h.toNat:Nat):Int)=h:=A8
  rw[Y]at u;refine⟨.slice (if h.toNat=0 then ad else ad.map (·.add 0)) h.toNat h.toNat,?_,?_⟩
  ·rw[C9]at hv;simp only[execOp,ho,Option.map_none,Ho,hv,M,hz,Instr.sliceAt];have hu:(underlying t).run P w=.ok (.slice e) w:=aEE
   simp only[Ep,lI,Fa,hu,u,F5]
  have hD:DF ok w (.sl (List.map enc ((xs.drop 0).take (h.toNat-0)))) (.slice (if h.toNat=0 then ad else ad.map (·.add 0)) (List.map enc ((xs.drop 0).take (h.toNat-0))).length (List.map enc ((xs.drop 0).take (h.toNat-0))).length):=by
   by_cases L:h.toNat=0
   ·have e0:List.map enc ((xs.drop 0).take (h.toNat-0))=[]:=GN (by rw[hlen,L]);rw[e0];exact .sl0 _ _
   have q:=aRM (l:=0) (h:=h.toNat) I (size:=size) (fun y M=>by obtain⟨b,_,rfl⟩:=FH.1 M;exact hc b) (EK _) DK;have Z:cap≠0:=by rw[C9]at j;omega
   rw[CU Z]at q;rw[CU L,hlen];rw[←Yv,←XY]at q;simp only[Nat.zero_mul,Nat.sub_zero]at q ⊢;exact q.aBY (by rw[C9,FI,jL];omega)
  have :=R.clip (H:=H) _ _ hD;rw[hlen]at this;exact this
def aQW {t e e':TypeId} {agg:Bool} {size k s:Nat} {x y z:Operand} {xs:List D} {h:Int} (hh:h=(xs.length:Int)) (hk:es[k]? =some (.arr e' s xs)) (U:P.underlying t=some (.slice e)) (hT:Dl P e agg size)
 (ho:o.op=.slice t x none (some y) (some z)):BN P o [(x,.aY k),(y,.d (Ac h)),(z,.d (Ac h))] es (.vT k) es:=
 .pure fun ok H a w u hl L=>by
  obtain⟨hd,I,M⟩:=FV u hl hk;have O:=OE (L (x,.aY k) Am) I;have Y:=(L (y,.d (Ac h)) Am).lit;have Z:=(L (z,.d (Ac h)) Am).lit;simp only at O Y Z;obtain⟨_,_,CQ,⟨_,j⟩,_⟩:=M;obtain⟨v,BU⟩:=hd;simp only at j O;subst hh
  have key:∃ad cap,v=.slice ad xs.length cap∧xs.length≤cap∧ad.map (·.add 0)=ad:=by
   rcases j with⟨rfl,J⟩|⟨g,cap,_,rfl,_,_,J,_⟩
   ·exact⟨none,0,by rw[J],A8,rfl⟩
   exact⟨_,cap,rfl,J,by simp[Addr.add]⟩
  obtain⟨ad,cap,rfl,J,h2⟩:=key;have q:=aRn (P:=P) (n:=xs.length) (ad:=ad) (w:=w) U hT (m:=xs.length) (cap:=cap) J;have hi:(if xs.length=0 then ad else ad.map (·.add 0))=ad:=by split<;>simp[h2]
  rw[hi]at q;refine⟨.slice ad xs.length xs.length,?_,.vT k ad _ cap BU I⟩;simp only[execOp,ho,Option.map_none,Ho,O,Y,Z,Instr.sliceAt];have hu:(underlying t).run P w=.ok (.slice e) w:=by simp[underlying,U]
  simp only[Ep,lI,Fa,hu,q,F5]
def amO {C:Dw} {ok:Nat→Prop} {H:List BJ} {w:World} (hm:CS C ok H es w) {t ty e:TypeId} {size m k:Nat} {xs ys:List D} (hE:Fh P t e size m) (hk:es[k]? =some (.arr e size xs))
 {v x:Value} (hv:R ok w H (.vT k) v) {q:List Value} (J:Ue w x ys.length size q) (z:FQ ok w H (flat ys) q) (hys:∀y∈ys,y.cells.length=size) (hb:(xs.length+ys.length)*m≤140737488355328) (hn:xs.length+ys.length≤maxLen):
 ∃v' w' H',(Builtin.append_ #[t,t] ty #[v,x]).run P w=.ok v' w'∧Dz ok w ok w'∧Names H H'∧CS C ok H' (es.set k .dead++[.arr e size (xs++ys)]) w'∧R ok w' H' (.aY es.length) v':=by
 obtain⟨h,hh,hok⟩:=FV hm.ent hm.hlen hk;obtain⟨h1,h2,CQ,j,hrs⟩:=hok
 have key:lQ w e size v xs.length CQ∧Cb v=Cb h.v:=by
  cases hv with
  |vT _ ad n cap s L=>
   rw[hh]at L;obtain rfl:=CG L;rcases j.2 with⟨M,q2⟩|⟨g,cap',cur,M,q2,q3,q4,q5,q6,q7⟩
   ·simp only[eI]at M;obtain⟨rfl,rfl,rfl⟩:=M;exact⟨⟨j.1,.inl ⟨rfl,q2⟩⟩,rfl⟩
   simp only[eI]at M;obtain⟨rfl,rfl,rfl⟩:=M;exact⟨⟨j.1,.inr ⟨g,xs.length,cur,rfl,q2,q3,Dc _,EZ q4 q5,EZ (JB _ q4) q6,q7⟩⟩,rfl⟩
 obtain⟨u,O⟩:=key;obtain⟨v',w',hr,I,U,Y⟩:=aLX (P:=P) (ty:=ty) hE u J hb hn
 obtain⟨h3,h4⟩:=hm.turn (h':=⟨v',size⟩) (e:=.arr e size (xs++ys)) hk rfl hh U.os U.tape U.output U.size (fun c hc hne=>U.block c hc (by rw[aH4 u,O];exact fun e=>hne e.symm)) (fun g Z=>⟨jH I Z,(Y g Z).imp (fun h=>O▸h) id⟩) (fun hgr=>by
  refine⟨rfl,fun y hy=>?_,CQ++q,PK,?_⟩
  ·rcases Fz.1 hy with h|h
   ·exact h2 y h
   exact hys y h
  have a1:=hrs.mono hgr (Names.push H [⟨v',size⟩]);have a2:=z.mono hgr (Names.push H [⟨v',size⟩]);rw[bD]
  exact aCa a1 a2)
 refine⟨v',w',_,hr,h4,Names.push _ _,h3,?_⟩;have L:(H++[(⟨v',size⟩:BJ)])[es.length]? =some ⟨v',size⟩:=aGz
 rcases I.2 with⟨rfl,_⟩|⟨g',c',_,rfl,_⟩
 ·exact .aY _ _ _ _ size L
 exact .aY _ _ _ _ size L
def aad {α:Type} {s x:Operand} {t e:TypeId} {size j k:Nat} (enc:α→D) {l m r:List α} (h:Bq j l m=some r) (hE:Fh P t e size j) (Z:es[k]? =some (.arr e size (l.map enc))) (hc:∀a,(enc a).cells.length=size) (hb:0<j)
 (ho:o.op=.call { callee:=.builtin .append,args:= #[s,x],argTypes:= #[t,t] }):
 BN P o [(s,.vT k),(x,.d (BG enc m))] es (.aY es.length) (es.set k .dead++[.arr e size (r.map enc)]):=by
 obtain⟨rfl,L⟩:=aAV h;refine .eff fun C ok H a w hm q=>?_;have M:=(EL q).1;have O:=(EL q).2;simp only at M O;have I:DF ok w (.sl (m.map enc)) (a.eval x):=by cases O with |d _ _ h=>exact h
 have u:∀y∈m.map enc,y.cells.length=size:=fun y hy=>aFY
 obtain⟨U,z,J⟩:=dK H I u;obtain⟨v',w',H',hr,r1,r2,Y,r4⟩:=amO (ty:=o.type) hm hE Z M z J u sI (by simpa using aKz hb L);rw[←Ip]at Y;refine⟨v',w',ok,H',.inl ?_,r1,r2,Y,r4⟩;simp[execOp,ho,resolve,invoke,builtin,hr]
def alo {ok:Nat→Prop} {w:World} {H:List BJ} {t ty e:TypeId} {size m:Nat} (hE:Fh P t e size m) {xs ys:List D} {v x:Value} (hv:R ok w H (.clip xs) v) (Z:∀y∈xs,y.cells.length=size) {q:List Value} (u:Ue w x ys.length size q) (hpos:0<ys.length)
 (hb:(xs.length+ys.length)*m≤140737488355328) (hn:xs.length+ys.length≤maxLen):
 ∃j v' w',FQ ok w H (flat xs) j∧(Builtin.append_ #[t,t] ty #[v,x]).run P w=.ok v' w'∧w'.ownsRow w.heap.size e size v' (xs.length+ys.length) (j++q)∧w.grownBy w' none:=by
 obtain⟨i,z,hi,hz,hs,J,L⟩:=hE.info;cases hv with
 |clip _ ad hD=>
  obtain⟨j,ho,M⟩:=dK H hD Z;rcases u.at_ with⟨O,c,rfl,I⟩|⟨c,rfl,h0⟩
  ·rcases ho.at_ with⟨ad2,c2,U,Y⟩|⟨c2,U,Y⟩
   ·simp only[eI]at U;obtain⟨rfl,_,rfl⟩:=U;obtain⟨v',w',r1,r2,r3⟩:=run_append_arg_grows (P:=P) w t ty e i z size m hE.und hi hz hs J L hE.pos ad2 xs.length xs.length j ho.len Y O ys.length c q u.len I A8 hn hb;exact⟨j,v',w',M,r1,r2,r3⟩
   simp only[eI]at U;obtain⟨rfl,_,_⟩:=U;have hx:j=[]:=GN (by rw[ho.len,Y];simp);subst hx;rw[Y]at hn hb ⊢;obtain⟨v',w',r1,r2,r3,_⟩:=run_append_own (P:=P) w w.heap.size t ty e i z size m hE.und hi hz hs J L hE.pos _ 0 [] (yB w w.heap.size e size) O ys.length c q u.len I u.one hn hb (Dc _);exact⟨[],v',w',M,r1,r2,r3⟩
  omega
def amE {ok:Nat→Prop} {w':World} {H:List BJ} {base e size:Nat} {v':Value} {xs ys:List D} {j m:List Value} (h:w'.ownsRow base e size v' (xs.length+ys.length) (j++m)) (z:FQ ok w' H (flat xs) j) (I:FQ ok w' H (flat ys) m) (q:∀y∈xs,y.cells.length=size) (u:∀y∈ys,y.cells.length=size):
 EY ok w' H ⟨v',size⟩ (.arr e size (xs++ys)):=by
 refine⟨rfl,fun y J=>?_,j++m,?_,?_⟩
 ·rcases Fz.1 J with h|h
  ·exact q y h
  exact u y h
 ·have :=lQ.of h;simpa using this
 rw[bD];exact aCa z I
def aq9 {w':World} {base e size n:Nat} {v':Value} {CQ:List Value} (h:w'.ownsRow base e size v' n CQ):∀g,Cb v'=some g→base≤g∧g<w'.heap.size:=by
 intro g j;rcases h.2 with⟨rfl,_⟩|⟨u,_,_,rfl,m,q,_⟩
 ·simp[Cb]at j
 simp[Cb]at j;subst j;exact⟨m,(FX.1 q).1⟩
def adM {α:Type} {s x:Operand} {t e:TypeId} {size j:Nat} (enc:α→D) {l m r:List α} (h:Bq j l m=some r) (hE:Fh P t e size j) (hc:∀a,(enc a).cells.length=size) (J:0<j)
 (L:o.op=.call { callee:=.builtin .append,args:= #[s,x],argTypes:= #[t,t] }):
 BN P o [(s,.clip (l.map enc)),(x,.d (BG enc m))] es (.d (BG enc r)) es:=by
 obtain⟨rfl,h2⟩:=aAV h;refine .eff fun C ok H a w hm M=>?_;have h1:=(EL M).1;have h3:=(EL M).2;simp only at h1 h3;have h3':DF ok w (.sl (m.map enc)) (a.eval x):=by cases h3 with |d _ _ h=>exact h
 have O:∀y∈l.map enc,y.cells.length=size:=fun y hy=>aFY
 have U:∀y∈m.map enc,y.cells.length=size:=fun y hy=>aFY
 obtain⟨Y,q,hrs⟩:=dK H h3' U;by_cases Z:m=[]
 ·subst Z;obtain⟨i,z,hi,hz,hs,hby,hzs⟩:=hE.info;have I:Y=[]:=GN (by rw[q.len];simp);subst I;generalize hv:a.eval s=v at h1;generalize hu:a.eval x=u at q;cases h1 with
  |clip _ ad hD=>
   refine⟨_,w,ok,H,.inl ?_,.refl _ _,.refl _,hm,.d _ _ (by rw[PG];exact hD)⟩;have hL:∀w:World,((underlying t).run P w=.ok (.slice e) w):=fun w=>aHZ
   rcases q.at_ with⟨ad',c,rfl,_⟩|⟨c,rfl,_⟩
   ·cases ad with
    |none=>simp[execOp,L,resolve,invoke,builtin,hv,hu,Builtin.append_,hL,sizeOf,typeInfo,hi,Builtin.lenOf,Builtin.firstCells,loadCells,loadCellsFrom]
    |some ad=>simp[execOp,L,resolve,invoke,builtin,hv,hu,Builtin.append_,hL,sizeOf,typeInfo,hi,Builtin.lenOf,Builtin.firstCells,loadCells,loadCellsFrom,storeCells]
   cases ad with
   |none=>simp[execOp,L,resolve,invoke,builtin,hv,hu,Builtin.append_,hL,sizeOf,typeInfo,hi,Builtin.lenOf,Builtin.firstCells]
   |some ad=>simp[execOp,L,resolve,invoke,builtin,hv,hu,Builtin.append_,hL,sizeOf,typeInfo,hi,Builtin.lenOf,Builtin.firstCells,storeCells]
 obtain⟨olds,v',w',r0,r1,r2,r3⟩:=alo (P:=P) (ty:=o.type) hE h1 O q (by simpa using tX.2 Z) jq (by simpa using aKz J h2);have hblk:=aq9 r2;obtain⟨m1,g1⟩:=hm.change (ok':=fun b=>ok b∨Cb v'=some b) (H':=H) (es':=es) (w':=w') (fun _=>False) r3.os r3.tape r3.output r3.size (fun b J _=>r3.block b J Am) (fun _ h=>h.elim) (fun _ h=>.inl h) (fun b h=>h.imp id fun h=>hblk b h) (.refl _) hm.hlen (fun k e h he hh=>.inl ⟨he,hh,fun _ _ _ h=>h⟩);have g0:Dz ok w ok w':=fun b J=>⟨J,(g1 b J).2⟩
 have hE':=amE r2 (r0.mono g0 (.refl _)) (hrs.mono g0 (.refl _)) O U;refine⟨v',w',_,H,.inl (by simp[execOp,L,resolve,invoke,builtin,r1]),g1,.refl _,m1,.d _ _ ?_⟩;have :=gq hE' (ok':=fun b=>ok b∨Cb v'=some b) (fun _ h=>.inl h) (fun _ h=>.inr h)
 rwa [←Ip]at this
end
def D.plain:D→Bool
 | .lit _=>true
 | .agg cs=>cs.all fun c=>match c with | .lit _=>true|_=>false
 |_=>false
def asN {ok ok':Nat→Prop} {w w':World} {H H':List BJ} {xs:List D} {vs:List Value} (J:∀x∈xs,x.plain=true) (h:FQ ok w H (flat xs) vs):FQ ok' w' H' (flat xs) vs:=by
 refine⟨h.1,fun i hi=>⟨(h.2 i hi).1,?_⟩⟩;have I:=(h.2 i hi).2;have q:(flat xs).getD i .junk∈flat xs:=LX
 generalize(flat xs).getD i .junk=y at I q;unfold flat at q;simp only[RX,FH]at q;obtain⟨x,L,c,z,rfl⟩:=q;have j:=J x L
 have m:∃u,c=.lit u:=by
  cases x with
  |lit u=>simp[D.cells]at z;exact⟨u,z⟩
  |agg cs=>
   simp only[D.cells]at z;simp only[D.plain,E5]at j;have :=j c z;cases c with
   |lit u=>exact⟨u,rfl⟩
   |_=>simp at this
  |_=>cases j
 obtain⟨u,rfl⟩:=m;rw[I.lit];exact .d _ _ (.lit u)
def aRZ {P:Program} {o:Oper} {es:List Aq} {f:FuncId} {ops:Array Operand} {dX fV:List AV} {e s:Nat} {xs:List D} (hr:Ap P f fV [] (.aY 0) [.arr e s xs]) (hp:∀x∈xs,x.plain=true) (ha:Yg es dX fV) (hl:ops.toList.length=dX.length)
 {C:Dw} {ok:Nat→Prop} {H:List BJ} {a:Act} {w:World} (L:CS C ok H es w) (hn:∀n∈Em ops.toList dX,R ok w H n.2 (a.eval n.1)):
 Calls P f (ops.toList.map a.eval).toArray w fun e' w'=>∃v,e'=.returned v∧w.grownBy w' none∧(∀g,Cb v=some g→w.heap.size≤g∧g<w'.heap.size)∧Value.isSlice v=true∧∀M H2,EY M w' H2 ⟨v,s⟩ (.arr e s xs):=by
 let z:Nat→Prop:=fun b=>b<w.heap.size
 have Z:CS ⟨w,z,[],[]⟩ z [] [] w:=
  ⟨.refl _ _,fun _ h=>h,fun _ h=>.inl h,fun _ h=>h,.refl _,rfl,fun k e h O _=>by simp at O,fun k e h b O=>by simp at O,fun k k' e e' h h' b O=>by simp at O⟩
 refine(hr z [] [] w _ Z (by simp[hl,aFp ha]) (fun i hi=>?_)).mono ?_
 ·obtain⟨op,x,ho',U,m⟩:=aP5 hl ha i hi;have J:=hn _ U
  have e1:(ops.toList.map a.eval).toArray.getD i undef=a.eval op:=by
   obtain⟨h1,h2⟩:=FB.1 ho';have h3:i<ops.size:=by simpa using h1
   have h4:ops[i]=op:=jq
   simp[Array.getD,h3,h4]
  rw[e1];simp only at J;generalize fV.getD i .junk=y at m;generalize a.eval op=u at J;cases x with
  |d x=>
   obtain rfl:=m;cases J with |d _ _ h=>exact .d _ _ (h.mono (fun b q=>⟨L.jM b q,rfl⟩))
  |aY k=>
   obtain⟨e',s,xs,hk,rfl⟩:=m;obtain⟨h,hh,I⟩:=FV L.ent L.hlen hk;obtain rfl:=OE J hh;exact .d _ _ (gq I (fun b q=>L.jM b q) (fun b q=>(L.blk k _ h b hk rfl hh q).2.1))
  |_=>exact m.elim
 rintro e' w' ⟨v,ok',H',rfl,j,J⟩;have hg:w.grownBy w' none:=⟨j.fr.os,j.fr.tape,j.fr.output,j.fr.size,fun b q _=>j.fr.block b q Am⟩
 have hl':H'.length=1:=j.hlen
 match H',hl' with
 | [hd],_=>
   obtain rfl:=OE J (h:=hd) rfl;have I:=j.ent 0 _ hd rfl rfl;have q:=fun b q=>j.blk 0 _ hd b rfl rfl rfl q;obtain⟨q1,q2,CQ,q3,q4⟩:=I;obtain⟨v,BU⟩:=hd;simp only at q1 q q3;subst q1;refine⟨v,rfl,hg,fun g hg'=>?_,?_,fun M H2=>⟨rfl,q2,CQ,q3,asN hp q4⟩⟩
   ·obtain⟨_,r2,Y⟩:=q g hg';rcases Y with Y|Y
    ·exact⟨Y,r2⟩
    simp at Y
   rcases q3.2 with⟨rfl,_⟩|⟨g',c',_,rfl,_⟩<;>rfl
def UL {P:Program} {o:Oper} {es:List Aq} {f:FuncId} {ops:Array Operand} {ats:Array TypeId} {dX fV:List AV} {e s:Nat} {xs:List D} (q:Ap P f fV [] (.aY 0) [.arr e s xs]) (u:∀x∈xs,x.plain=true) (z:DV P f=true) (ha:Yg es dX fV) (hl:ops.toList.length=dX.length)
 (I:o.op=.call { callee:=.value (.func f),args:=ops,argTypes:=ats }):BN P o (Em ops.toList dX) es (.aY es.length) (es++[.arr e s xs]):=by
 intro C ok H a w Q j J;unfold Oper.wp;rw[mV I,RI z,ZE];have L:ops.map a.eval=(ops.toList.map a.eval).toArray:=yx
 rw[L];refine(aRZ (o:=o) q u ha hl j J).mono ?_;rintro e' w' ⟨v,rfl,M,O,m,hE⟩;obtain⟨U,Y⟩:=j.aBX (v':=v) (size:=s) (e:=.arr e s xs) M O (fun _=>hE _ _);refine⟨v,ok,_,rfl,Y,Names.push _ _,U,?_⟩;have Z:(H++[(⟨v,s⟩:BJ)])[es.length]? =some ⟨v,s⟩:=by rw[←j.hlen];simp
 cases v with
 |slice ad n c=>exact .aY _ _ _ _ s Z
 |_=>cases m
def adV {P:Program} {o:Oper} {es:List Aq} {f:FuncId} {ops:Array Operand} {ats:Array TypeId} {dX fV:List AV} {e s:Nat} {xs:List D} (u:Ap P f fV [] (.aY 0) [.arr e s xs]) (z:∀x∈xs,x.plain=true) (I:DV P f=true) (ha:Yg es dX fV) (hl:ops.toList.length=dX.length)
 (J:o.op=.call { callee:=.value (.func f),args:=ops,argTypes:=ats }):BN P o (Em ops.toList dX) es (.d (.sl xs)) es:=by
 intro C ok H a w Q m L;unfold Oper.wp;rw[mV J,RI I,ZE];have M:ops.map a.eval=(ops.toList.map a.eval).toArray:=yx
 rw[M];refine(aRZ (o:=o) u z ha hl m L).mono ?_;rintro e' w' ⟨v,rfl,j,O,U,hE⟩;obtain⟨Y,Z⟩:=m.change (ok':=fun b=>ok b∨Cb v=some b) (H':=H) (es':=es) (w':=w') (fun _=>False) j.os j.tape j.output j.size (fun b q _=>j.block b q Am) (fun _ h=>h.elim) (fun _ h=>.inl h) (fun b h=>h.imp id fun h=>O b h) (.refl _) m.hlen (fun k e h he hh=>.inl ⟨he,hh,fun _ _ _ h=>h⟩);exact⟨v,_,H,rfl,Z,.refl _,Y,.d _ _ (gq (hE ok H) (fun _ h=>.inl h) (fun _ h=>.inr h))⟩
def aub {F:Fence} {n:Nat} {P:Program} {Q:Exit→Act→World→Prop} {a:Act} {w:World} {c:Code} (h:c.wpIn F n P (Exit.noGoto Q) a w):(Code.scope c).wpIn F n P Q a w:=by
 intro b k cs I J L;have j:(lone (b.atR a (.code (.scope c)::k)) cs w).fenced P F:=fenced_calm J L rfl;have m:step P (lone (b.atR a (.code (.scope c)::k)) cs w)=.next (lone (b.atR a (.code c::.inScope c::k)) cs w):=step_lone_go aci;obtain⟨e,u,z,q,harr⟩:=h b (.inScope c::k) cs I J L;cases e with
 |normal=>exact⟨.normal,u,z,q,.head j m (StepsIn.trans harr (.one (fenced_calm J L rfl) (step_lone_go aci)))⟩
 |exit id=>
  have U:exitTo id (.inScope c::k)=exitTo id k:=by simp[exitTo]
  exact⟨.exit id,u,z,q,fun k' M=>.head j m (harr.1 k' (by rw[U];exact M)),fun O M=>let⟨Y,Z,h2⟩:=harr.2 O (by rw[U];exact M);⟨Y,Z,.head j m h2⟩⟩
 |goto l=>exact q.elim
 |ret=>exact⟨_,u,z,q,.of_steps (.one j m) harr⟩
 |panic ch=>exact⟨_,u,z,q,.of_steps (.one j m) harr⟩
 |outgrown=>exact⟨_,u,z,q,.of_steps (.one j m) harr⟩
def ak4 (Q:Exit→Aj→Prop):Exit→Aj→Prop
 | .goto _,_=>False
 |e,σ=>Q e σ
def AP.scope {P:Program} {σ:Aj} {Q:Exit→Aj→Prop} {c:Code} (h:AP P c σ (ak4 Q)):AP P (.scope c) σ Q:=⟨fun ro m C ok H a w q=>
 aub (TF (h.run ro (m.imp id fun h=>h) C ok H a w q) (by
  rintro e a' w' ⟨ok',H',σ',u,j⟩;cases e with
  |goto l=>exact j.elim
  |_=>exact⟨ok',H',σ',u,j⟩))⟩
def aRU (P:Program) (f:FuncId) (args:List AV) (u:Value):Prop:=
 ∀(ok:Nat→Prop) (X:List Nat) (H:List BJ) (w:World) (j:Array Value),CS ⟨w,ok,X,H⟩ ok H [] w→j.size=args.length→(∀i,i<args.length→R ok w H (args.getD i .junk) (j.getD i undef))→
  Calls P f j w fun e w'=>∃ok' H',e=.panicked [{ v:=u,recovered:=false }]∧CS ⟨w,ok,X,H⟩ ok' H' [] w'
def OZ {Rr:Type} (P:Program) (f:FuncId) (args:List AV) (r:Except Value Rr) (j:Rr→AV):Prop:=(∀x,r=.ok x→Ap P f args [] (j x) [])∧∀u,r=.error u→aRU P f args u
def alC {Rr:Type} (P:Program) (fn:Func) (r:Except Value Rr) (j:Rr→AV) (e:Exit) (σ:Aj):Prop:=
 (∃x,r=.ok x∧aOs P fn (j x) [] e σ)∨∃u,r=.error u∧e=ji u∧σ.base=0
def adk {P:Program} {fn:Func} {Rr:Ending→World→Prop} {C:Dw} {ch:List PanicEntry} (q:∀b,C.ok0 b→b<C.w0.heap.size) {H:List BJ} {σ:Aj}
 (u:∀ok a w,Holds C ok H σ a w→Rr (.panicked ch) w) {tmps:Array Value}:∀(Ds:List Nat) {ok:Nat→Prop} {a:Act} {w:World},Holds C ok H σ a w→(∀d∈Ds,ok d∧C.w0.heap.size≤d∧w.heap[d]? =some (.deferred (some [])))→Ds.Nodup→
  LeavesInM (IE none) 0 P fn tmps Rr (Ds.map fun D=>{ target:=.collected D,args:= #[] }) (.panicking ch) w
 | [],ok,a,w,h,_,_=>u ok a w h
 |D::Ds,ok,a,w,h,hd,z=>by
  obtain⟨ok',h',j⟩:=h.take q (fun d m=>hd d (Ez _ m)) (hd D (Ec ..)) z;have I:=adk (P:=P) (fn:=fn) (tmps:=tmps) q u Ds h' j (JX.1 z).2;exact⟨Am,.inl ⟨D,_,rfl,run_takeDeferred (hd D (Ec ..)).2.2,I⟩⟩
def CS.none {C:Dw} {ok:Nat→Prop} {H:List BJ} {es:List Aq} {w:World} (m:CS C ok H es w) (q:C.H0=[]):CS C ok [] [] w:=
 ⟨m.fr,m.xu,m.xw,m.jM,by rw[q];exact .refl _,rfl,fun k e h j=>sN,fun k e h b j=>sN,fun k k' e e' h h' b j=>sN⟩
def OZ.aK {Rr:Type} {P:Program} {f:FuncId} {fn:Func} {c:Code} {args:List AV} {r:Except Value Rr} {q:Rr→AV} (Z:P.funcs[f]? =some fn) (hb:fn.body=some c)
 (h:AP P c (.enter args fn.ntmps []) (alC P fn r q)):OZ P f args r q:=by
 refine⟨fun x hx=>Ap.aK Z hb (h.mono fun e σ hq=>?_),fun u hu=>?_⟩
 ·rcases hq with⟨x',m,J⟩|⟨u,m,_⟩
  ·rw[hx]at m;cases m;exact J
  rw[hx]at m;cases m
 intro ok X H w j I hs ha;have hH:H=[]:=GN I.hlen;refine(aDR (ro:=none) (n:=0)).1 (aHQ Z hb trivial (TF (h.run none (.inl rfl) ⟨w,ok,X,H⟩ ok H _ w ?_) ?_) rfl)
 ·refine⟨I,by simp[Aj.enter,hs],.nil _ _ _,I.hlen,fun t ht=>?_⟩;simp only[Aj.enter];by_cases e:t<args.length
  ·have L:(args++List.replicate (fn.ntmps-args.length) AV.junk).getD t .junk=args.getD t .junk:=aFr
   have e2:(j++Array.replicate (fn.ntmps-j.size) undef).getD t undef=j.getD t undef:=by
    simp[Gj,Yq (show t<j.size by omega)]
   rw[L,e2];exact ha t e
  have L:(args++List.replicate (fn.ntmps-args.length) AV.junk).getD t .junk=.junk:=by
   simp only[List.getD,J3 (TN e),aMY];split<;>rfl
  rw[L];exact .junk _
 rintro e a' w' ⟨ok',H',σ',m,J⟩;rcases J with⟨x,z,_⟩|⟨u',z,rfl,_⟩
 ·rw[hu]at z;cases z
 rw[hu]at z;cases z;obtain⟨Ds,M,O,U⟩:=m.defers;show LeavesInM (IE none) 0 P fn a'.tmps _ a'.defers (.panicking _) w';rw[M];exact adk (P:=P) (C:=⟨w,ok,X,H⟩) I.jM (fun Y a2 w2 h4=>⟨Y,[],rfl,h4.mem.none hH⟩) Ds m U O
section
variable {P : Program} {ops : Array Oper} {o : Oper} {rest l : List Oper} {σ : Aj} {K : Exit → Aj → Prop}
def CW.panic {x:Operand} {t:TypeId} {u:Value} (m:o.op=.panic x) (q:σ.get x=.d (.lit (.iface t u))) (z:IV ops σ o.guard=some true) (h:K (ji (.iface t u)) σ):CW P ops (o::rest) σ K:=by
 refine⟨fun ro I Q C ok H a w j J=>?_⟩;show wpListIn (IE ro) 0 P ops Q (o::(rest++I)) a w;unfold wpListIn;rw[CJ (OH j (Ku z))];have L:=(q▸j.get x).lit;unfold Oper.wpIn;rw[eX _ _ _ (by rw[m];intro c h;cases h)];have M:(execOp a.eval o).run P w=.halt (.panic (.iface t u)) w:=by simp[execOp,m,L,Instr.panic,goPanic]
 rw[M];exact⟨fun _ _=>trivial,J.2 _ _ _ _ _ _ h j⟩
end
section
variable {P : Program} {ops : Array Oper}
def Eb.aAR (N:Nat) {l:List Oper} {σ σ':Aj} {rs:List AV} {ess:List (List Aq)} {bs:List Bool} (h:Eb P ops l σ rs ess bs σ') (σ0:Aj) (r:Nat→AV) (ev:Nat→List Aq) (bar:Nat→Bool):∀i,(∀k:Nat,k<l.length→l[k]? =ops[i+k]?)→i+l.length=N→σ=EN ops σ0 r ev i→
 (∀(k:Nat) y,rs[k]? =some y→r (i+k)=y)→(∀(k:Nat) y,ess[k]? =some y→ev (i+k)=y)→(∀(k:Nat) y,bs[k]? =some y→bar (i+k)=y)→
 (∀j (o:Oper),i≤j→j<N→ops[j]? =some o→Qe P ops (EN ops σ0 r ev j) (r j) (ev j) (bar j) o)∧σ'=EN ops σ0 r ev N:=by
 induction h with
 |nil σ=>
  intro i hl I z L _ _;have :i=N:=PK
  subst this;exact⟨fun j o Y J ho=>A8,z⟩
 | @op o rest σ σ' ns x rs ess bs d ho hn hg hd ht k ih=>
   intro i hl I z L M Z;subst hd;have O:ops[i]? =some o:=ny
   have U:r i=x:=aAT
   have q:ev i=σ.ents:=aLP
   obtain⟨h1,h2⟩:=ih (i+1) (fun k hk=>pJ) Rf (by
    rw[Aj.WA];simp only[EN,O,U,q];rw[←z]) (fun k y u=>U6)
    (fun k y u=>pS) (fun k y u=>je)
   refine⟨fun j o' Y J m=>?_,h2⟩;by_cases e:i=j
   ·subst e;rw[O]at m;obtain rfl:=CG m;exact⟨.inl ⟨ns,by rw[U,q,←z];exact ho,z▸hn,ht,z▸hg⟩,fun _=>WC⟩
   exact h1 j o' A8 J m
 | @oe o rest σ σ' ns x es' rs ess bs d E ho hE hn hg hd ht k ih=>
   intro i hl I z L M Z;subst hd;subst hE;have O:ops[i]? =some o:=ny
   have U:r i=x:=aAT
   have q:ev i=es':=by simpa using M 0 es' Am
   have hbr:bar i=true:=by simpa using Z 0 true Am
   obtain⟨h1,h2⟩:=ih (i+1) (fun k hk=>pJ) Rf (by
    simp only[EN,O,U,q];rw[←z]) (fun k y u=>U6)
    (fun k y u=>pS) (fun k y u=>je)
   refine⟨fun j o' Y J m=>?_,h2⟩;by_cases e:i=j
   ·subst e;rw[O]at m;obtain rfl:=CG m;exact⟨.inl ⟨ns,by rw[U,q,←z];exact ho,z▸hn,ht,z▸hg⟩,fun hf=>by rw[hbr]at hf;cases hf⟩
   exact h1 j o' A8 J m
 | @any o rest σ σ' x rs ess bs d hs hd k ih=>
   intro i hl I z L M Z;subst hd;have O:ops[i]? =some o:=ny
   have U:r i=x:=aAT
   have q:ev i=σ.ents:=aLP
   obtain⟨h1,h2⟩:=ih (i+1) (fun k hk=>pJ) Rf (by
    rw[Aj.WA];simp only[EN,O,U,q];rw[←z]) (fun k y u=>U6)
    (fun k y u=>pS) (fun k y u=>je)
   refine⟨fun j o' Y J m=>?_,h2⟩;by_cases e:i=j
   ·subst e;rw[O]at m;obtain rfl:=CG m;refine⟨?_,fun _=>WC⟩;rw[U,q,←z];exact hs.1
   exact h1 j o' A8 J m
 | @ac1 o rest σ σ' x E br rs ess bs d hs hd k ih=>
   intro i hl I z L M Z;subst hd;have O:ops[i]? =some o:=ny
   have U:r i=x:=aAT
   have q:ev i=E:=by simpa using M 0 E Am
   have hbr:bar i=br:=by simpa using Z 0 br Am
   obtain⟨h1,h2⟩:=ih (i+1) (fun k hk=>pJ) Rf (by
    simp only[EN,O,U,q];rw[←z]) (fun k y u=>U6)
    (fun k y u=>pS) (fun k y u=>je)
   refine⟨fun j o' Y J m=>?_,h2⟩;by_cases e:i=j
   ·subst e;rw[O]at m;obtain rfl:=CG m;rw[U,q,hbr,←z];exact hs
   exact h1 j o' A8 J m
 | @skip o rest σ σ' rs ess bs d hg hd k ih=>
   intro i hl I z L M Z;subst hd;have O:ops[i]? =some o:=ny
   have U:r i=.d (.lit undef):=by simpa using L 0 (.d (.lit undef)) Am
   have q:ev i=σ.ents:=aLP
   obtain⟨h1,h2⟩:=ih (i+1) (fun k hk=>pJ) Rf (by
    rw[Aj.WA];simp only[EN,O,U,q];rw[←z]) (fun k y u=>U6)
    (fun k y u=>pS) (fun k y u=>je)
   refine⟨fun j o' Y J m=>?_,h2⟩;by_cases e:i=j
   ·subst e;rw[O]at m;obtain rfl:=CG m;exact⟨.inr ⟨U,WC,z▸hg⟩,fun _=>WC⟩
   exact h1 j o' A8 J m
def AP.aBZ {id:Nat} {σ σ':Aj} {Q:Exit→Aj→Prop} {rs:List AV} {ess:List (List Aq)} {bs:List Bool} (N:Nat) (hNs:N+1=ops.size) (hm:P.follows .mixedOrders=true) (hcalm:(Uz ops&&Ut ops&&UC ops σ.slots.length&&VE ops)=true) (hbl:bs.length=N) (L:XZ ops (bs++[true])=true)
 (h:Eb P ops (ops.toList.take N) σ rs ess bs σ') (hL:∀(ro:Option Nat) (C:Dw) (ok:Nat→Prop) (H:List BJ) (a:Act) (w:World),Holds C ok H σ' a w→wpOpIn (IE ro) 0 P ops (fun e a' w'=>∃ok' H' σ',Holds C ok' H' σ' a' w'∧Q e σ') N (fun a' w'=>∃ok' H' σ',Holds C ok' H' σ' a' w'∧Q .normal σ') a w):AP P (.region id ops true) σ Q:=by
 refine⟨fun ro _ C ok H a w hh=>?_⟩;simp only[CV]at hcalm;obtain⟨⟨⟨he,hd⟩,hs⟩,hc⟩:=hcalm;have NK:=aJI he;have hinj:=aHe hd;have hcalm:=aLp hc
 have FZ:∀(i:Nat) (o:Oper) (d:Tmp),ops[i]? =some o→o.dst=some d→d<σ.slots.length:=by
  intro i o d h1 h2;unfold UC at hs;rw[E5]at hs;simpa using hs d (aIV h1 h2)
 let r:Nat→AV:=fun i=>rs.getD i .junk
 let ev:Nat→List Aq:=fun i=>ess.getD i []
 let bar:Nat→Bool:=fun i=>(bs++[true]).getD i false
 have hbN:bar N=true:=by simp[bar,List.getD,←hbl]
 obtain⟨Gx,hend⟩:=h.aAR N σ r ev bar 0 (fun k hk=>by
  simp only[FI]at hk
  rw[Ln A8];simp) DK rfl (fun k y hy=>aLj) (fun k y hy=>aNQ) (fun k y hy=>by have :=(FB.1 hy).1;simp only[bar,List.getD,Ic,Fv this,hy];rfl)
 let U:Nat→Aj:=EN ops σ r ev
 have hU:∀i,i<ops.size→(U (i+1)).ents=ev i:=by
  intro i hi;have M:ops[i]? =some ops[i]:=Pq
  show(EN ops σ r ev (i+1)).ents=_;simp only[EN,M];rfl
 have hconst:∀n lo,(∀b,lo≤b→b<lo+n→bar b=false)→lo+n≤N→(U (lo+n)).ents=(U lo).ents:=by
  intro n
  induction n with
  |zero=>intro lo _ _;rfl
  |succ n ih=>
   intro lo z hle;have h1:=ih lo (fun b h1 h2=>z b h1 A8) A8;have hi:lo+n<ops.size:=A8
   have M:ops[lo+n]? =some ops[lo+n]:=Pq
   have h2:=(Gx (lo+n) _ A8 A8 M).2 (z (lo+n) A8 A8);rw[←NQ,hU _ hi,h2];exact h1
 have Z:∀lo hi,lo≤hi→hi≤N→(∀b,lo≤b→b<hi→bar b=false)→(U hi).ents=(U lo).ents:=by
  intro lo hi h1 h2 h3;obtain⟨n,rfl⟩:=aFy h1;exact hconst n lo h3 h2
 refine wE hm ?_
 let I:Array Bool→Act→World→Prop:=fun l a w=>l.size=ops.size∧l.getD N false=false∧∃ok H m,m≤N∧(∀b,bar b=true→b<ops.size→(l.getD b false=true↔b<m))∧CS C ok H (U m).ents w∧a.tmps.size=σ.slots.length∧Marks C ok w a.defers∧
  (∀t,t<σ.slots.length→(∀(j:Nat) (o:Oper),ops[j]? =some o→o.dst=some t→l.getD j false=false)→R ok w H (σ.slots.getD t .junk) (a.tmps.getD t undef))∧
  (∀(i:Nat) (o:Oper) (d:Tmp),ops[i]? =some o→o.dst=some d→l.getD i false=true→R ok w H (r i) (a.tmps.getD d undef))∧
  (∀(j:Nat) (o:Oper),ops[j]? =some o→l.getD j false=true→∀i,Fl o i=true→l.getD i false=true)
 let I2:Array Bool→Act→World→Prop:=fun l a w=>I l a w∨(l.size=ops.size∧(Region.ready .any ops l=[]∧∃ok' H' σ',Holds C ok' H' σ' a w∧Q .normal σ'))
 refine aE3 I2 (fun l a w h=>h.elim (fun h=>h.1) (fun h=>h.1)) ?_ ?_ ops.size _ _ _ ?_ ?_
 ·rintro l a w (⟨h1,hlN,ok,H,m,JG,abV,hmem0,hsz,hdf,h5,h6,h7⟩|⟨h1,h2,_⟩) i hi
  rotate_left
  ·rw[h2]at hi;simp at hi
  unfold Region.ready at hi;rw[ET]at hi;obtain⟨hi1,hi2⟩:=hi;have hi':i<ops.size:=zV
  have M:ops[i]? =some ops[i]:=by simp[hi']
  simp only[CV]at hi2;have NM:=hi2.2;rw[M]at NM;simp only[Ho,MH]at NM;have afc:=fun e he=>(PU.1 NM) e he
  have O:∀j,Fl ops[i] j=true→l.getD j false=true∧j<i:=by
   intro j u;unfold Fl at u;rw[Gw]at u;obtain⟨e,hee,u⟩:=u;simp only[CV,Fb]at u;have :=afc e aGG;simp only[u.2,Dv,Kv]at this;rw[u.1]at this;exact⟨this,u.1▸NK i _ M e hee u.2⟩
  have Y:l.getD i false=false:=by
   have h8:=hi2.1;have hil:i<l.size:=A8
   simp[Array.getD,hil]at h8 ⊢;exact h8
  have J:∀(j:Nat) (o:Oper),ops[j]? =some o→l.getD j false=true→∀m,Fl o m=true→l.getD m false=true:=fun j o u hl m hm=>h7 j o u hl m hm
  have hmem:CS C ok H (U i).ents w:=by
   have hE:(U i).ents=(U m).ents:=by
    by_cases him:i≤m
    ·refine(Z i m him JG (fun b h2 h3=>?_)).symm;rw[←Jd];intro z;have hbl:=(abV b z A8).2 h3;by_cases e:b=i
     ·subst e;rw[Y]at hbl;cases hbl
     have hob:ops[b]? =some (ops[b]' A8):=by simp[show b<ops.size by omega]
     have :=Uc L (show b<ops.size by omega) z (D:=fun j=>l.getD j false=true) J (fun o M m hm=>J b o M hbl m hm) i A8;rw[Y]at this;cases this
    refine Z m i A8 A8 (fun b h2 h3=>?_);rw[←Jd];intro z;have :=aAr L (show b<ops.size by omega) z (D:=fun j=>l.getD j false=true) J i h3 _ M (fun m hm=>(O m hm).1);exact absurd ((abV b z A8).1 this) A8
   rw[hE];exact hmem0
  by_cases hiN:i=N
  ·subst hiN;have ay0:∀j,j<i→l.getD j false=true:=fun j u=>Uc L hi' hbN (D:=fun j=>l.getD j false=true) J (fun o ho' m hm=>aNp) j u
   have hH:Holds C ok H σ' a w:=by
    subst hend;refine⟨hmem,by rw[Ti];exact hsz,hdf,aMd,fun t ht=>?_⟩;rw[Ti]at ht;by_cases hw:∃(j:Nat) (o:Oper),ops[j]? =some o∧o.dst=some t
    ·obtain⟨j,o,u,q⟩:=hw;have hjn:j<ops.size:=(FX.1 u).1;by_cases hji:j<i
     ·rw[Sl hinj u q ht i hji];exact h6 j o t u q (ay0 j hji)
     have hje:j=i:=A8
     subst hje;rw[Rs j (fun j' o' hj' ho' hd'=>zq)];exact h5 t ht (fun j' o' ho' hd'=>by have :=hinj j j' o o' t u ho' q hd';subst this;exact hlN)
    have hw':∀(j:Nat) (o:Oper),ops[j]? =some o→o.dst≠some t:=fun j o h1 h2=>hw ⟨j,o,h1,h2⟩;rw[Rs i (fun j o _ u=>hw' j o u)];exact h5 t ht (fun j o u q=>absurd q (hw' j o u))
   refine wpOpIn_mono (fun a' w' hx=>.inr ⟨by simp[h1],?_,hx⟩) (hL ro C ok H a w hH);unfold Region.ready;rw[Yz];intro j u;have hjn:j<ops.size:=LJ
   have hdn:(l.setIfInBounds i true).getD j true=true:=by
    by_cases hji:j=i
    ·subst hji;simp[Array.getD,h1,hi']
    have :=ay0 j A8;simp only[Gj,Ja (Ne.symm hji)];have hjl:j<l.size:=A8
    simp[Array.getD,hjl]at this;simp[hjl,this]
   rw[hdn];simp
  have hiN:i<N:=A8
  have hread:∀t,t∈tmpsOf ops[i]→R ok w H ((EN ops σ r ev i).slots.getD t .junk) (a.tmps.getD t undef):=by
   intro t ht;by_cases hw:∃(j:Nat) (o:Oper),ops[j]? =some o∧o.dst=some t
   ·obtain⟨j,o,u,q⟩:=hw;rcases(hcalm i _ M).1 j o t u q ht with hce|hce
    ·obtain⟨hdj,hji⟩:=O j hce;rw[Sl hinj u q (FZ j o t u q) i hji];exact h6 j o t u q hdj
    have hij:i<j:=by
     unfold Fl at hce;rw[Gw]at hce;obtain⟨e,hee,hce⟩:=hce;simp only[CV,Fb]at hce;exact hce.1▸NK j _ u e hee hce.2
    rw[Rs i (fun j' o' hj' ho' hd'=>zq)];refine h5 t (FZ j o t u q) (fun j' o' ho' hd'=>?_);have hjj:=hinj j j' o o' t u ho' q hd';subst hjj;rw[←Jd];intro hd;rw[h7 j o u hd i hce]at Y;cases Y
   have hw':∀(j:Nat) (o:Oper),ops[j]? =some o→o.dst≠some t:=fun j o h1 h2=>hw ⟨j,o,h1,h2⟩;rw[Rs i (fun j o _ u=>hw' j o u)];by_cases htn:t<σ.slots.length
   ·exact h5 t htn (fun j o u q=>absurd q (hw' j o u))
   rw[cO htn];exact .junk _
  have SX:∀j d v,Fl ops[i] j=true→(ops[j]?).bind (·.dst)=some d→(EN ops σ r ev i).slots.getD d .junk=.d (.lit v)→yielded ops a.tmps j=(match v with | .bool b=>some b|_=>none):=by
   intro j d v u q z;cases hoj:ops[j]? with
   |none=>rw[hoj]at q;simp at q
   |some oj=>
    rw[hoj]at q;simp only[AQ]at q;obtain⟨hdj,hji⟩:=O j u;have hdn:=FZ j oj d hoj q;rw[Sl hinj hoj q hdn i hji]at z;have hv:=(z▸h6 j oj d hoj q hdj).bool
    have hs:a.tmps[d]? =some v:=by
     have :d<a.tmps.size:=by rw[hsz];exact hdn
     simp[Array.getD,this]at hv;simp[this,hv]
    unfold yielded;rw[hoj];simp only[AQ,q,hs];cases v<;>rfl
  have hput:∀(x:AV) (v:Value) (ok':Nat→Prop) (H':List BJ) (w':World),x=r i→Dz ok w ok' w'→Names H H'→CS C ok' H' (ev i) w'→R ok' w' H' x v→I2 (l.setIfInBounds i true) (a.put ops[i].dst v) w':=by
   intro x v ok' H' w' hx hgr hnm hmem' hR;subst hx
   have hother:∀(d t:Nat),ops[i].dst=some d→d≠t→(a.put ops[i].dst v).tmps.getD t undef=a.tmps.getD t undef:=by
    intro d t hd hne;rw[hd];exact aHU hne
   obtain⟨m',akk,abL,akl⟩:∃m',m'≤N∧(∀b,bar b=true→b<ops.size→((l.setIfInBounds i true).getD b false=true↔b<m'))∧CS C ok' H' (U m').ents w':=by
    have hget:∀b,b≠i→(l.setIfInBounds i true).getD b false=l.getD b false:=fun b z=>by
     simp only[Gj,Ja (Ne.symm z)]
    have akm:(l.setIfInBounds i true).getD i false=true:=aHC
    cases hbi:bar i with
    |false=>
     refine⟨m,JG,fun b z hbs=>?_,?_⟩
     ·have hne:b≠i:=fun e=>by subst e;rw[hbi]at z;cases z
      rw[hget b hne];exact abV b z hbs
     have h2:=(Gx i _ A8 hiN M).2 hbi;rw[h2]at hmem'
     have hE:(U i).ents=(U m).ents:=by
      by_cases him:i≤m
      ·refine(Z i m him JG (fun b h2 h3=>?_)).symm;rw[←Jd];intro z;have hbl:=(abV b z A8).2 h3;by_cases e:b=i
       ·subst e;rw[Y]at hbl;cases hbl
       have :=Uc L (show b<ops.size by omega) z (D:=fun j=>l.getD j false=true) J (fun o M m hm=>J b o M hbl m hm) i A8;rw[Y]at this;cases this
      refine Z m i A8 A8 (fun b h2 h3=>?_);rw[←Jd];intro z;have :=aAr L (show b<ops.size by omega) z (D:=fun j=>l.getD j false=true) J i h3 _ M (fun m hm=>(O m hm).1);exact absurd ((abV b z A8).1 this) A8
     rw[←hE];exact hmem'
    |true=>
     refine⟨i+1,A8,fun b z hbs=>?_,by rw[hU i hi'];exact hmem'⟩;by_cases e:b=i
     ·subst e;rw[akm];simp
     rw[hget b e];constructor
     ·intro hbl;apply Ve;intro hn;have :=Uc L hbs z (D:=fun j=>l.getD j false=true) J (fun o M m hm=>J b o M hbl m hm) i A8;rw[Y]at this;cases this
     intro hlt;exact Uc L hi' hbi (D:=fun j=>l.getD j false=true) J (fun o ho' m hm=>aNp) b A8
   refine .inl ⟨by simp[h1],by simpa only[Gj,Ja (show i≠N by omega)]using hlN,ok',H',m',akk,abL,akl,aMz,aIn,?_,?_,?_⟩
   ·intro t ht hno
    have hne:ops[i].dst≠some t:=by
     intro e;have :=hno i _ M e;simp[Array.getD,h1,hi']at this
    have hold:(a.put ops[i].dst v).tmps.getD t undef=a.tmps.getD t undef:=by
     cases hdi:ops[i].dst with
     |none=>rfl
     |some d=>exact hdi▸hother d t hdi (fun e=>hne (by rw[hdi,e]))
    rw[hold];refine(h5 t ht (fun j o u q=>?_)).mono hgr hnm;have hij:i≠j:=fun e=>by subst e;rw[M]at u;obtain rfl:=CG u;exact hne q
    have :=hno j o u q;simpa only[Gj,Ja hij]using this
   ·intro k o d hk hkd hl;by_cases hik:i=k
    ·subst hik;rw[M]at hk;obtain rfl:=CG hk;rw[hkd,aMQ (by rw[hsz];exact FZ i _ d M hkd)];exact hR
    have hl':l.getD k false=true:=by
     simp only[Gj,Ja hik]at hl ⊢;exact hl
    have :=(h6 k o d hk hkd hl').mono hgr hnm;cases hdst:ops[i].dst with
    |none=>exact this
    |some d'=>
     have hne:d'≠d:=fun e=>hik (hinj i k _ _ d' M hk hdst (e▸hkd));rw[←hdst,hother d' d hdst hne];exact this
   intro j o u hl k hk;have hil:i<l.size:=A8
   by_cases hik:i=k
   ·subst hik;simp[Array.getD,hil]
   have hkk:l.getD k false=true:=by
    by_cases hij:i=j
    ·subst hij;rw[M]at u;obtain rfl:=CG u;exact(O k hk).1
    have hl':l.getD j false=true:=by
     simp only[Gj,Ja hij]at hl ⊢;exact hl
    exact h7 j o u hl' k hk
   simp only[Gj,Ja hik]at hkk ⊢;exact hkk
  unfold wpOpIn;rw[M];show if Region.wanted ops[i] (yielded ops a.tmps)=true then _ else _
  rcases(Gx i ops[i] A8 hiN M).1 with⟨ns,hop,ac2,hnt,hg⟩|⟨hx,hev,hg⟩
  ·have hwant:Region.wanted ops[i] (yielded ops a.tmps)=true:=by
    unfold Region.wanted;rcases hg with hg|⟨j,want,d,b,hg,u,z,rfl⟩
    ·rw[hg]
    rw[hg];show(yielded ops a.tmps j==some b)=true;rw[SX j d _ ((hcalm i _ M).2 j b hg) u z];simp
   rw[CJ hwant];refine Pm ?_ (hop.inR ro C ok H a w _ hmem (fun n hn=>?_))
   ·rintro a' w' ⟨v,ok',H',rfl,hgr,hnn,hm',hx⟩;exact hput _ v ok' H' w' rfl hgr hnn hm' hx
   have hnv:=Ou ac2 n hn;obtain⟨x,y⟩:=n;simp only at hnv ⊢;subst hnv;cases x with
   |tmp t=>
    refine hread t ?_;rw[E5]at hnt
    have :t∈KF ns:=by
     unfold KF;rw[SN];exact⟨_,hn,rfl⟩
    simpa using hnt t this
   |const v=>exact .d _ _ (.lit v)
   |global g=>exact .d _ _ (.lit _)
   |func f=>exact .d _ _ (.fn (.func f) [] [] #[] #[] rfl rfl (fun i hi=>MO) (fun i hi=>MO))
  have hwant:Region.wanted ops[i] (yielded ops a.tmps)=false:=by
   unfold Region.wanted;obtain⟨j,want,d,v,hg,u,z,hv⟩:=hg;rw[hg];show(yielded ops a.tmps j==some want)=false;rw[SX j d _ ((hcalm i _ M).2 j want hg) u z];rcases hv with rfl|rfl
   ·simp
   rfl
  rw[CU (by rw[hwant];simp)];exact⟨fun _ _=>trivial,hput _ _ ok H w hx.symm (.refl _ _) (.refl _) aHa (.d _ _ (.lit _))⟩
 ·rintro l a w (⟨h1,hlN,ok,H,m,JG,abV,hmem,hsz,hdf,h5,h6,h7⟩|⟨h1,_,h2⟩) hr
  rotate_left
  ·exact h2
  have hall:∀n i,i<n→i<ops.size→l.getD i false=true:=by
   intro n
   induction n with
   |zero=>intro i hi;omega
   |succ n ih=>
    intro i hi hi2;by_cases hn:i<n
    ·exact ih i hn hi2
    have hin:i=n:=A8
    subst hin;rw[←aLY];intro hf;have M:ops[i]? =some ops[i]:=by simp[hi2]
    have hmem:i∈Region.ready .any ops l:=by
     unfold Region.ready;rw[ET];refine⟨by simpa using hi2,?_⟩;have hil:i<l.size:=A8
     have hf':l.getD i true=false:=aD1
     rw[hf',M];simp only[I4,FT,Ho,MH];rw[PU];intro e he;cases hbe:Region.binds .any e with
     |false=>simp
     |true=>
      have hlt:=NK i _ M e jX hbe;rw[ih e.on A8 A8];simp
    rw[hr]at hmem;simp at hmem
  have :=hall (N+1) N A8 A8;rw[hlN]at this;cases this
 ·unfold toCome;simp
 refine .inl ⟨Am,aBv,ok,H,0,EK _,fun b z _=>aBv,?_,hh.size,hh.defers.mono (fun b z=>⟨z,rfl⟩),fun t ht _=>?_,fun i o d _ _ hl=>?_,fun j o _ hl=>?_⟩
 ·exact⟨⟨hh.mem.fr.os,hh.mem.fr.tape,hh.mem.fr.output,hh.mem.fr.size,hh.mem.fr.block⟩,hh.mem.xu,hh.mem.xw,hh.mem.jM,hh.mem.names,hh.mem.hlen,fun k e h h1 h2=>(hh.mem.ent k e h h1 h2).drew,hh.mem.blk,hh.mem.Dp⟩
 ·exact R.mono (w:=w) (ok:=ok) (w':={ w with drawn:=w.drawn+1 }) (fun b z=>⟨z,rfl⟩) (.refl _) (hh.slot t ht)
 ·simp[Array.getD]at hl
 simp[Array.getD]at hl
def AP.ay1 {id:Nat} {σ σ':Aj} {Q:Exit→Aj→Prop} {rs:List AV} {ess:List (List Aq)} {bs:List Bool} (N:Nat) (h:Eb P ops (ops.toList.take N) σ rs ess bs σ') (hl:CW P ops (ops.toList.drop N) σ' Q) (u:N+1=ops.size:=by kernel_rfl) (M:P.follows .mixedOrders=true:=by kernel_rfl) (j:(Uz ops&&Ut ops&&UC ops σ.slots.length&&VE ops)=true:=by kernel_rfl) (z:bs.length=N:=by kernel_rfl) (m:XZ ops (bs++[true])=true:=by kernel_rfl):AP P (.region id ops true) σ Q:=by
 refine AP.aBZ N u M j z m h fun ro C ok H a w O=>?_;have J:N<ops.size:=A8
 have hd:ops.toList.drop N=[ops[N]]:=by
  rw[Jp TJ];simp[←u]
 rw[hd]at hl;have L:=hl.run ro [] (fun e a' w'=>∃ok' H' σ',Holds C ok' H' σ' a' w'∧Q e σ') C ok H a w O ⟨fun σ' ok' H' a' w' I q=>⟨ok',H',σ',q,I⟩,fun v σ' ok' H' a' w' I q=>⟨ok',H',σ',q,I⟩⟩;unfold wpOpIn;have U:ops[N]? =some ops[N]:=by simp[J]
 rw[U];simp only[V7,Hd,wpListIn]at L;exact L
end
section
variable {P : Program} {o : Oper} {es : List Aq}
def yK {t:TypeId} (e s:Nat) (I:(P.info? t).bind (·.zero)=some (.slice none 0 0)) (J:o.op=.alloc t):BN P o [] es (.ptr (es.length+1) 0) (es++[.arr e s [],.box [.aY es.length]]):=
 .eff fun C ok H a w m Z=>by
  obtain⟨z,h2⟩:=aFu m e s;have j:(H++[(⟨.slice none 0 0,s⟩:BJ)]).length=(es++[Aq.arr e s []]).length:=z.hlen;have L:(H++[(⟨.slice none 0 0,s⟩:BJ)])[es.length]? =some ⟨.slice none 0 0,s⟩:=aBl
  have M:EY ok (w.alloc (.cells #[.slice none 0 0] t)) ((H++[⟨.slice none 0 0,s⟩])++[⟨.pointer (some ⟨w.heap.size,0,none⟩),0⟩]) ⟨.pointer (some ⟨w.heap.size,0,none⟩),0⟩ (.box [.aY es.length]):=by
   refine⟨w.heap.size, #[.slice none 0 0],t,rfl,ZJ w _,rfl,fun i hi=>?_⟩
   match i,hi with
   |0,_=>exact⟨rfl,.aY _ none 0 0 s (by rw[Fv (by simp[m.hlen])];exact L)⟩
  obtain⟨O,U⟩:=z.push (.cells #[.slice none 0 0] t) ⟨.pointer (some ⟨w.heap.size,0,none⟩),0⟩ _ (aAg w) M;have q:CS C ok ((H++[⟨.slice none 0 0,s⟩])++[⟨.pointer (some ⟨w.heap.size,0,none⟩),0⟩]) (es++[.arr e s [],.box [.aY es.length]]) (w.alloc (.cells #[.slice none 0 0] t)):=by simpa[Gq]using O
  refine⟨.pointer (some ⟨w.heap.size,0,none⟩),_,ok,_,.inl ?_,U,(Names.push _ _).trans (Names.push _ _),q,.ptr _ _ w.heap.size 0 ?_⟩
  ·obtain⟨i,hi,u⟩:=eP.1 I;have Y:Value.cells (.slice none 0 0)= #[.slice none 0 0]:=rfl;simp[execOp,J,Instr.alloc,zeroValue,typeInfo,hi,u,newVar,newRow,Y]
  rw[J3 (by rw[j];simp),j];simp
def aDd {α:Type} {x y:Operand} {t e:TypeId} {k n:Nat} {kd:IntKind} {i:Int} (enc:α→D) {l:List α} {a:α} (h:Af l i=some a) (hl:l.length=n) (J:P.underlying t=some (.array n e)) (L:Dl P e false 1) (M:es[k]? =some (.box (Aw (LG enc l)))) (O:o.op=.indexAddr t x y):
 BN P o [(x,.ptr k 0),(y,.d (.lit (.int kd i)))] es (.ptr k i.toNat) es:=
 .pure fun ok H U w j q z=>by
  obtain⟨Y,Z⟩:=JY h;obtain⟨hd,hh,_⟩:=FV j q M;have u:=(EL z).1;have I:=(EL z).2.lit;simp only at u I;have hlt:=(FB.1 Z).1;have hu:(underlying t).run P w=.ok (.array n e) w:=by simp[underlying,J]
  generalize hv:U.eval x=v at u;cases u with
  |ptr _ _ b s hH=>
   have hb:0≤i∧i<n:=⟨Y,A8⟩
   refine⟨.pointer (some ⟨b,i.toNat,none⟩),?_,.ptr k _ b s hH⟩;have m:(⟨b,0,none⟩:Addr).add i.toNat=⟨b,i.toNat,none⟩:=by rw[addr_add,Ic]
   simp[execOp,O,hv,I,Instr.indexAt,asIntOf,hu,Instr.sureAddr,hb,L.size w,m]
def ajA {α:Type} {i:Int} {enc:α→D} {l:List α} {a:α} (h:Af l i=some a):(Aw (LG enc l))[i.toNat]? =some (.d (enc a)):=by
 have j:=(JY h).2;simp[Aw,LG,D.cells,j]
def aC5 {α:Type} {x:Operand} {t:TypeId} {k:Nat} {i:Int} (enc:α→D) {l:List α} {a:α} (h:Af l i=some a) (j:es[k]? =some (.box (Aw (LG enc l)))) (m:Dl P t false 1) (q:o.op=.load t x):BN P o [(x,.ptr k i.toNat)] es (.d (enc a)) es:=aPG j (ajA h) m q
def aNa {t:TypeId} {x:Operand} {y:D} (j:match P.underlying t with |some (.interface _)=>false|some _=>true|none=>false) (q:o.op=.makeInterface t x):BN P o [(x,.d y)] es (.d (.NH t y)) es:=
 .pure fun ok H a w _ _ u=>by
  have z:DF ok w y (a.eval x):=by have :=u (x,.d y) Am;cases this with |d _ _ h=>exact h
  refine⟨.iface t (a.eval x),?_,.d _ _ (.NH t y _ z)⟩;cases m:P.underlying t with
  |none=>rw[m]at j;cases j
  |some d=>
   rw[m]at j;have I:(underlying t).run P w=.ok d w:=aGC
   cases d<;>first|(cases j;done)|simp[execOp,q,Instr.makeInterface,I]
def aQO {t:TypeId} {x:Operand} (us:List Value) (j:match P.underlying t with |some (.interface _)=>false|some _=>true|none=>false) (u:o.op=.makeInterface t x):BN P o [(x,.d (.agg (us.map .lit)))] es (.d (.lit (.iface t (.agg us.toArray)))) es:=
 .pure fun ok H a w _ _ z=>by
  have q:=(z (x,.d (.agg (us.map .lit))) Am).afh;simp only at q;refine⟨.iface t (.agg us.toArray),?_,.d _ _ (.lit _)⟩;cases m:P.underlying t with
  |none=>rw[m]at j;cases j
  |some d=>
   rw[m]at j;have I:(underlying t).run P w=.ok d w:=aGC
   cases d<;>first|(cases j;done)|simp[execOp,u,Instr.makeInterface,I,q]
def o9 (P:Program) (t:TypeId) (j:String) (f:FuncId):Bool:=
 match P.info? t with
 |some i=>(match i.methods.find? (·.name==j)with
  |some m=>m.path.toList.isEmpty&&(match m.func with |some (g,p)=>decide (g=f)&& !p|none=>false)
  |none=>false)&&(match P.underlying t with |some (.pointer _)=>false|some _=>true|none=>false)
 |none=>false
def aq5 {t:TypeId} {j:String} {f:FuncId} (h:o9 P t j f=true) (n:Nat) (v:Value) (w:World):(method (n+1) t v j).run P w=.ok (f,v) w:=by
 unfold o9 at h;split at h
 ·rename_i i hi;rw[CV]at h;obtain⟨q,u⟩:=h;split at q
  ·rename_i m J;rw[CV]at q;obtain⟨L,z⟩:=q;split at z
   ·rename_i g p M;simp only[CV,Fb,Qq]at z;obtain⟨rfl,rfl⟩:=z;have O:m.path.toList=[]:=List.isEmpty_iff.1 L;cases I:P.underlying t with
    |none=>rw[I]at u;cases u
    |some d=>
     rw[I]at u;have U:∀w,(underlying t).run P w=.ok d w:=fun w=>by simp[underlying,I]
     cases d<;>first|(cases u;done)|simp[method,typeInfo,hi,J,O,follow,M,receiverAt,U,Place.get]
   cases z
  cases q
 cases h
def aeX {f:FuncId} {j:Operand} {z:String} {ops:Array Operand} {ats:Array TypeId} {t:TypeId} (x:D) (m:List D) {q:AV} (hr:Ap P f ((x::m).map .d) [] q []) (hf:DV P f=true) (I:o9 P t z f=true) (hl:ops.toList.length=m.length) (M:q.up [] es.length=q)
 (ho:o.op=.call { callee:=.invoke j z,args:=ops,argTypes:=ats }):BN P o ((j,.d (.NH t x))::Em ops.toList (m.map .d)) es q es:=by
 intro C ok H a w Q hm hn;have Y:=hn (j,.d (.NH t x)) Am;simp only at Y;have J:=iy (xs:=ops.toList) (vs:=m.map .d) Ko (fun n Z=>hn n (Ez _ Z));generalize hv:a.eval j=v at Y;cases Y with
 |d _ _ h=>
  cases h with
  |NH _ _ u h1=>
   unfold Oper.wp
   have he:(execOp a.eval o).run P w=.ok (.enter f (#[u]++ops.map a.eval)) w:=by
    have h2:=RI hf (#[u]++ops.map a.eval) w;have L:=aq5 I (P.types.size+99) u w;have h4:(#[Value.iface t u]++ops.map a.eval)[0]? =some (.iface t u):=by rw[Yq Am];rfl
    have h5:(#[Value.iface t u]++ops.map a.eval).extract 1 (#[Value.iface t u]++ops.map a.eval).size=ops.map a.eval:=by
     apply aKj;rw[Array.toList_extract];simp only[Array.size_append,Array.size_map,List.extract_eq_take_drop,Array.toList_append,Zo,MS];simp;exact PE Am
    simp only[execOp,ho,resolve,hv,Ep,Fa,F5,invoke,h4,h5,callMethod];have h6:(program).run P w=.ok P w:=rfl;simp only[h6,F5];have h7:P.types.size+Made.depth=P.types.size+99+1:=rfl;rw[h7,L];exact h2
   rw[he,ZE];have O:(ops.map a.eval).size=m.length:=Ko
   refine(ab6 hm hr _ (by simp at O;simp[O];omega) (fun i hi=>?_) M).mono ?_
   ·cases i with
    |zero=>
     have e0:(#[u]++ops.map a.eval).getD 0 undef=u:=by simp[Gj,Yq]
     rw[e0];exact h1
    |succ i=>
     have U:i<m.length:=FU
     have L:=J i Yy;have e1:(m.map AV.d).getD i .junk=.d (m.getD i D8):=by simp[List.getD,U]
     have hi2:i<ops.size:=adS
     have e2:(#[u]++ops.map a.eval).getD (i+1) undef=(ops.toList.map a.eval).getD i undef:=by
      simp only[Gj,List.getD];rw[aLZ Am];simp[hi2]
     rw[e2];rw[e1]at L;have e3:(x::m).getD (i+1) D8=m.getD i D8:=Am
     rw[e3];cases L with |d _ _ h=>exact h
   rintro e w' ⟨v,ok',H',rfl,L,h4,h5,h6⟩;exact⟨v,ok',H',rfl,L,h4,h5,h6⟩
end
section
variable {P : Program} {ops : Array Oper} {o : Oper} {rest l : List Oper} {σ : Aj} {K : Exit → Aj → Prop}
def CW.Bo {f:FuncId} {dX:List AV} {u:Value} (Z:aRU P f dX u) (hf:DV P f=true) (h:K (ji u) σ) (I:UA σ o=some (f,dX):=by kernel_rfl) (hd:dX.all AV.yR=true:=by kernel_rfl) (hg:IV ops σ o.guard=some true:=by kernel_rfl):CW P ops (o::rest) σ K:=by
 refine⟨fun ro l2 Q C ok H a w j hk=>?_⟩;show wpListIn (IE ro) 0 P ops Q (o::(rest++l2)) a w;unfold wpListIn;rw[CJ (OH j (Ku hg))];unfold UA at I;split at I
 ·rename_i c M;split at I
  ·rename_i f' z;cases I;obtain⟨callee,args,ats⟩:=c;simp only at z;subst z;have q:(execOp a.eval o).run P w=.ok (.enter f (args.map a.eval)) w:=by rw[mV M,RI hf]
   unfold Oper.wpIn;rw[eX _ _ _ (by rw[M];intro c h;cases h),q]
   have L:CS ⟨w,ok,[],[]⟩ ok [] [] w:=
    ⟨.refl _ _,fun _ h=>h,fun _ h=>.inl h,j.mem.jM,.refl _,rfl,fun k e h q=>TG,fun k e h b q=>TG,fun k k' e e' h h' b q=>TG⟩
   have key:Calls P f (args.map a.eval) w fun e w'=>e=.panicked [{ v:=u,recovered:=false }]∧∃ok',Holds C ok' H σ a w':=by
    refine(Z ok [] [] w _ L Am (fun i hi=>?_)).mono ?_
    ·have J:i<args.size:=FU
     have e1:(args.toList.map σ.get).getD i .junk=σ.get args[i]:=by simp[List.getD,J]
     have e2:(args.map a.eval).getD i undef=a.eval args[i]:=by simp[Array.getD,J]
     have O:AV.yR (σ.get args[i])=true:=by
      rw[E5]at hd;exact hd _ (FH.2 ⟨args[i],Am,rfl⟩)
     have U:=j.get args[i];rw[e1,e2];generalize σ.get args[i]=y at O U;cases y with
     |d y=>cases U with |d _ _ h=>exact .d _ _ h
     |_=>cases O
    rintro e w' ⟨ok',H',rfl,m⟩;obtain⟨h1,Y⟩:=j.mem.change (ok':=ok) (H':=H) (es':=σ.ents) (w':=w') (fun _=>False) m.fr.os m.fr.tape m.fr.output m.fr.size (fun b hb _=>m.fr.block b hb Am) (fun _ h=>h.elim) (fun _ h=>h) (fun _ h=>.inl h) (.refl _) j.mem.hlen (fun k e h q j=>.inl ⟨q,j,fun _ _ _ h=>h⟩);exact⟨rfl,ok,h1,j.size,j.defers.mono Y,j.base,fun t ht=>(j.slot t ht).mono Y (.refl _)⟩
   refine⟨fun _ _=>trivial,fun h=>Fr,aDR.2 (key.mono ?_)⟩;rintro e w' ⟨rfl,ok',h5⟩;exact hk.2 _ _ _ _ _ _ h h5
  cases I
 cases I
end
def Jj {α β:Type} (r:Except Value α) (f:α→Option (Except Value β)):Option (Except Value β):=
 match r with
 | .ok a=>f a
 | .error u=>some (.error u)
def aqj (p:Addr) (w:World):
 CallsD Tryz.prog 146 #[.pointer (some p)] .returning w fun e j w'=>e=.returned (.tuple #[])∧j=.returning∧w'=w:=by
 refine aC7 Tryz.func146 rfl fun m cs q=>?_;apply Oc;apply OW;simp[wpOpsS,go_sem,recoverD,q,Tryz.ntmps146,Exit.thenS];apply Oc;apply OW;simp[wpOpsS,go_sem,Exit.thenS];refine bY (t:=false) dI ?_;simp only[Qb,JC];refine wpS_of_wp (wp_skip ?_);cases m
 simp_all [bodyPostS,results,Tryz.results146]
def aqo (b:Nat) (x:Value) (n:Int) (w:World) (J:w.heap[b]? =some (.cells #[x] 40 (0,0))):
 CallsD Tryz.prog 146 #[.pointer (some ⟨b,0,none⟩)] (.panicking [{ v:=.iface 165 (.agg #[.int .i64 n]),recovered:=false }]) w fun e L w'=>
  e=.returned (.tuple #[])∧L=.panicking [{ v:=.iface 165 (.agg #[.int .i64 n]),recovered:=true }]∧w.grownBy w' (some b)∧w'.heap[b]? =some (.cells #[.int .i64 n] 40 (0,0)):=by
 have m:∀(M:TypeId) (w:World),(Instr.typeAssert (.iface 165 (.agg #[.int .i64 n])) M 165 true).run Tryz.prog w=.ok (.tuple #[.agg #[.int .i64 n],.bool true]) w:=fun _ _=>AA
 have O:∀w:World,(Instr.alloc 165 true (.tuple #[])).run Tryz.prog w=.ok (.pointer (some ⟨w.heap.size,0,none⟩)) (w.alloc (.cells #[.int .i64 0] 165)):=fun w=>by
  simp[Instr.alloc,go_sem]
 have hst:∀w:World,(Instr.storeAt 165 (.pointer (some ⟨w.heap.size,0,none⟩)) (.agg #[.int .i64 n])).run Tryz.prog (w.alloc (.cells #[.int .i64 0] 165))=.ok () (w.alloc (.cells #[.int .i64 n] 165)):=fun w=>by
  simp[Instr.storeAt,go_sem]
 refine aC7 Tryz.func146 rfl fun Z cs U=>?_;apply Oc;apply OW;simp[wpOpsS,go_sem,recoverD,U,Tryz.ntmps146,Exit.thenS];apply Oc;apply OW;simp[wpOpsS,go_sem,Exit.thenS];refine bY (t:=true) dI ?_;simp only[J5];apply Oc;apply OW;simp[wpOpsS,execOp,m,O,hst,go_sem,Exit.thenS];apply Oc;apply Oc;apply OW;simp[wpOpsS,go_sem,Exit.thenS];refine bY (t:=false) dI ?_;simp only[Qb,JC];refine wpS_of_wp (wp_skip ?_);simp only[Exit.thenS];have q:b<w.heap.size:=(FX.1 J).1;have j:(w.alloc (.cells #[.int .i64 n] 165)).heap[b]? =some (.cells #[x] 40 (0,0)):=(J7 _ _ _ q).trans J;have Y:(w.alloc (.cells #[.int .i64 n] 165)).cell? ⟨b,0,none⟩=some x:=aCs
 have u:(w.alloc (.cells #[.int .i64 n] 165)).frozen? ⟨b,0,none⟩=false:=by simp[World.frozen?,j]
 apply OW;simp[wpOpsS,go_sem,Exit.thenS,Y,u,bodyPostS,results,Tryz.results146]
 have key:(w.alloc (.cells #[.int .i64 n] 165)).setCell ⟨b,0,none⟩ (.int .i64 n)=(w.alloc (.cells #[.int .i64 n] 165)).putObj b (.cells #[.int .i64 n] 40 (0,0)):=by
  simp only[World.setCell,World.putObj];congr 1;apply mG;intro i;rw[Nl,aF5];by_cases e:b=i
  ·subst e;rw[CJ rfl,CJ rfl,j,CJ (FX.1 j).1];rfl
  rw[CU e,CU e]
 rw[key];have z:b<(w.alloc (.cells #[.int .i64 n] 165)).heap.size:=(FX.1 j).1;refine⟨⟨rfl,rfl,rfl,Am,fun i hi I=>?_⟩,V8 z⟩;rw[Xc (fun e=>I (by rw[e]))];exact J7 _ _ _ hi
def SA {T:Type}:Except Value T→Option Int
 | .ok _=>some 0
 | .error (.iface t (.agg cs))=>bif t==165 then(match cs.toList with | [.int .i64 n]=>some n|_=>none)else none
 | .error _=>none
def abI (b:Nat) (n:Int) (w:World) (j:w.heap[b]? =some (.cells #[.int .i64 n] 40 (0,0))) (tmps:Array Value) (m:tmps.getD 2 undef=.pointer (some ⟨b,0,none⟩)):(results Tryz.f81 tmps).run Tryz.prog w=.ok (.int .i64 n) w:=by
 have q:w.cell? ⟨b,0,none⟩=some (.int .i64 n):=aCs
 have e:results Tryz.f81 tmps=(do let v ←loadVar 40 (←asAddr (tmps.getD 2 undef));pure v):=by simp[results,Tryz.results81]
 rw[e,m];simp[go_sem,q]
def asu {g:FuncId} {us:Array Value} {w:World} {n:Int} (he:∀(vs:Array Value) (w:World),(callFunc g vs).run Tryz.prog w=.ok (.enter g vs) w)
 (I:Calls Tryz.prog g us (w.alloc (.cells #[.int .i64 0] 40 (0,0))) fun e u=>(w.alloc (.cells #[.int .i64 0] 40 (0,0))).grownBy u none∧((∃v,e=.returned v∧n=0)∨e=.panicked [{ v:=.iface 165 (.agg #[.int .i64 n]),recovered:=false }])):
 Calls Tryz.prog 81 #[.func (.func g) #[] us] w fun e w'=>e=.returned (.int .i64 n)∧w.grownBy w' none:=by
 have Y:∀(fn:Fn) (first cap:Array Value) (w:World),(Instr.makeFunc fn first cap).run Tryz.prog w=.ok (.func fn first cap) w:=fun _ _ _ _=>rfl;have q:w.grownBy (w.alloc (.cells #[.int .i64 0] 40 (0,0))) none:=⟨rfl,rfl,rfl,Am,fun i hi _=>J7 _ _ _ hi⟩
 go_enter_defers Tryz.func81,Tryz.ntmps81
 apply wp_seq;apply YX;refine .inl ?_;simp[Oper.wp,go_sem,wpList,Exit.then];apply wp_seq;apply YX;refine .inl ?_;simp[Oper.wp,go_sem,Y,wpList,Exit.then];refine .inl ?_;apply wp_seq;apply YX;refine .inl ?_;simp[Oper.wp,go_sem,he,wpList,Exit.then];refine .inl (I.mono ?_);rintro e u ⟨L,h⟩;have M:u.heap[w.heap.size]? =some (.cells #[.int .i64 0] 40 (0,0)):=(L.block w.heap.size Am Am).trans (gV _ _);have O:w.heap.size<u.heap.size:=(FX.1 M).1;have j:w.grownBy u none:=⟨L.os.trans q.os,L.tape.trans q.tape,L.output.trans q.output,EZ q.size L.size,fun i hi U=>(L.block i DK U).trans (q.block i hi U)⟩
 have z:∀(Z:World) (m:Int),u.grownBy Z (some w.heap.size)→w.grownBy Z none:=fun Z m J=>⟨J.os.trans j.os,J.tape.trans j.tape,J.output.trans j.output,EZ j.size J.size,fun i hi U=>(J.block i (by have :=j.size;omega) DK).trans (j.block i hi U)⟩
 rcases h with⟨v,rfl,rfl⟩|rfl
 ·have hc:u.cell? ⟨w.heap.size,0,none⟩=some (.int .i64 0):=by rw[World.cell?,M];rfl
  have hfz:u.frozen? ⟨w.heap.size,0,none⟩=false:=by simp[World.frozen?,M]
  apply wp_seq;apply YX;refine .inl ?_;simp[Oper.wp,go_sem,hc,hfz,wpList,Exit.then];apply wp_ret
  have key:u.setCell ⟨w.heap.size,0,none⟩ (.int .i64 0)=u.putObj w.heap.size (.cells #[.int .i64 0] 40 (0,0)):=by
   simp only[World.setCell,World.putObj];congr 1;apply mG;intro i;rw[Nl,aF5];by_cases e:w.heap.size=i
   ·subst e;rw[CJ rfl,CJ rfl,M,CJ O];rfl
   rw[CU e,CU e]
  rw[key];refine leaves_cons (f:=146) (args:= #[.pointer (some ⟨w.heap.size,0,none⟩)]) Am yT ?_;refine(aqj ⟨w.heap.size,0,none⟩ _).mono ?_;rintro e u' w'' ⟨rfl,rfl,rfl⟩;refine⟨.int .i64 0,abI w.heap.size 0 _ (V8 O) _ rfl,rfl,z _ 0 ⟨rfl,rfl,rfl,Am,fun i hi hne=>Xc (fun e=>hne (by rw[e]))⟩⟩
 refine leaves_cons (f:=146) (args:= #[.pointer (some ⟨w.heap.size,0,none⟩)]) Am yT ?_;refine(aqo w.heap.size (.int .i64 0) n u M).mono ?_;rintro e u' w'' ⟨rfl,rfl,J,h4⟩;exact⟨.int .i64 n,abI w.heap.size n _ h4 _ rfl,rfl,z _ n J⟩
def abZ {T:Type} {res:T→AV} (g:FuncId) (j:List D) (r:Except Value T) (hr:OZ Tryz.prog g (j.map .d) r res) (M:DV Tryz.prog g=true) (n:Int) (z:SA r=some n):
 BF 81 [.d (.fn (.func g) [] j)] [] (.d (Ac n)) []:=by
 intro ok X H w J hm hs ha;obtain rfl:H=[]:=GN hm.hlen;have h0:=ha 0 Am
 obtain⟨fv,rfl⟩:∃fv,J= #[fv]:=by
  have h1:J.size=1:=hs;exact⟨J[0],by apply YL (by simp[h1]);intro i h1 h2;simp at h2;subst h2;rfl⟩
 have h0:R ok w [] (.d (.fn (.func g) [] j)) fv:=h0;cases h0 with
 |d _ _ h0=>
 cases h0 with
 |fn _ _ _ vs us hl1 hl2 h1 h2=>
 obtain rfl:vs= #[]:=Yx (by simpa using hl1);obtain⟨I,Y⟩:∃I,I=w.alloc (.cells #[.int .i64 0] 40 (0,0)):=⟨_,rfl⟩
 have hg1:Dz ok w ok I:=fun b U=>⟨U,by rw[Y];exact J7 _ _ _ (hm.jM b U)⟩
 have hmc:CS ⟨I,ok,[],[]⟩ ok [] [] I:=
  ⟨.refl _ _,fun _ h=>h,fun _ h=>.inl h,fun b U=>by rw[Y];simp;exact Nat.lt_succ_of_lt (hm.jM b U),.refl _,rfl,fun k e h M=>uM,fun k e h b M=>uM,fun k k' e e' h h' b M=>uM⟩
 have L:∀i,i<(j.map AV.d).length→R ok I [] ((j.map AV.d).getD i .junk) (us.getD i undef):=fun i hi=>by
  rw[C9]at hi;have e1:(j.map AV.d).getD i .junk=.d (j.getD i D8):=LX
  rw[e1];exact .d _ _ ((h2 i hi).mono hg1)
 have hgr:∀{Z:Nat→Prop} {H2:List BJ} {w2:World},CS ⟨I,ok,[],[]⟩ Z H2 [] w2→I.grownBy w2 none:=fun q=>⟨q.fr.os,q.fr.tape,q.fr.output,q.fr.size,fun b U _=>q.fr.block b U Am⟩
 have hcall:Calls Tryz.prog g us I fun e w2=>I.grownBy w2 none∧((∃v,e=.returned v∧n=0)∨e=.panicked [{ v:=.iface 165 (.agg #[.int .i64 n]),recovered:=false }]):=by
  cases O:r with
  |ok x=>
   rw[O]at z;refine(hr.1 x O ok [] [] I us hmc (by simpa using hl2) L).mono ?_;rintro e w2 ⟨v,Z,H2,rfl,q,_⟩;exact⟨hgr q,.inl ⟨v,rfl,(CG z).symm⟩⟩
  |error u=>
   rw[O]at z
   have hu:u=.iface 165 (.agg #[.int .i64 n]):=by
    unfold SA at z;split at z
    ·rename_i h;cases h
    ·rename_i t cs h;cases h;cases ht:(t==165)with
     |false=>rw[ht]at z;cases z
     |true=>
      rw[ht]at z;simp only[BA]at z;obtain rfl:t=165:=by simpa using ht
      split at z
      ·rename_i m hcs;obtain rfl:=CG z;rw[←eL (xs:=cs),hcs]
      cases z
    cases z
   refine(hr.2 u O ok [] [] I us hmc (by simpa using hl2) L).mono ?_;rintro e w2 ⟨Z,H2,rfl,q⟩;exact⟨hgr q,.inr (by rw[hu])⟩
 subst Y;refine(asu (fun vs w=>RI M vs w) hcall).mono ?_;rintro e w' ⟨rfl,hg⟩;obtain⟨m1,_⟩:=hm.change (ok':=ok) (H':=[]) (es':=[]) (w':=w') (fun _=>False) hg.os hg.tape hg.output hg.size (fun b U _=>hg.block b U Am) (fun _ h=>h.elim) (fun _ h=>h) (fun _ h=>.inl h) (.refl _) rfl (fun k e h M=>uM);exact⟨_,ok,[],rfl,m1,.d _ _ (.lit _)⟩
def setCell_eq {w:World} {b:Nat} {x y:Value} {t:TypeId} (j:w.heap[b]? =some (.cells #[x] t (0,0))):w.setCell ⟨b,0,none⟩ y=w.putObj b (.cells #[y] t (0,0)):=by
 simp only[World.setCell,World.putObj];congr 1;apply mG;intro i;rw[Nl,aF5];by_cases e:b=i
 ·subst e;rw[CJ rfl,CJ rfl,j,CJ (FX.1 j).1];rfl
 rw[CU e,CU e]
def ahu (p q:Addr) (w:World):
 CallsD Tryz.prog 401 #[.pointer (some p),.pointer (some q)] .returning w fun e j w'=>e=.returned (.tuple #[])∧j=.returning∧w'=w:=by
 refine aC7 Tryz.func401 rfl fun m cs u=>?_;apply Oc;apply OW;simp[wpOpsS,go_sem,recoverD,u,Tryz.ntmps401,Exit.thenS];apply Oc;apply OW;simp[wpOpsS,go_sem,Exit.thenS];refine bY (t:=false) dI ?_;simp only[Qb,JC];refine wpS_of_wp (wp_skip ?_);cases m
 simp_all [bodyPostS,results,Tryz.results401]
def alz (b c:Nat) (ad:Option Addr) (n cap:Nat) (x:Value) (w:World) (U:w.heap[b]? =some (.cells #[.slice ad n cap] 52 (0,0))) (Y:w.heap[c]? =some (.cells #[x] 52 (0,0))):
 CallsD Tryz.prog 401 #[.pointer (some ⟨b,0,none⟩),.pointer (some ⟨c,0,none⟩)] (.panicking [{ v:=.iface 331 (.agg #[]),recovered:=false }]) w fun e Z w'=>
  e=.returned (.tuple #[])∧Z=.panicking [{ v:=.iface 331 (.agg #[]),recovered:=true }]∧w.grownBy w' (some c)∧w'.heap[c]? =some (.cells #[.slice ad n cap] 52 (0,0)):=by
 have m:∀(t0:TypeId) (w:World),(Instr.typeAssert (.iface 331 (.agg #[])) t0 331 true).run Tryz.prog w=.ok (.tuple #[.agg #[],.bool true]) w:=fun _ _=>AA
 refine aC7 Tryz.func401 rfl fun c₀ cs hu=>?_;apply Oc;apply OW;simp[wpOpsS,go_sem,recoverD,hu,Tryz.ntmps401,Exit.thenS];apply Oc;apply OW;simp[wpOpsS,go_sem,Exit.thenS];refine bY (t:=true) dI ?_;simp only[J5];apply Oc;apply Oc;apply OW;simp[wpOpsS,execOp,m,go_sem,Exit.thenS];apply Oc;apply OW;simp[wpOpsS,go_sem,Exit.thenS];refine bY (t:=false) dI ?_;simp only[Qb,JC];refine wpS_of_wp (wp_skip ?_);simp only[Exit.thenS];have q:b<w.heap.size:=(FX.1 U).1;have u:c<w.heap.size:=(FX.1 Y).1;have z:(w.alloc (.cells #[] 331)).heap[b]? =some (.cells #[.slice ad n cap] 52 (0,0)):=(J7 _ _ _ q).trans U;have j:(w.alloc (.cells #[] 331)).heap[c]? =some (.cells #[x] 52 (0,0)):=(J7 _ _ _ u).trans Y;have I:(w.alloc (.cells #[] 331)).cell? ⟨b,0,none⟩=some (.slice ad n cap):=by rw[World.cell?,z];rfl
 have J:(w.alloc (.cells #[] 331)).cell? ⟨c,0,none⟩=some x:=aCs
 have L:(w.alloc (.cells #[] 331)).frozen? ⟨c,0,none⟩=false:=by simp[World.frozen?,j]
 apply OW;simp[wpOpsS,go_sem,Exit.thenS,I,J,L,bodyPostS,results,Tryz.results401];rw[setCell_eq j];have M:c<(w.alloc (.cells #[] 331)).heap.size:=(FX.1 j).1;refine⟨⟨rfl,rfl,rfl,Am,fun i hi O=>?_⟩,V8 M⟩;rw[Xc (fun e=>O (by rw[e]))];exact J7 _ _ _ hi
def step_fin (b:Nat) (v:Value) (w:World) (j:w.heap[b]? =some (.cells #[v] 52 (0,0))) (tmps:Array Value) (m:tmps.getD 6 undef=.pointer (some ⟨b,0,none⟩)):(results Tryz.f378 tmps).run Tryz.prog w=.ok v w:=by
 have q:w.cell? ⟨b,0,none⟩=some v:=aCs
 have e:results Tryz.f378 tmps=(do let v ←loadVar 52 (←asAddr (tmps.getD 6 undef));pure v):=by simp[results,Tryz.results378]
 rw[e,m];simp[go_sem,q]
def akq {l id:Value} {ad:Option Addr} {n cap:Nat} {w:World} {Rv:Value→World→Prop} {bad:Prop}
 (z:Calls Tryz.prog 402 #[l,.slice ad n cap,id] ((w.alloc (.cells #[.slice ad n cap] 52 (0,0))).alloc (.cells #[.slice none 0 0] 52 (0,0))) fun e j=>((w.alloc (.cells #[.slice ad n cap] 52 (0,0))).alloc (.cells #[.slice none 0 0] 52 (0,0))).grownBy j none∧((∃J n' m,e=.returned (.slice J n' m)∧Rv (.slice J n' m) j)∨(e=.panicked [{ v:=.iface 331 (.agg #[]),recovered:=false }]∧bad))):
 Calls Tryz.prog 378 #[l,.slice ad n cap,id] w fun e w'=>w.grownBy w' none∧((∃v j,e=.returned v∧Rv v j∧w.grownBy j none∧w.heap.size+1<j.heap.size∧j.grownBy w' (some (w.heap.size+1)))∨(e=.returned (.slice ad n cap)∧bad)):=by
 have hmf:∀(fn:Fn) (first cap:Array Value) (w:World),(Instr.makeFunc fn first cap).run Tryz.prog w=.ok (.func fn first cap) w:=fun _ _ _ _=>rfl;obtain⟨O,q⟩:∃O,O=(w.alloc (.cells #[.slice ad n cap] 52 (0,0))).alloc (.cells #[.slice none 0 0] 52 (0,0)):=⟨_,rfl⟩
 have hs1:O.heap.size=w.heap.size+2:=by rw[q];simp
 have Y:O.heap[w.heap.size]? =some (.cells #[.slice ad n cap] 52 (0,0)):=by rw[q];exact(J7 _ _ _ Am).trans (gV w _)
 have h1c:O.heap[w.heap.size+1]? =some (.cells #[.slice none 0 0] 52 (0,0)):=by
  have :=gV (w.alloc (.cells #[.slice ad n cap] 52 (0,0))) (.cells #[.slice none 0 0] 52 (0,0));rw[aIa]at this;rw[q];exact this
 have I:w.grownBy O none:=by
  rw[q];exact⟨rfl,rfl,rfl,DK,fun i hi _=>(J7 _ _ _ DK).trans (J7 _ _ _ hi)⟩
 have hcb:O.cell? ⟨w.heap.size,0,none⟩=some (.slice ad n cap):=by rw[World.cell?,Y];rfl
 rw[←q]at z
 go_enter_defers Tryz.func378,Tryz.ntmps378
 apply wp_seq;apply YX;refine .inl ?_;simp[Oper.wp,go_sem,wpList,Exit.then];rw[←q];have he:∀(vs:Array Value) (w:World),(callFunc 402 vs).run Tryz.prog w=.ok (.enter 402 vs) w:=fun vs w=>RI (P:=Tryz.prog) (f:=402) AA vs w;refine .inl ?_;apply wp_seq;apply YX;refine .inl ?_;simp[Oper.wp,go_sem,hmf,wpList,Exit.then];refine .inl ?_;apply wp_seq;apply YX;refine .inl ?_;simp[Oper.wp,go_sem,wpList,Exit.then,hcb,he];refine .inl (.inl (.inl (z.mono ?_)));rintro e j ⟨U,h⟩;have hb:j.heap[w.heap.size]? =some (.cells #[.slice ad n cap] 52 (0,0)):=(U.block _ A8 Am).trans Y;have Z:j.heap[w.heap.size+1]? =some (.cells #[.slice none 0 0] 52 (0,0)):=(U.block _ A8 Am).trans h1c;have hcl:w.heap.size+1<j.heap.size:=(FX.1 Z).1;have u:w.grownBy j none:=⟨U.os.trans I.os,U.tape.trans I.tape,U.output.trans I.output,EZ I.size U.size,fun i hi hn=>(U.block i A8 hn).trans (I.block i hi hn)⟩
 have M:∀(w3:World),j.grownBy w3 (some (w.heap.size+1))→w.grownBy w3 none:=fun w3 L=>⟨L.os.trans u.os,L.tape.trans u.tape,L.output.trans u.output,EZ u.size L.size,fun i hi hn=>(L.block i A8 DK).trans (u.block i hi hn)⟩
 rcases h with⟨J,n',m,rfl,hv⟩|⟨rfl,hbad⟩
 ·have hcc:j.cell? ⟨w.heap.size+1,0,none⟩=some (.slice none 0 0):=by rw[World.cell?,Z];rfl
  have hfz:j.frozen? ⟨w.heap.size+1,0,none⟩=false:=by simp[World.frozen?,Z]
  simp[hcc,hfz,go_sem,wpList,Exit.then];refine .inl (wp_ret ?_);rw[setCell_eq Z];refine leaves_cons (f:=401) (args:= #[.pointer (some ⟨w.heap.size,0,none⟩),.pointer (some ⟨w.heap.size+1,0,none⟩)]) Am yT ?_;refine(ahu ⟨w.heap.size,0,none⟩ ⟨w.heap.size+1,0,none⟩ _).mono ?_;rintro e u' w'' ⟨rfl,rfl,rfl⟩;have L:j.grownBy (j.putObj (w.heap.size+1) (.cells #[.slice J n' m] 52 (0,0))) (some (w.heap.size+1)):=⟨rfl,rfl,rfl,Am,fun i hi hne=>Xc (fun e=>hne (by rw[e]))⟩
  exact⟨.slice J n' m,step_fin (w.heap.size+1) _ _ (V8 hcl) _ rfl,M _ L,.inl ⟨_,rfl,j,hv,u,hcl,L⟩⟩
 refine leaves_cons (f:=401) (args:= #[.pointer (some ⟨w.heap.size,0,none⟩),.pointer (some ⟨w.heap.size+1,0,none⟩)]) Am yT ?_;refine(alz w.heap.size (w.heap.size+1) ad n cap (.slice none 0 0) j hb Z).mono ?_;rintro e u' w'' ⟨rfl,rfl,L,h4⟩;exact⟨.slice ad n cap,step_fin (w.heap.size+1) _ _ h4 _ rfl,M _ L,.inr ⟨rfl,hbad⟩⟩
def Fn2 {T:Type} (s:T):Except Value T→Option T
 | .ok x=>some x
 | .error (.iface t (.agg cs))=>bif t==331&&cs.toList.isEmpty then some s else none
 | .error _=>none
def ahg {T:Type} (enc:T→List D) (dl di:D) (s:T) (r:Except Value T) (hr:OZ Tryz.prog 402 [.d dl,.d (.sl (enc s)),.d di] r (fun x=>.d (.sl (enc x)))) (M:T) (Y:Fn2 s r=some M):
 BF 378 [.d dl,.d (.sl (enc s)),.d di] [] (.d (.sl (enc M))) []:=by
 intro ok X H w z hm hs ha;obtain rfl:H=[]:=GN hm.hlen;have hsz:z.size=3:=hs
 obtain⟨l,sv,id,rfl⟩:∃l sv id,z= #[l,sv,id]:=⟨z[0],z[1],z[2],by
  apply YL (by simp[hsz]);intro i h1 h2
  match i,h2 with
  |0,_=>rfl
  |1,_=>rfl
  |2,_=>rfl⟩
 have a0:R ok w [] (.d dl) l:=ha 0 Am;have a1:R ok w [] (.d (.sl (enc s))) sv:=ha 1 Am;have a2:R ok w [] (.d di) id:=ha 2 Am
 have slv:∀{ok:Nat→Prop} {w:World} {H:List BJ} {xs:List D} {v:Value},R ok w H (.d (.sl xs)) v→∃ad n cap,v=.slice ad n cap:=fun h=>by
  cases h with
  |d _ _ h=>cases h with
   |sl0 ad cap=>exact⟨_,_,_,rfl⟩
   |sl=>exact⟨_,_,_,rfl⟩
 obtain⟨ad,n,cap,rfl⟩:=slv a1;obtain⟨I,Z⟩:∃I,I=(w.alloc (.cells #[.slice ad n cap] 52 (0,0))).alloc (.cells #[.slice none 0 0] 52 (0,0)):=⟨_,rfl⟩
 have hs1:I.heap.size=w.heap.size+2:=by rw[Z];simp
 have hg1:Dz ok w ok I:=fun b q=>⟨q,by rw[Z];exact(J7 _ _ _ (by have h:=hm.jM b q;rw[aIa];omega)).trans (J7 _ _ _ (hm.jM b q))⟩
 have hmc:CS ⟨I,ok,[],[]⟩ ok [] [] I:=
  ⟨.refl _ _,fun _ h=>h,fun _ h=>.inl h,fun b q=>by have h:=hm.jM b q;rw[hs1];omega,.refl _,rfl,fun k e h he=>by simp at he,fun k e h b he=>by simp at he,fun k k' e e' h h' b he=>by simp at he⟩
 have O:∀i,i<3→R ok I [] ([AV.d dl,.d (.sl (enc s)),.d di].getD i .junk) ((#[l,.slice ad n cap,id]:Array Value).getD i undef):=fun i hi=>by
  match i,hi with
  |0,_=>exact a0.mono hg1 (.refl _)
  |1,_=>exact a1.mono hg1 (.refl _)
  |2,_=>exact a2.mono hg1 (.refl _)
 have hgr:∀{j:Nat→Prop} {H2:List BJ} {L:World},CS ⟨I,ok,[],[]⟩ j H2 [] L→I.grownBy L none:=fun m=>⟨m.fr.os,m.fr.tape,m.fr.output,m.fr.size,fun b q _=>m.fr.block b q Am⟩
 have U:Calls Tryz.prog 402 #[l,.slice ad n cap,id] I fun e L=>I.grownBy L none∧((∃ad' n' J,e=.returned (.slice ad' n' J)∧∃x j,r=.ok x∧CS ⟨I,ok,[],[]⟩ j [] [] L∧DF j L (.sl (enc x)) (.slice ad' n' J))∨(e=.panicked [{ v:=.iface 331 (.agg #[]),recovered:=false }]∧M=s)):=by
  cases hrr:r with
  |ok x=>
   refine(hr.1 x hrr ok [] [] I _ hmc rfl O).mono ?_;rintro e L ⟨v,j,H2,rfl,m,hR⟩;obtain⟨ad',n',J,rfl⟩:=slv hR;obtain rfl:H2=[]:=GN m.hlen;exact⟨hgr m,.inl ⟨ad',n',J,rfl,x,j,rfl,m,by cases hR with |d _ _ h=>exact h⟩⟩
  |error u=>
   rw[hrr]at Y
   have hu:u=.iface 331 (.agg #[])∧M=s:=by
    unfold Fn2 at Y;split at Y
    ·rename_i h;cases h
    ·rename_i t cs h;cases h;cases ht:(t==331&&cs.toList.isEmpty)with
     |false=>rw[ht]at Y;cases Y
     |true=>
      rw[ht]at Y;simp only[CV]at ht;obtain rfl:t=331:=by simpa using ht.1
      have :cs= #[]:=by rw[←eL (xs:=cs),List.isEmpty_iff.1 ht.2]
      subst this;exact⟨rfl,(CG Y).symm⟩
    cases Y
   refine(hr.2 u hrr ok [] [] I _ hmc rfl O).mono ?_;rintro e L ⟨j,H2,rfl,m⟩;exact⟨hgr m,.inr ⟨by rw[hu.1],hu.2⟩⟩
 rw[Z]at U;refine(akq U (Rv:=fun v L=>∃x j,r=.ok x∧CS ⟨_,ok,[],[]⟩ j [] [] L∧DF j L (.sl (enc x)) v) (bad:=M=s)).mono ?_;rw[←Z];rintro e w' ⟨hg,h⟩
 have mk:∀(j:Nat→Prop),(∀b,ok b→j b)→(∀b,j b→ok b∨(w.heap.size≤b∧b<w'.heap.size))→CS ⟨w,ok,X,[]⟩ j [] [] w':=fun j h1 h2=>
  (hm.change (ok':=j) (H':=[]) (es':=[]) (w':=w') (fun _=>False) hg.os hg.tape hg.output hg.size (fun b q _=>hg.block b q Am) (fun _ h=>h.elim) h1 h2 (.refl _) rfl (fun k e h he=>by simp at he)).1
 rcases h with⟨v,L,rfl,⟨x,j,hx,m,hD⟩,hg2,hlt,h3⟩|⟨rfl,rfl⟩
 ·rw[hx]at Y;obtain rfl:=CG Y
  have hgg:Dz j L j w':=fun b q=>⟨q,h3.block b (m.jM b q) (fun e=>by
   obtain rfl:=CG e;rcases m.xw _ q with h|h|h
   ·have :=hm.jM _ h;omega
   ·simp only at h;omega
   simp at h)⟩
  refine⟨v,j,[],rfl,mk j m.xu (fun b q=>?_),.d _ _ (hD.mono hgg)⟩;rcases m.xw b q with h|h|h
  ·exact .inl h
  ·simp only at h;exact .inr ⟨A8,Vh (m.jM b q) h3.size⟩
  simp at h
 have hgg:Dz ok w ok w':=fun b q=>⟨q,hg.block b (hm.jM b q) Am⟩
 exact⟨_,ok,[],rfl,mk ok (fun _ h=>h) (fun _ h=>.inl h),a1.mono hgg (.refl _)⟩
end Go.Proofs.YtkkdimcnpacjhaaGreat
end
section
namespace Go.Proofs
open Go.Proofs.YtkkdimcnpacjhaaGreat
open Go.Shelf
def Tryz.Xb:Go.Shelf.Ren:=⟨fun |6=>438|15=>124|14=>442|28=>215|29=>216|20=>443|21=>444|22=>445|23=>446|24=>447|25=>448|26=>449|27=>450|46=>451|47=>307|48=>308|49=>452|50=>453|57=>454|n=>n,fun |22=>358|24=>360|25=>362|3=>3|39=>148|0=>0|53=>212|55=>214|4=>4|46=>206|45=>205|50=>47|5=>5|9=>9|66=>279|70=>283|76=>305|77=>306|n=>n,fun |n=>n⟩
def Tryz.apI:SlLaysF0.n6 Tryz.prog Tryz.Xb:={
 mixed:=AA
 f6:=⟨Tryz.f438.name,BK,Tryz.func438.trans (BH some AA)⟩
 f14:=⟨Tryz.f442.name,BK,Tryz.func442.trans (BH some AA)⟩
 f15:=Tryz.func124.trans (BH some AA)
 f20:=⟨Tryz.f443.name,BK,Tryz.func443.trans (BH some AA)⟩
 f21:=⟨Tryz.f444.name,BK,Tryz.func444.trans (BH some AA)⟩
 f22:=⟨Tryz.f445.name,BK,Tryz.func445.trans (BH some AA)⟩
 f23:=⟨Tryz.f446.name,BK,Tryz.func446.trans (BH some AA)⟩
 f24:=⟨Tryz.f447.name,BK,Tryz.func447.trans (BH some AA)⟩
 f25:=⟨Tryz.f448.name,BK,Tryz.func448.trans (BH some AA)⟩
 f26:=⟨Tryz.f449.name,BK,Tryz.func449.trans (BH some AA)⟩
 f27:=⟨Tryz.f450.name,BK,Tryz.func450.trans (BH some AA)⟩
 f28:=Tryz.func215.trans (BH some AA)
 f29:=Tryz.func216.trans (BH some AA)
 f46:=⟨Tryz.f451.name,BK,Tryz.func451.trans (BH some AA)⟩
 f47:=Tryz.func307.trans (BH some AA)
 f48:=Tryz.func308.trans (BH some AA)
 f49:=⟨Tryz.f452.name,BK,Tryz.func452.trans (BH some AA)⟩
 f50:=⟨Tryz.f453.name,BK,Tryz.func453.trans (BH some AA)⟩
 f57:=⟨Tryz.f454.name,BK,Tryz.func454.trans (BH some AA)⟩
 t0:=Tryz.underlying0
 a0:=Tryz.isAgg0
 z0:=Tryz.sizeOf0
 v0:=Tryz.zeroValue0
 t3:=Il
 a3:=Zl
 z3:=aQ
 v3:=aO
 t4:=XI
 a4:=mY
 z4:=oW
 v4:=mD
 t5:=kV
 a5:=lR
 z5:=sD
 v5:=tJ
 t9:=Ox
 a9:=uV
 z9:=sG
 v9:=uD
 t22:=Tryz.underlying358
 a22:=Tryz.isAgg358
 z22:=Tryz.sizeOf358
 v22:=Tryz.zeroValue358
 t25:=Tryz.underlying362
 a25:=Tryz.isAgg362
 z25:=Tryz.sizeOf362
 v25:=Tryz.zeroValue362
 t39:=aC3
 a39:=Tryz.isAgg148
 z39:=aAm
 v39:=xG
 t45:=Tryz.underlying205
 a45:=Tryz.isAgg205
 z45:=Tryz.sizeOf205
 v45:=Tryz.zeroValue205
 t46:=Tryz.underlying206
 a46:=Tryz.isAgg206
 z46:=Tryz.sizeOf206
 v46:=Tryz.zeroValue206
 t50:=Tryz.underlying47
 a50:=Tryz.isAgg47
 z50:=Tryz.sizeOf47
 v50:=Tryz.zeroValue47
 t53:=aDY
 a53:=Tryz.isAgg212
 z53:=wH
 v53:=aAE
 t55:=Tryz.underlying214
 a55:=Tryz.isAgg214
 z55:=Tryz.sizeOf214
 v55:=Tryz.zeroValue214
 t66:=Tryz.underlying279
 a66:=Tryz.isAgg279
 z66:=Tryz.sizeOf279
 v66:=Tryz.zeroValue279
 t70:=Tryz.underlying283
 a70:=Tryz.isAgg283
 z70:=Tryz.sizeOf283
 v70:=Tryz.zeroValue283
 t76:=Tryz.underlying305
 a76:=Tryz.isAgg305
 z76:=Tryz.sizeOf305
 v76:=Tryz.zeroValue305
 t77:=Tryz.underlying306
 a77:=Tryz.isAgg306
 z77:=Tryz.sizeOf306
 v77:=Tryz.zeroValue306 }
end Go.Proofs
end
