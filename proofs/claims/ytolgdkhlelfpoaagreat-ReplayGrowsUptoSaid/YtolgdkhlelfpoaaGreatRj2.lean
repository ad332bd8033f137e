/- Part 2 of what the laws' proofs lean on: states of the walk, typed functions of the program and their laws (short forms written by wip/shrink.py; no condition). -/
import Derived.Test.YtolgdkhlelfpoaaGreatRj1
set_option linter.defProp false
set_option linter.unnecessarySimpa false
set_option linter.unusedVariables false
set_option linter.unusedSimpArgs false
section
namespace Go.Proofs.YtolgdkhlelfpoaaGreat
open Go.RowKit
section
variable {P : Program} {o : Oper} {es : List BH}
def aAM {ns:List (Operand×Ac)} {v:Ac} {es':List BH} (e:TypeId) (size:Nat) (h:Bc P o ((.const (.slice none 0 0),.aS es.length)::ns) (es++[.arr e size []]) v es'):Bc P o ns es v es':=by
 intro C ok H a w Q q s;obtain⟨u,z⟩:=aEO q e size;refine Oper.wp_mono ?_ (h C ok _ a w Q u (fun n f=>?_))
 ·rintro a' w' ⟨v',ok',H',I,J,j,m,L⟩;exact⟨v',ok',H',I,J,(Names.push _ _).trans j,m,L⟩
 rcases Ew.1 f with rfl|f
 ·exact z
 exact(s n f).mono (.refl _ _) (Names.push _ _)
def R.abG {ok:Nat→Prop} {w:World} {H:List Ba} {us:List Value} {v:Value} (h:R ok w H (.d (.agg (us.map .lit))) v):v=.agg us.toArray:=by
 cases h with
 |d _ _ h=>
  cases h with
  |agg _ vs hl _ h=>
   congr 1;apply Xd
   ·simpa using hl
   intro i m z;have hi:i<(us.map D.lit).length:=AL
   have f:=h i hi;have j:i<us.length:=FX
   have q:(us.map D.lit).getD i DR=.lit (us[i]):=iy
   have s:vs.getD i undef=vs[i]:=by simp[Array.getD,m]
   rw[q,s]at f;generalize vs[i]=u at f;cases f;simp
structure Zl (P:Program) (n:Nat) (t:TypeId) (us vs:List Value) (b:Bool):Prop where
 run:∀(d:Nat) (w:World),(Op.equalIn (d+n) t (.agg us.toArray) (.agg vs.toArray)).run P w=.ok b w
def KJ {t:TypeId} {cs:Array Value} {off:Nat} {v:Value} {size:Nat} (f:Dc P t false size) (h:cs[off]? =some v) (w:World):(part t cs off).run P w=.ok v w:=by
 simp[part,f.agg,h]
def UY (d:Nat) (xs ys:Array Value):List (TypeId×Nat)→Sem Bool
 | []=>pure true
 |f::j=>do
  let a ←part f.1 xs f.2
  let b ←part f.1 ys f.2
  let r ←Op.equalIn d f.1 a b
  if(!r)=true then pure false else UY d xs ys j
def adh (d:Nat) (xs ys:Array Value):∀(j:List Field),j.all (fun f=>f.name != "_")=true→Op.eqFields d xs ys j=UY d xs ys (j.map fun f=>(f.type,f.offset))
 | [],_=>rfl
 |f::j,h=>by
  simp only[qw,CP,bne_iff_ne,ne_eq]at h;simp only[Op.eqFields,JD,UY,ne_eq,h.1,not_false_eq_true,KD,adh d xs ys j h.2]
def xE {d:Nat} {t:TypeId} {xs ys:Array Value} {l:List (TypeId×Nat)} {b:Bool} {w:World} (j:P.underlying t=some (.struct (P.fieldsOf t))) (m:P.stoodInHeld t=false) (q:(P.fieldsOf t).toList.all (fun f=>f.name != "_")=true)
 (hl:(P.fieldsOf t).toList.map (fun f=>(f.type,f.offset))=l) (h:(UY d xs ys l).run P w=.ok b w):(Op.equalIn (d+1) t (.agg xs) (.agg ys)).run P w=.ok b w:=by
 rw[run_equalIn_struct w d t xs ys j m,adh _ _ _ _ q,hl,h]
def aB8 (d:Nat) (xs ys:Array Value) (w:World):(UY d xs ys []).run P w=.ok true w:=by simp[UY]
def Ty {d:Nat} {xs ys:Array Value} {t:TypeId} {off:Nat} {f:List (TypeId×Nat)} {a b:Value} {r rs:Bool} {w:World} (ha:(part t xs off).run P w=.ok a w) (j:(part t ys off).run P w=.ok b w)
 (m:(Op.equalIn d t a b).run P w=.ok r w) (q:(UY d xs ys f).run P w=.ok rs w):(UY d xs ys ((t,off)::f)).run P w=.ok (r&&rs) w:=by
 unfold UY;simp only[Ei,ha,j,m,Ep];cases r<;>simp[q]
def aip {t t':TypeId} {x y:Operand} {n:Nat} (us vs:List Value) {b:Bool} (h:Zl P n t us vs b) (hd:n≤10000) (s:P.eqGuardType P.depth t=false) (u:o.op=.binOp .eql t x y t'):
 Bc P o [(x,.d (.agg (us.map .lit))),(y,.d (.agg (vs.map .lit)))] es (.d (Cj b)) es:=
 .pure fun _ _ a w _ _ j=>⟨.bool b,by
  have m:=(EN j).1.abG;have q:=(EN j).2.abG;simp only at m q;have f:(eqGuard .eql t x y (.agg us.toArray) (.agg vs.toArray)).run P w=.ok () w:=by simp[eqGuard,s]
  simp only[execOp,u,m,q,Ei,f,Ep,FT,run_eql_struct,(by have :=h.run (10000-n) w;rwa [Nat.sub_add_cancel hd]at this:(Op.equalIn 10000 t (.agg us.toArray) (.agg vs.toArray)).run P w=.ok b w)],.d _ _ (.lit _)⟩
def aEs {t t':TypeId} {x y:Operand} {n:Nat} (us vs:List Value) {b:Bool} (h:Zl P n t us vs b) (hd:n≤10000) (s:P.eqGuardType P.depth t=false) (u:o.op=.binOp .neq t x y t'):
 Bc P o [(x,.d (.agg (us.map .lit))),(y,.d (.agg (vs.map .lit)))] es (.d (Cj (!b))) es:=
 .pure fun _ _ a w _ _ j=>⟨.bool (!b),by
  have m:=(EN j).1.abG;have q:=(EN j).2.abG;simp only at m q;have f:(eqGuard .neq t x y (.agg us.toArray) (.agg vs.toArray)).run P w=.ok () w:=by simp[eqGuard,s]
  simp only[execOp,u,m,q,Ei,f,Ep,FT,run_neq_struct,(by have :=h.run (10000-n) w;rwa [Nat.sub_add_cancel hd]at this:(Op.equalIn 10000 t (.agg us.toArray) (.agg vs.toArray)).run P w=.ok b w)],.d _ _ (.lit _)⟩
def OE (l:List Int):ByteArray:=l.foldl (fun r n=>r.push (UInt8.ofNat n.toNat)) ByteArray.empty
def arw {ok:Nat→Prop} {w:World} {H:List Ba} {l:List Int} {f:List Value} (h:FH ok w H (flat (l.map CV)) f):f=l.map (.int .u8):=by
 rw[yg]at h;apply Z9
 ·simpa using h.1
 intro i q s;have hi:i<(l.map fun n=>Ac.d (CV n)).length:=VJ
 have m:=(h.2 i hi).2;have j:i<l.length:=FX
 have u:(l.map fun n=>Ac.d (CV n)).getD i .junk=.d (CV l[i]):=iy
 have z:f.getD i undef=f[i]:=vX
 rw[u,z]at m;have :=m.lit;simpa using this
def ag0 {w:World} {v:Value} {m:Nat} {l:List Int} (h:VK w v m 1 (l.map (.int .u8))):(Conv.bytesToString v).run P w=.ok (.string (OE l)) w:=by
 rcases h.at_ with⟨ad,c,rfl,f⟩|⟨c,rfl,j⟩
 ·refine run_bytesToString w ad m c l ?_;have hl:=h.len;have :=aCP (P:=P) w ad (l.map (Value.int .u8)) f;rw[Ch,YJ]at hl;rw[Ch,hl]at this;exact this
 have hl:=h.len;rw[j,Nat.zero_mul,Ch]at hl;rw[GY hl];simp[Conv.bytesToString,OE]
def Value.isSlice:Value→Bool
 | .slice _ _ _=>true
 |_=>false
def aei {w:World} {v:Value} {m size:Nat} {f:List Value} (h:VK w v m size f):Value.isSlice v=true:=by
 rcases h.at_ with⟨_,_,rfl,_⟩|⟨_,rfl,_⟩<;>rfl
def aiq {s t e:TypeId} {v:Value} {w:World} {r:ByteArray} (f:P.underlying s=some (.slice e)) (j:P.underlying e=some (.int .u8)) (m:P.underlying t=some .string) (q:Value.isSlice v=true)
 (h:(Conv.bytesToString v).run P w=.ok (.string r) w):(convert s t v).run P w=.ok (.string r) w:=by
 cases v<;>simp[Value.isSlice]at q
 simp[convert,underlying,f,j,m,h]
def aaD {s t e:TypeId} {x:Operand} {l:List Int} (z:P.underlying s=some (.slice e)) (I:P.underlying e=some (.int .u8)) (J:P.underlying t=some .string) (L:o.op=.convert s t x):
 Bc P o [(x,.d (Ai CV l))] es (.d (CQ (OE l))) es:=
 .pure fun ok H a w _ _ M=>by
  have j:=J6 M;simp only at j;generalize O:a.eval x=v at j;refine⟨.string (OE l),?_,.d _ _ (.lit _)⟩;cases j with
  |d _ _ h=>
   obtain⟨u,f,m⟩:=aK H h (size:=1) (fun y U=>by obtain⟨n,_,rfl⟩:=F7.1 U;rfl);obtain rfl:=arw m;have q:=aei f;simp[execOp,L,O,aiq z I J q (ag0 f)]
def OJ {fn:Fn} {firsts f:Array Operand} {fi ca:List Ac} (hl:firsts.toList.length=fi.length) (q:f.toList.length=ca.length) (u:o.op=.makeFunc fn firsts f):
 Bc P o (Ef firsts.toList fi++Ef f.toList ca) es (.fn fn fi ca) es:=
 .pure fun ok H a w _ _ j=>by
  have key:∀(xs:Array Operand) (vs:List Ac),xs.toList.length=vs.length→(∀n∈Ef xs.toList vs,R ok w H n.2 (a.eval n.1))→∀i,i<vs.length→R ok w H (vs.getD i .junk) ((xs.map a.eval).getD i undef):=by
   intro xs vs hl j i hi;have s:=kZ hl j i hi
   have m:i<xs.size:=by have :xs.size=vs.length:=KX
                        omega
   have z:(xs.toList.map a.eval).getD i undef=(xs.map a.eval).getD i undef:=by simp[List.getD,Array.getD,m]
   rw[z]at s;exact s
  refine⟨.func fn (firsts.map a.eval) (f.map a.eval),by simp[execOp,u,Instr.makeFunc],.fn fn fi ca _ _ KX KH (key _ _ hl fun n h=>j n (by simp[h])) (key _ _ q fun n h=>j n (by simp[h]))⟩
def aDF :∀{xs:List Operand} {vs:List Ac} {ys:List Operand} {us:List Ac},xs.length=vs.length→Ef (xs++ys) (vs++us)=Ef xs vs++Ef ys us
 | [],[],_,_,_=>rfl
 | [],_::_,_,_,h=>Gw
 |_::_,[],_,_,h=>Gw
 |x::xs,v::vs,ys,us,h=>by simp[Ef,aDF (xs:=xs) (vs:=vs) Jf]
def aHn {ok:Nat→Prop} {w:World} {H:List Ba} {a:Act}:∀{us:List Value} {vs:List Ac},us.length=vs.length→(∀i,i<vs.length→R ok w H (vs.getD i .junk) (us.getD i undef))→∀n∈Ef (us.map Operand.const) vs,R ok w H n.2 (a.eval n.1)
 | [],[],_,_,n,f=>by simp[Ef]at f
 | [],_::_,h,_,_,_=>Gw
 |_::_,[],h,_,_,_=>Gw
 |u::us,v::vs,hl,h,n,f=>by
  simp only[JD,Ef,Ew]at f;rcases f with rfl|f
  ·have :=h 0 BK;simp at this;exact this
  exact aHn (us:=us) (vs:=vs) KX (fun i hi=>by simpa using h (i+1) FX) n f
def aLw {f:FuncId} {x:Operand} {ops:Array Operand} {ats:Array TypeId} (srcs:List DV) {fi ca dO eH:List Ac} {E E':List BH} {q:Ac} (I:Am P f eH E q E') (J:DX P f=true) (L:Pj srcs es E E'=true) (hE:oL srcs es E)
 (ha:Kt srcs (fi++dO++ca) eH) (hl:ops.toList.length=dO.length) (M:o.op=.call { callee:=.value x,args:=ops,argTypes:=ats }):
 Bc P o ((x,.fn (.func f) fi ca)::Ef ops.toList dO) es (q.up srcs es.length) (KA srcs es E'):=by
 intro C ok H a w Q O z;have u:=z (x,.fn (.func f) fi ca) BK;simp only at u;generalize U:a.eval x=v at u;cases u with
 |fn _ _ _ vs us m s Y Z=>
  unfold Oper.wp
  have he:(execOp a.eval o).run P w=.ok (.enter f ((vs++ops.map a.eval)++us)) w:=by
   have :=Qq J (vs++ops.map a.eval++us) w;rw[Array.append_assoc]at this;simp[execOp,M,resolve,U,Deferred.ofValue,invoke,this]
  rw[he,YR]
  have e:vs++ops.map a.eval++us=((vs.toList.map Operand.const++ops.toList++us.toList.map Operand.const).map a.eval).toArray:=by
   apply aH0;simp[qB,Act.eval]
  rw[e];have l1:(vs.toList.map Operand.const).length=fi.length:=ay
  refine(aLP O srcs I L hE ha (by simp at hl;simp[m,s,hl]) (a:=a) ?_).mono ?_
  ·rw[aDF (by simp at hl;simp[m,hl]),aDF l1];intro n j;simp only[Gf]at j;rcases j with(j|j)|j
   ·exact aHn ay (fun i hi=>by have :=Y i hi;simpa[List.getD,GU]using this) n j
   ·exact z n (G9 _ j)
   exact aHn VJ (fun i hi=>by have :=Z i hi;simpa[List.getD,GU]using this) n j
  rintro e w' ⟨v,ok',H',rfl,h3,h4,h5,h6⟩;exact⟨v,ok',H',rfl,h3,h4,h5,h6⟩
def R.dfn {ok:Nat→Prop} {w:World} {H:List Ba} {f:Fn} {fi ca:List D} {v:Value} (h:R ok w H (.d (.fn f fi ca)) v):R ok w H (.fn f (fi.map .d) (ca.map .d)) v:=by
 cases h with
 |d _ _ h=>
  cases h with
  |fn _ _ _ vs us q s u z=>
   refine .fn f _ _ vs us KH VJ (fun i hi=>?_) (fun i hi=>?_)
   ·have j:i<fi.length:=FX
    have m:(fi.map Ac.d).getD i .junk=.d (fi.getD i DR):=iy
    rw[m];exact .d _ _ (u i j)
   have j:i<ca.length:=FX
   have m:(ca.map Ac.d).getD i .junk=.d (ca.getD i DR):=iy
   rw[m];exact .d _ _ (z i j)
def aoq {f:FuncId} {x:Operand} {ops:Array Operand} {ats:Array TypeId} (srcs:List DV) {fi ca:List D} {dO eH:List Ac} {E E':List BH} {m:Ac} (s:Am P f eH E m E') (u:DX P f=true) (z:Pj srcs es E E'=true) (hE:oL srcs es E)
 (ha:Kt srcs (fi.map .d++dO++ca.map .d) eH) (hl:ops.toList.length=dO.length) (I:o.op=.call { callee:=.value x,args:=ops,argTypes:=ats }):
 Bc P o ((x,.d (.fn (.func f) fi ca))::Ef ops.toList dO) es (m.up srcs es.length) (KA srcs es E'):=by
 intro C ok H a w Q J q;refine aLw (fi:=fi.map .d) (ca:=ca.map .d) srcs s u z hE ha hl I C ok H a w Q J (fun n j=>?_);rcases Ew.1 j with rfl|j
 ·exact R.dfn (q (x,.d (.fn (.func f) fi ca)) BK)
 exact q n (G9 _ j)
def Rl (S:List DV) (es:List BH):List DV→List BH→Prop
 |s::srcs,e::E=>(match s with | .ent k=>es[k]? =some (e.up S es.length)| .nil sz=>∃t,e=.arr t sz [])∧Rl S es srcs E
 | [],_=>True
 |_::_,[]=>False
def Jv {S:List DV} {es:List BH} {k:Nat} {e:BH} {srcs:List DV} {E:List BH} (h:es[k]? =some (e.up S es.length)) (f:Rl S es srcs E):Rl S es (.ent k::srcs) (e::E):=⟨h,f⟩
def aMd {S:List DV} {es:List BH}:∀{srcs:List DV} {E:List BH},Rl S es srcs E→∀(i:Nat) (s:DV),srcs[i]? =some s→match s with | .ent k=>(E[i]?).map (BH.up S es.length)=es[k]? | .nil sz=>∃e,E[i]? =some (.arr e sz [])
 | [],_,_,i,s,f=>SH
 |_::_,[],h,_,_,_=>h.elim
 |s::srcs,e::E,h,0,j,f=>by
  simp at f;subst f;have m:=h.1;cases s with
  |ent k=>simp only at m;simp[m]
  |nil sz=>obtain⟨t,rfl⟩:=m;exact⟨t,rfl⟩
 |s::srcs,e::E,h,i+1,j,f=>by
  have :=aMd h.2 i j RJ;cases j with
  |ent k=>simpa using this
  |nil sz=>simpa using this
def aFe {es:List BH} {srcs:List DV} {E:List BH} (h:Rl srcs es srcs E):oL srcs es E:=aMd h
def aa8 {f:FuncId} {ops:Array Operand} {ats:Array TypeId} (srcs:List DV) {dO eH:List Ac} {E E':List BH} {j res':Ac} (m:Am P f eH E j E') (q:DX P f=true) (s:Pj srcs es E E'=true) (hE:Rl srcs es srcs E) (ha:Kt srcs dO eH) (hl:ops.toList.length=dO.length)
 (u:res'=j.up srcs es.length) (z:o.op=.call { callee:=.value (.func f),args:=ops,argTypes:=ats }):Bc P o (Ef ops.toList dO) es res' (KA srcs es E'):=u▸aKx srcs m q s (aFe hE) ha hl z
def aiE {f:FuncId} {x:Operand} {ops:Array Operand} {ats:Array TypeId} (srcs:List DV) (fi ca:List Ac) {dO eH:List Ac} {E E':List BH} {j res':Ac} (m:Am P f eH E j E') (q:DX P f=true) (s:Pj srcs es E E'=true) (hE:Rl srcs es srcs E)
 (ha:Kt srcs (fi++dO++ca) eH) (hl:ops.toList.length=dO.length) (u:res'=j.up srcs es.length) (z:o.op=.call { callee:=.value x,args:=ops,argTypes:=ats }):
 Bc P o ((x,.fn (.func f) fi ca)::Ef ops.toList dO) es res' (KA srcs es E'):=u▸aLw srcs m q s (aFe hE) ha hl z
def ai5 {f:FuncId} {x:Operand} {ops:Array Operand} {ats:Array TypeId} (srcs:List DV) (fi ca:List D) {dO eH:List Ac} {E E':List BH} {j res':Ac} (m:Am P f eH E j E') (q:DX P f=true) (s:Pj srcs es E E'=true) (hE:Rl srcs es srcs E)
 (ha:Kt srcs (fi.map .d++dO++ca.map .d) eH) (hl:ops.toList.length=dO.length) (u:res'=j.up srcs es.length) (z:o.op=.call { callee:=.value x,args:=ops,argTypes:=ats }):
 Bc P o ((x,.d (.fn (.func f) fi ca))::Ef ops.toList dO) es res' (KA srcs es E'):=u▸aoq srcs m q s (aFe hE) ha hl z
end
structure Turns (v:Value) (w w':World):Prop where
 os:w'.os=w.os
 tape:w'.tape=w.tape
 output:w'.output=w.output
 size:w.heap.size≤w'.heap.size
 block:∀c,c<w.heap.size→DC v≠some c→w'.heap[c]? =w.heap[c]?
def Turns.refl (v:Value) (w:World):Turns v w w:=⟨rfl,rfl,rfl,Dw _,fun _ _ _=>rfl⟩
def Turns.arA {g o n c:Nat} {s:Option Nat} {w w':World} (h:w.grownBy w' (some g)):Turns (.slice (some ⟨g,o,s⟩) n c) w w':=
 ⟨h.os,h.tape,h.output,h.size,fun k j f=>h.block k j (fun e=>f (by cases e;rfl))⟩
def DT.abH {ok:Nat→Prop} {w:World} {u v:Value} (h:DT ok w (.lit u) v):v=u:=by cases h;rfl
def aDi :∀(l:List Int),flat (l.map AY)=l.map fun n=>.d (AY n)
 | []=>rfl
 |n::l=>by rw[JD,UD,aDi l];rfl
def sQ {ok:Nat→Prop} {w:World} {H:List Ba} {h:Ba} {e:TypeId} {l:List Int}:EW ok w H h (.arr e 1 (List.map AY l))↔h.size=1∧lG w e 1 h.v l.length (l.map (.int .i64)):=by
 constructor
 ·rintro⟨m,_,xs,j,q,s⟩;refine⟨m,?_⟩;rw[Ch]at j
  have :xs=l.map (.int .i64):=by
   rw[aDi]at q s;rw[Ch]at q;refine Z9 (by simp[q]) fun i hi I=>?_;have f:i<l.length:=AL
   have u:=(s i RJ).2;simp only[List.getD,IY,Dl f,HY,Lc,Dl hi]at u;cases u with |d _ _ h=>rw[DT.abH h];simp
  rw[←this];exact j
 rintro⟨m,j⟩;refine⟨m,fun x z=>?_,l.map (.int .i64),by rw[Ch];exact j,?_⟩
 ·obtain⟨n,_,rfl⟩:=F7.1 z;rfl
 rw[aDi];refine⟨BK,fun i hi=>?_⟩;have f:i<l.length:=FX
 simp only[List.getD,IY,Dl f,HY,Lc];exact⟨rfl,.d _ _ (.lit _)⟩
def aL1 {f:Array Value} (j:f.size=1):f= #[f.getD 0 undef]:=by
 refine Xd Zt fun i q m=>?_;simp at m;subst m;simp[Array.getD,j]
def Am.atS {P:Program} {f:FuncId} {e:TypeId} {l r:List Int}
 (h:∀(v:Value) (w:World),lG w e 1 v l.length (l.map (.int .i64))→Calls P f #[v] w fun x w'=>x=.returned (.tuple #[])∧lG w' e 1 v r.length (r.map (.int .i64))∧Turns v w w'):
 Am P f [.aS 0] [.arr e 1 (List.map AY l)] (.eF []) [.arr e 1 (List.map AY r)]:=by
 intro ok X H w Y u hs ha;have h0:=ha 0 BX;rw[aL1 hs];obtain⟨hd,L,M⟩:=FV u.ent u.hlen (k:=0) rfl;obtain hv:=O8 h0 L;rw[hv];obtain⟨hz,O⟩:=sQ.1 M;refine(h hd.v w O).mono ?_;rintro x w' ⟨rfl,z,s⟩;have m:=fun b I=>u.blk 0 _ hd b rfl rfl L I
 have hg:=u.change (ok':=ok) (H':=H) (w':=w') (es':=[.arr e 1 (List.map AY r)]) (fun c=>DC hd.v=some c) s.os s.tape s.output s.size s.block (fun c Z _=>⟨(m c Z).1,(m c Z).2.2⟩) (fun _ h=>h) (fun _ h=>.inl h) (.refl _) u.hlen (by
  intro k e' h' j J
  match k,j with
  |0,j=>
   simp at j;subst j;rw[L]at J;obtain rfl:=CO J;refine .inr ⟨sQ.2 ⟨hz,z⟩,fun _ b I=>⟨(m b I).1,UM (m b I).2.1 s.size,(m b I).2.2,fun k' e'' h'' U q=>?_⟩⟩
   match k',q with
   |0,_=>exact absurd rfl U
   |k'+1,q=>simp at q
  |k+1,j=>simp at j)
 exact⟨_,ok,H,rfl,hg.1,.eF [] #[] rfl (fun i hi=>MN)⟩
def Am.turned {P:Program} {f:FuncId} {e:TypeId} {l r:List Int}
 (h:∀(v:Value) (w:World),lG w e 1 v l.length (l.map (.int .i64))→Calls P f #[v] w fun x w'=>∃v',x=.returned v'∧lG w' e 1 v' r.length (r.map (.int .i64))∧Turns v w w'∧∀g,DC v'=some g→DC v=some g∨w.heap.size≤g):
 Am P f [.aS 0] [.arr e 1 (List.map AY l)] (.aS 1) [.dead,.arr e 1 (List.map AY r)]:=by
 intro ok X H w J s O ha;have U:=ha 0 BX;rw[aL1 O];obtain⟨hd,L,z⟩:=FV s.ent s.hlen (k:=0) rfl;obtain Y:=O8 U L;rw[Y];obtain⟨hz,I⟩:=sQ.1 z;refine(h hd.v w I).mono ?_;rintro x w' ⟨v',rfl,j,m,q⟩;have u:=s.turn (e:=.arr e 1 (List.map AY r)) (h':=⟨v',1⟩) (w':=w') (k:=0) rfl rfl L m.os m.tape m.output m.size m.block (fun g u=>⟨qG j u,q g u⟩) (fun _=>sQ.2 ⟨rfl,j⟩);refine⟨v',ok,H++[⟨v',1⟩],rfl,u.1,?_⟩;have hl:H.length=1:=s.hlen;have M:(H++[(⟨v',1⟩:Ba)])[1]? =some ⟨v',1⟩:=by rw[←hl];simp
 rcases j.2 with⟨rfl,_⟩|⟨g,cap,Z,rfl,_⟩
 ·exact .aS 1 _ _ _ 1 M
 exact .aS 1 _ _ _ 1 M
def Am.plain {P:Program} {f:FuncId} {vs:List Value} {j:Ac} {v:Value} (L:∀ok w H,R ok w H j v)
 (h:∀w,Calls P f vs.toArray w fun x w'=>x=.returned v∧Below w.heap.size w w'):Am P f (vs.map fun u=>.d (.lit u)) [] j []:=by
 intro ok X H w m I M ha
 have e:m=vs.toArray:=by
  refine Xd jg fun i O U=>?_;have q:i<vs.length:=aBD
  have J:=ha i KH;simp only[List.getD,IY,Dl q,HY,Lc]at J;cases J with |d _ _ h=>have :=DT.abH h;simpa[Array.getD,O]using this
 rw[e];refine(h w).mono ?_;rintro x w' ⟨rfl,s⟩
 have Y:=I.change (ok':=ok) (H':=H) (w':=w') (es':=[]) (fun _=>False) s.os s.tape s.output s.size (fun c Z _=>s.block c Z) (fun _ h=>h.elim) (fun _ h=>h) (fun _ h=>.inl h) (.refl _) I.hlen (by
  intro k e' h' z hh'
  simp at z)
 exact⟨v,ok,H,rfl,Y.1,L _ _ _⟩
def Chain.ap0 {P:Program} {ops:Array Oper} {l J:List Oper} {σ σ':Ar} (h:Chain P ops l σ σ') {ro:Option Nat} {C:Dv} {H0:List Ba} {Q:Exit→Act→World→Prop}:
 ∀{ok:Nat→Prop} {H:List Ba} {a:Act} {w:World},Holds C ok H σ a w→Names H0 H→(∀ok' H' a' w',Holds C ok' H' σ' a' w'→Names H0 H'→wpListIn (Hq ro) 0 P ops Q J a' w')→wpListIn (Hq ro) 0 P ops Q (l++J) a w:=by
 induction h with
 |nil σ=>intro ok H a w f L q;exact q ok H a w f L
 | @op o rest σ σ' ns x d M L z hd k I=>
   intro ok H a w f j q;subst hd;rw[Y3];unfold wpListIn;rw[Cb (Np f z)];refine P5 ?_ (M.YC ro C ok H a w Q f.mem (fun n s=>NY L n s▸f.get n.1));rintro a' w' ⟨v,ok',H',rfl,u,m,O,U⟩;exact I (f.put o.dst u m O U) (j.trans m) q
 | @oe o rest σ σ' ns x es' d E M he L z hd k I=>
   intro ok H a w f j q;subst hd;subst he;rw[Y3];unfold wpListIn;rw[Cb (Np f z)];refine P5 ?_ (M.YC ro C ok H a w Q f.mem (fun n s=>NY L n s▸f.get n.1));rintro a' w' ⟨v,ok',H',rfl,u,m,O,U⟩;exact I (f.put o.dst u m O U) (j.trans m) q
 | @skip o rest σ σ' d z hd k I=>
   intro ok H a w f j q;subst hd;rw[Y3];unfold wpListIn;rw[D9 bQ];exact⟨fun _ _=>trivial,I (f.put o.dst (.refl _ _) (.refl _) f.mem (.d _ _ (.lit _))) j q⟩
 | @any o rest σ σ' x d Y hd k I=>
   intro ok H a w f j q;subst hd;rw[Y3];unfold wpListIn;rcases Y.1 with⟨ns,M,L,_,z⟩|⟨rfl,_,z⟩
   ·rw[Cb (Np f z)];refine P5 ?_ (M.YC ro C ok H a w Q f.mem (fun n s=>NY L n s▸f.get n.1));rintro a' w' ⟨v,ok',H',rfl,u,m,O,U⟩;exact I (f.put o.dst u m O U) (j.trans m) q
   rw[D9 bQ];exact⟨fun _ _=>trivial,I (f.put o.dst (.refl _ _) (.refl _) f.mem (.d _ _ (.lit _))) j q⟩
 | @ZE o rest σ σ' x E bar d Y hd k I=>
   intro ok H a w f j q;subst hd;rw[Y3];unfold wpListIn;rcases Y.1 with⟨ns,M,L,_,z⟩|⟨rfl,rfl,z⟩
   ·rw[Cb (Np f z)];refine P5 ?_ (M.YC ro C ok H a w Q f.mem (fun n s=>NY L n s▸f.get n.1));rintro a' w' ⟨v,ok',H',rfl,u,m,O,U⟩;exact I (f.put o.dst u m O U) (j.trans m) q
   rw[D9 bQ];exact⟨fun _ _=>trivial,I (f.put o.dst (.refl _ _) (.refl _) f.mem (.d _ _ (.lit _))) j q⟩
 |conv σ2 hc k I=>
  intro ok H a w f j q;obtain⟨ok',Z⟩:=hc C ok H a w f;exact I Z j q
def AO.aoo {P:Program} {σ s:Ar} {Q:Exit→Ar→Prop} {id:Nat} {ops:Array Oper} {q:Oper} {x:Operand} {t t' e d:Nat} {es:List D} (k:Nat) (f:ops.toList.drop k=[q]) (h:Chain P ops (ops.toList.take k) σ s)
 (J:q.op=.binOp .eql t x (.const (.slice none 0 0)) t') (hd:q.dst=some d) (L:q.guard=none) (M:P.underlying t=some (.slice e)) (O:s.get x=.d (.sl es)) (U:∀b,(es≠[]→b=false)→Q .normal (s.pY (some d) (.d (.lit (.bool b))))):AO P (.region id ops false) σ Q:=by
 refine⟨fun ro _ C ok H a w Y=>aC9 ?_⟩;rw[←VF k ops.toList,f];refine h.ap0 Y (.refl H) fun ok' H' a' w' u _=>?_;have m:=O▸u.get x
 obtain⟨b,Z,hr⟩:∃b,(es≠[]→b=false)∧(execOp a'.eval q).run P w'=.ok (.value (.bool b)) w':=by
  cases m with
  |d _ _ m=>
   generalize j:a'.eval x=v at m
   have key:∀(ad:Option Addr) (n c:Nat),v=.slice ad n c→(execOp a'.eval q).run P w'=.ok (.value (.bool ad.isNone)) w':=fun ad n c z=>by
    have I:(eqGuard .eql t x (.const (.slice none 0 0)) (.slice ad n c) (.slice none 0 0)).run P w'=.ok () w':=by simp[eqGuard]
    have e0:a'.eval (.const (.slice none 0 0))=.slice none 0 0:=rfl;rw[z]at j;simp only[execOp,J,j,e0,Ei,I,Ep,Lib.run_eql_slice_nil w' t e ad n c 0 0 M,FT]
   cases m with
   |sl0 ad cap=>exact⟨ad.isNone,fun h=>absurd rfl h,key _ _ _ rfl⟩
   |sl es b off cap size=>exact⟨false,fun _=>rfl,key _ _ _ rfl⟩
 unfold wpListIn;rw[Cb (by unfold Region.wanted;rw[L])];unfold Oper.wpIn;rw[ZN _ _ _ (by rw[J];intro c h;cases h),hr,Oper.uponIn_value];refine⟨fun _ _=>trivial,?_⟩;unfold wpListIn;exact⟨ok',H',_,by rw[hd];exact u.put (some d) (.refl _ _) (.refl _) u.mem (.d _ _ (.lit _)),U b Z⟩
def jm {P:Program} {σ j:Ar} {Q:Exit→Ar→Prop} {id:Nat} {ops:Array Oper} {y:Code} {q:Oper} {x:Operand} {t t' e d:Nat} {es:List D} (k:Nat) (f:ops.toList.drop k=[q]) (h:Chain P ops (ops.toList.take k) σ j)
 (u:q.op=.binOp .eql t x (.const (.slice none 0 0)) t') (hd:q.dst=some d) (z:q.guard=none) (I:P.underlying t=some (.slice e)) (J:j.get x=.d (.sl es)) (L:∀b,(es≠[]→b=false)→AO P y (j.pY (some d) (.d (.lit (.bool b)))) Q):AO P (.seq (.region id ops false) y) σ Q:=
 AO.seq (fun s=>∃b,(es≠[]→b=false)∧s=j.pY (some d) (.d (.lit (.bool b)))) (AO.aoo k f h u hd z I J fun b m=>⟨b,m,rfl⟩) (by rintro _ ⟨b,m,rfl⟩;exact L b m)
def kU {α:Type} {l:List α} {e:α→D} (h:List.map e l≠[]→true=false):l=[]:=by
 cases l with
 |nil=>rfl
 |cons a l=>exact absurd (h BK) BX
def aLN {α:Type} {p:Nat→α→Prop}:∀n,(∀i,i<n→∃x,p i x)→∃l:List α,l.length=n∧∀i (h:i<l.length),p i l[i]
 |0,_=>⟨[],rfl,fun i h=>Gw⟩
 |n+1,h=>by
  obtain⟨l,f,j⟩:=aLN n (fun i hi=>h i AL);obtain⟨x,m⟩:=h n AL;refine⟨l++[x],WU,fun i hi=>?_⟩;simp at hi;by_cases e:i<l.length
  ·rw[List.getElem_append_left e];exact j i e
  have :i=n:=AL
  subst this;rw[List.getElem_append_right AL];simpa[f]using m
def pieces :List Nat→Nat→List Value→List Value
 | [],_,_=>[]
 |n::r,o,cs=>(cs.drop o).take n++pieces r (o+n) cs
def pieces_eq :∀(ns:List Nat) (o:Nat) (cs:List Value),cs.length=o+ns.sum→pieces ns o cs=cs.drop o
 | [],o,cs,h=>by simp at h;simp[pieces,h]
 |n::r,o,cs,h=>by
  simp only[List.sum_cons]at h;unfold pieces;rw[pieces_eq r (o+n) cs AL,←aEL,VF]
def E9 (w:World) (f:List D) (cs:List Value):Prop:=cs.length=f.length∧∀j,j<f.length→(f.getD j DR).leaf=true∧DT (fun b=>b<w.heap.size) w (f.getD j DR) (cs.getD j undef)
def E9.nil (w:World):E9 w [] []:=⟨rfl,fun j h=>Gw⟩
def E9.append {w:World} {f es:List D} {cs us:List Value} (h:E9 w f cs) (k:E9 w es us):E9 w (f++es) (cs++us):=by
 refine⟨by simp[h.1,k.1],fun j u=>?_⟩;by_cases e:j<f.length
 ·have m:(f++es).getD j DR=f.getD j DR:=aFV
  have q:(cs++us).getD j undef=cs.getD j undef:=by simp[List.getD,Fr (show j<cs.length by rw[h.1];exact e)]
  rw[m,q];exact h.2 j e
 have s:j-f.length<es.length:=Qb
 have m:(f++es).getD j DR=es.getD (j-f.length) DR:=by simp[List.getD,Ir (RI e)]
 have q:(cs++us).getD j undef=us.getD (j-f.length) undef:=by
  have z:=h.1;simp only[List.getD,Ir (show cs.length≤j by omega),z]
 rw[m,q];exact k.2 _ s
section
variable {H : Type} {enc : TypeId × Value → H} {w : World} {base : Nat} {spare : Nat → Bool} {held : Bool} {P : Program} {t : TypeId}
def aau {α:Type} (enc:TypeId×Value→H) (P:Program) (w:World) (base:Nat) (spare:Nat→Bool) (held:Bool) (t:TypeId) (e:α→D) (V:α→Prop):Prop:=
 ∀BA cs x,DataW.trod enc P w base spare held BA t cs=some x→∃a:α,V a∧E9 w (e a).cells cs
def E9.one {w:World} {x:D} {v:Value} (f:x.cells=[x]) (hl:x.leaf=true) (h:DT (fun b=>b<w.heap.size) w x v):E9 w x.cells [v]:=by
 rw[f];refine⟨rfl,fun j m=>?_⟩
 match j,m with
 |0,_=>exact⟨hl,h⟩
def ahe {k:IntKind} (f:P.underlying t=some (.int k)):aau enc P w base spare held t (fun n=>D.lit (.int k n)) (fun n:Int=>k.min≤n∧n≤k.max):=by
 intro BA cs x h;obtain⟨n,rfl, -,j⟩:=DataW.trod_int f h;exact⟨n,by simpa[Lit.wf]using j,.one rfl rfl (.lit _)⟩
def ajg (f:P.underlying t=some .bool):aau enc P w base spare held t Cj (fun _=>True):=by
 intro BA cs x h;obtain⟨n,rfl, -⟩:=DataW.trod_bool f h;exact⟨n,trivial,.one rfl rfl (.lit _)⟩
def bH {f:Array Field} {BA:Nat} {cs:List Value} {x:DataW H×List MemPlace} (j:P.underlying t=some (.struct f)) (h:DataW.trod enc P w base spare held BA t cs=some x) (n:Nat) (m:P.cellsOf t=n):cs.length=n:=by
 obtain⟨xs,k, -, -,hlen, -⟩:=DataW.trod_struct j h;rw[hlen,m]
def eL {cs:List Value} {f:List D} (ns:List Nat) (hl:cs.length=ns.sum) (h:E9 w f (pieces ns 0 cs)):E9 w f cs:=by
 rw[pieces_eq ns 0 cs AL]at h;simpa using h
end
def asC {w:World} {x:D} {f:List D} {cs:Array Value} (j:x=.agg f) (h:E9 w x.cells (Value.agg cs).cells.toList):DT (fun b=>b<w.heap.size) w x (.agg cs):=by
 subst j;have h':E9 w f cs.toList:=h
 exact .agg f cs (by simpa using h'.1) (fun i hi=>(h'.2 i hi).1) fun i hi=>by
  have :=(h'.2 i hi).2;simpa[GU,List.getD]using this
def asK {w:World} {x:D} {v:Value} (f:x.cells=[x]) (j:v.cells= #[v]) (h:E9 w x.cells v.cells.toList):DT (fun b=>b<w.heap.size) w x v:=by
 rw[f,j]at h;exact(h.2 0 BK).2
def Am.start {P:Program} {f:FuncId} {xs:List D} {j:Array Value} {W:World} {x:D} (h:Am P f (xs.map .d) [] (.d x) []) (u:j.size=xs.length) (ha:∀i,i<xs.length→DT (fun b=>b<W.heap.size) W (xs.getD i DR) (j.getD i undef)):
 Calls P f j W fun e W'=>∃v ok,e=.returned v∧DT ok W' x v∧Below W.heap.size W W':=by
 refine(h (fun b=>b<W.heap.size) [] [] W j ⟨.refl _ _,fun _ h=>h,fun _ h=>.inl h,fun _ h=>h,.refl _,rfl,fun k e h m=>by simp at m,fun k e h b m=>by simp at m,fun k k' e e' h h' b m=>by simp at m⟩ Md (fun i hi=>?_)).mono ?_
 ·have q:i<xs.length:=FX
  have :(xs.map Ac.d).getD i .junk=.d (xs.getD i DR):=vX
  rw[this];exact .d _ _ (ha i q)
 rintro e W' ⟨v,ok',H',rfl,z,s⟩;cases s with
 |d _ _ s=>exact⟨v,ok',rfl,s,z.fr.below⟩
def Am.law {P:Program} {f:FuncId} {xs:List D} {j:Array Value} {W:World} (h:Am P f (xs.map .d) [] (.d (Cj true)) []) (m:j.size=xs.length) (ha:∀i,i<xs.length→DT (fun b=>b<W.heap.size) W (xs.getD i DR) (j.getD i undef)):
 Calls P f j W fun e W'=>e=.returned (.bool true)∧Below W.heap.size W W':=by
 refine(h.start m ha).mono ?_;rintro e W' ⟨v,ok,rfl,q,s⟩;exact⟨by rw[DT.abH q],s⟩
end Go.Proofs.YtolgdkhlelfpoaaGreat
end
section
namespace Go.Proofs.YtolgdkhlelfpoaaGreat
def EZ (l:List Int) (x:Int):Bool:=l.contains x
def LW {l:List Int} {x:Int}:EZ l x=true↔x∈l:=by unfold EZ;simp
def Ox {l:List Int} {x:Int}:EZ l x=false↔x∉l:=by unfold EZ;simp
def put (l:List Int) (x:Int):List Int:=if EZ l x then l else l.takeWhile (decide<| · <x)++x::l.dropWhile (decide<| · <x)
def Fj (l:List Int):List Int:=l.foldl put []
def H6 (a b:List Int):List Int:=b.foldl put (Fj a)
def RP (a b:List Int):List Int:=(Fj a).filter (fun x=> !EZ b x)
abbrev Inc (l:List Int):Prop:=l.Pairwise (· < ·)
def asJ {l:List Int} {x:Int}:∀y∈l.takeWhile (decide<| · <x),y<x:=by
 intro y f;have :=List.all_takeWhile (l:=l) (p:=(decide<| · <x));rw[Dk]at this;simpa using this y f
def aJd :∀{l:List Int} {x:Int},Inc l→∀y∈l.dropWhile (decide<| · <x),x≤y
 | [],x,_,y,f=>SH
 |a::l,x,h,y,f=>by
  have h':=PD.1 h;by_cases ha:a<x
  ·rw[aLM (by simpa using ha)]at f;exact aJd h'.2 y f
  rw[adx (by simpa using ha)]at f;rcases Ew.1 f with rfl|f
  ·omega
  have :=h'.1 y f;omega
def aIG {l:List Int} {x y:Int}:y∈put l x↔y∈l∨y=x:=by
 unfold put;split
 ·rename_i h;have f:x∈l:=LW.1 h;constructor
  ·exact .inl
  rintro(h|rfl)
  ·exact h
  exact f
 have e:l.takeWhile (decide<| · <x)++l.dropWhile (decide<| · <x)=l:=oW
 have :y∈l↔y∈l.takeWhile (decide<| · <x)∨y∈l.dropWhile (decide<| · <x):=by
  conv=>lhs;rw[←e]
  exact Gf
 rw[this,Gf,Ew];constructor
 ·rintro(h|h|h)
  ·exact .inl (.inl h)
  ·exact .inr h
  exact .inl (.inr h)
 rintro((h|h)|h)
 ·exact .inl h
 ·exact .inr (.inr h)
 exact .inr (.inl h)
def aT {l:List Int} {x:Int} (h:Inc l):Inc (put l x):=by
 unfold put;split
 ·exact h
 rename_i s;have f:x∉l:=fun h=>s (LW.2 h)
 have hd:∀y∈l.dropWhile (decide<| · <x),x<y:=by
  intro y m;have q:=aJd h y m;have u:y∈l:=(aHp _).mem m;have :y≠x:=fun e=>f (e▸u);omega
 refine Zr.2 ⟨h.sublist (List.takeWhile_sublist _),PD.2 ⟨hd,h.sublist (aHp _)⟩,?_⟩;intro a ha b j;have q:=asJ a ha;rcases Ew.1 j with rfl|j
 ·exact q
 have :=hd b j;omega
def aFt {l:List Int}:∀{f:List Int} {y:Int},y∈l.foldl put f↔y∈f∨y∈l:=by
 induction l with
 |nil=>intro f y;simp
 |cons a l j=>intro f y;rw[Fa,j,aIG,Ew,or_assoc]
def yV {l:List Int}:∀{f:List Int},Inc f→Inc (l.foldl put f):=by
 induction l with
 |nil=>intro f h;exact h
 |cons a l j=>intro f h;exact j (aT h)
def Kv {l:List Int} {y:Int}:y∈Fj l↔y∈l:=by unfold Fj;rw[aFt];simp
def Nj (l:List Int):Inc (Fj l):=yV List.Pairwise.nil
def YU :∀{a b:List Int},Inc a→Inc b→(∀x,x∈a↔x∈b)→a=b
 | [],[],_,_,_=>rfl
 | [],b::bs,_,_,h=>by have :=(h b).2 BK;simp at this
 |a::ayD,[],_,_,h=>by have :=(h a).1 BK;simp at this
 |a::ayD,b::bs,ha,u,h=>by
  have j:=PD.1 ha;have m:=PD.1 u
  have e:a=b:=by
   rcases Ew.1 ((h a).1 BK)with f|f
   ·exact f
   rcases Ew.1 ((h b).2 BK)with q|q
   ·exact q.symm
   have :=j.1 b q;have :=m.1 a f;omega
  subst e;congr 1;refine YU j.2 m.2 fun x=>?_;have s:=h x;rw[Ew,Ew]at s;constructor
  ·intro f;rcases s.1 (.inr f)with rfl|q
   ·exact absurd (j.1 x f) AL
   exact q
  intro f;rcases s.2 (.inr f)with rfl|q
  ·exact absurd (m.1 x f) AL
  exact q
def jM (a b:List Int):H6 a b=Fj (a++b):=by unfold H6 Fj;rw[YQ]
def Rq {a b:List Int} {x:Int}:x∈H6 a b↔x∈a∨x∈b:=by rw[jM,Kv,Gf]
def aAb (a b:List Int):Inc (H6 a b):=by rw[jM];exact Nj _
def aMD {a b:List Int} {x:Int}:x∈RP a b↔x∈a∧x∉b:=by unfold RP;rw[G7,Kv];simp[EZ]
def aog (a b:List Int):Inc (RP a b):=(Nj a).sublist Um
def apG (f:List Int):∀m,m≤f.length→∀x,x∈Lib.compactUpTo f.toArray m↔x∈f.take m:=by
 intro m
 induction m with
 |zero=>intro _ x;simp[Lib.compactUpTo]
 |succ m s=>
  intro J x;rw[Lib.compactUpTo_succ,Gf,s AL,RD AL,Gf];have u:f.toArray[m]! =f[m]' AL:=by simp[show m<f.length by omega]
  by_cases q:Lib.keeps f.toArray m=true
  ·rw[Cb q,u]
  rw[D9 q];have j:Lib.keeps f.toArray m=false:=KH
  have z:m≠0:=by intro e;subst e;simp[Lib.keeps]at j
  have I:f[m]' AL=f[m-1]' AL:=by
   simp[Lib.keeps,z]at j;simpa[show m<f.length by omega,show m-1<f.length by omega]using j
  constructor
  ·intro h;rcases h with h|h
   ·exact .inl h
   simp at h
  rintro(h|h)
  ·exact .inl h
  refine .inl ?_;simp at h;subst h;rw[I];rw[adn];exact⟨m-1,AL,rfl⟩
def aej (f:List Int) (J:f.Pairwise (· ≤ ·)):∀m,m≤f.length→Inc (Lib.compactUpTo f.toArray m)∧∀x∈Lib.compactUpTo f.toArray m,∃i,∃_:i<m,∃s:i<f.length,x=f[i]:=by
 intro m
 induction m with
 |zero=>intro _;refine⟨by simp[Lib.compactUpTo],fun x q=>by simp[Lib.compactUpTo]at q⟩
 |succ m O=>
  intro hm;obtain⟨L,s⟩:=O AL;have U:f.toArray[m]! =f[m]' AL:=by simp[show m<f.length by omega]
  rw[Lib.compactUpTo_succ];by_cases u:Lib.keeps f.toArray m=true
  ·rw[Cb u,U];refine⟨Zr.2 ⟨L,BK,?_⟩,?_⟩
   ·intro a ha b M;simp at M;subst M;obtain⟨i,hi,Y,rfl⟩:=s a ha
    have z:∀j,(Z:j<m)→f[j]' AL≤f[m-1]' AL:=by
     intro j Z;by_cases e:j=m-1
     ·subst e;omega
     exact KQ.1 J j (m-1) AL AL AL
    have h3:=z i hi;have h4:=KQ.1 J (m-1) m AL AL AL
    have h5:f[m]' AL≠f[m-1]' AL:=by
     have I:m≠0:=AL
     simp[Lib.keeps,I]at u;simpa[show m<f.length by omega,show m-1<f.length by omega]using u
    omega
   intro x q;rcases Gf.1 q with q|q
   ·obtain⟨i,a,b,c⟩:=s x q;exact⟨i,AL,b,c⟩
   simp at q;exact⟨m,AL,AL,q⟩
  rw[D9 u,S9];refine⟨L,fun x q=>?_⟩;obtain⟨i,a,b,c⟩:=s x q;exact⟨i,AL,b,c⟩
def aDM (l:List Int):Lib.compact (l.mergeSort fun x y=>decide (x≤y))=Fj l:=by
 have f:(l.mergeSort fun x y=>decide (x≤y)).Pairwise (· ≤ ·):=by
  have :=List.pairwise_mergeSort (le:=fun x y:Int=>decide (x≤y)) (by intro a b c;simp;omega) (by intro a b;simp;omega) l;exact this.imp (by intro a b h;simpa using h)
 refine YU (aej _ f _ (Dw _)).1 (Nj l) fun x=>?_;rw[Kv];unfold Lib.compact;rw[apG _ _ (Dw _),Jy];exact List.mem_mergeSort
def gy {R:Type} (o:Option R) (Q:R→Prop):Prop:=∃r,o=some r∧Q r
section
variable {R A B α : Type} {Q : R → Prop}
def gy.ret {r:R} (h:Q r):gy (some r) Q:=⟨r,rfl,h⟩
def gy.bind {o:Option A} {f:A→Option R} {P:A→Prop} (h:gy o P) (k:∀x,P x→gy (f x) Q):gy (o.bind f) Q:=by
 obtain⟨x,rfl,j⟩:=h;exact k x j
def gy.mono {o:Option R} {P:R→Prop} (h:gy o P) (k:∀r,P r→Q r):gy o Q:=by
 obtain⟨x,rfl,f⟩:=h;exact⟨x,rfl,k x f⟩
def gy.bif {b:Bool} {x y:Option R} (f:b=true→gy x Q) (j:b=false→gy y Q):gy (bif b then x else y) Q:=by
 cases b with
 |true=>exact f rfl
 |false=>exact j rfl
def gy.eq {o:Option R} {r:R} (h:gy o (· =r)):o=some r:=by obtain⟨x,rfl,rfl⟩:=h;rfl
def gy.of {o:Option R} {r:R} (h:o=some r):gy o (· =r):=⟨r,h,rfl⟩
def rO (l:List α) (i:Nat):BJ l (i:Int)=l[i]? :=by unfold BJ;rw[Cb (aCQ i)];simp
def DI {l:List α} {i:Nat} (h:i<l.length):BJ l (i:Int)=some l[i]:=by rw[rO];simp[h]
def Et {b:Nat} {l m:List α} (h:(l.length+m.length)*b≤140737488355328):DU b l m=some (l++m):=by unfold DU;rw[Cb h]
def aBg {l:List α} {lo hi:Nat} (f:lo≤hi) (j:hi≤l.length):MS l (lo:Int) (hi:Int)=some ((l.drop lo).take (hi-lo)):=by
 unfold MS;rw[Cb ⟨AL,AL,AL⟩];simp
def wrap_succ (i:Nat) (h:i<9223372036854775807):BI ((i:Int)+1)=((i+1:Nat):Int):=by
 rw[kn];omega
def Mc {x:Int} (f: -9223372036854775808≤x) (j:x≤9223372036854775807):BI x=x:=by
 rw[kn];omega
def aKE {body:(A→Option R)→A→Option R} (I:Nat→A→Prop) (q:∀m a k,I m a→(∀f a',f<m→I f a'→gy (k a') Q)→gy (body k a) Q):
 ∀n m a,m<n→I m a→gy (bn body n a) Q
 |0,m,a,h,_=>AL
 |n+1,m,a,h,hi=>q m a _ hi fun f a' h' j=>aKE I q n f a' AL j
def YE {body:(A→B→Option R)→A→B→Option R} (I:Nat→A→B→Prop) (s:∀m a b k,I m a b→(∀f a' j,f<m→I f a' j→gy (k a' j) Q)→gy (body k a b) Q):
 ∀n m a b,m<n→I m a b→gy (aX body n a b) Q
 |0,m,a,b,h,_=>AL
 |n+1,m,a,b,h,hi=>s m a b _ hi fun f a' j h' q=>YE I s n f a' j AL q
def xK {body:(Int→Option R)→Int→Option R} (N:Nat) (f:N<BA) (I:Nat→Prop) (j:I 0)
 (q:∀i k,i<N→I i→(I (i+1)→gy (k ((i+1:Nat):Int)) Q)→gy (body k (i:Int)) Q) (s:∀k,I N→gy (body k (N:Int)) Q):gy (bn body BA 0) Q:=by
 refine aKE (body:=body) (Q:=Q) (fun m a=>∃i:Nat,a=i∧i+m=N∧I i) ?_ BA N 0 f ⟨0,rfl,AL,j⟩;rintro m a k ⟨i,rfl,z,hi⟩ u;by_cases e:i<N
 ·exact q i k e hi fun h=>u (m-1) _ AL ⟨i+1,rfl,AL,h⟩
 have :i=N:=AL
 subst this;exact s k hi
def RS {body:(A→Int→Option R)→A→Int→Option R} (N:Nat) (f:N<BA) (I:Nat→A→Prop) {a0:A} (j:I 0 a0)
 (q:∀i a k,i<N→I i a→(∀a',I (i+1) a'→gy (k a' ((i+1:Nat):Int)) Q)→gy (body k a (i:Int)) Q) (s:∀a k,I N a→gy (body k a (N:Int)) Q):gy (aX body BA a0 0) Q:=by
 refine YE (body:=body) (Q:=Q) (fun m a b=>∃i:Nat,b=i∧i+m=N∧I i a) ?_ BA N a0 0 f ⟨0,rfl,AL,j⟩;rintro m a b k ⟨i,rfl,z,hi⟩ u;by_cases e:i<N
 ·exact q i a k e hi fun a' h=>u (m-1) _ _ AL ⟨i+1,rfl,AL,h⟩
 have :i=N:=AL
 subst this;exact s a k hi
end
end Go.Proofs.YtolgdkhlelfpoaaGreat
end
section
namespace Go.Proofs
open Go.Proofs.YtolgdkhlelfpoaaGreat
open Go.Shelf
def Tryz.amh:Go.Shelf.Ren:=⟨fun |137=>171|217=>234|266=>308|n=>n,fun |9=>9|5=>5|3=>3|n=>n,fun |n=>n⟩
def Tryz.lays137:Go.Proofs.Lays.n137 Tryz.prog Tryz.amh:={
 mixed:=A8
 f137:=Tryz.func171.trans (BR some A8)
 f217:=Tryz.func234.trans (BR some A8)
 f266:=Tryz.func308.trans (BR some A8)
 t3:=IJ
 a3:=XT
 z3:=Xh
 v3:=ZH
 t5:=iK
 a5:=jr
 z5:=kF
 v5:=mO
 t9:=O6
 a9:=og
 z9:=jJ
 v9:=gq }
open Go.RowKit in
def Tryz.strings_IndexByte (s:ByteArray) (c:Int) (w:World):
 Calls Tryz.prog 171 #[.string s,.int .u8 c] w fun e w'=>e=.returned (.int .i64 (Lib.indexByte s.data.toList c.toNat.toUInt8))∧w'=w:=Any.strings_IndexByte Tryz.lays137 s c w
def Tryz.ami:Go.Shelf.Ren:=⟨fun |215=>261|n=>n,fun |3=>3|4=>4|n=>n,fun |n=>n⟩
def Tryz.lays215:Go.Proofs.Lays.n215 Tryz.prog Tryz.ami:={
 mixed:=A8
 f215:=Tryz.func261.trans (BR some A8)
 t3:=IJ
 a3:=XT
 z3:=Xh
 v3:=ZH
 t4:=U6
 a4:=dz
 z4:=bZ
 v4:=ak }
open Go.RowKit in
def Tryz.cmp_isNaN_int (x:Int) (w:World):
 Calls Tryz.prog 261 #[.int .i64 x] w fun e w'=>e=.returned (.bool false)∧w'=w:=Any.cmp_isNaN_int Tryz.lays215 x w
def Tryz.amj:Go.Shelf.Ren:=⟨fun |219=>309|217=>234|225=>371|224=>372|267=>373|266=>308|314=>393|n=>n,fun |9=>9|3=>3|4=>4|5=>5|46=>89|146=>326|51=>226|n=>n,fun |1=>0|n=>n⟩
def Tryz.lays219:Go.Proofs.Lays.n219 Tryz.prog Tryz.amj:={
 mixed:=A8
 f217:=Tryz.func234.trans (BR some A8)
 f219:=Tryz.func309.trans (BR some A8)
 f224:=Tryz.func372.trans (BR some A8)
 f225:=Tryz.func371.trans (BR some A8)
 f266:=Tryz.func308.trans (BR some A8)
 f267:=Tryz.func373.trans (BR some A8)
 f314:=Tryz.func393.trans (BR some A8)
 t3:=IJ
 a3:=XT
 z3:=Xh
 v3:=ZH
 t4:=U6
 a4:=dz
 z4:=bZ
 v4:=ak
 t5:=iK
 a5:=jr
 z5:=kF
 v5:=mO
 t9:=O6
 a9:=og
 z9:=jJ
 v9:=gq
 t46:=aBw
 a46:=Tryz.isAgg89
 z46:=Tryz.sizeOf89
 v46:=yx
 t51:=aBR
 a51:=Tryz.isAgg226
 z51:=aAy
 v51:=yA
 t146:=Tryz.underlying326
 a146:=Tryz.isAgg326
 z146:=Tryz.sizeOf326
 v146:=Tryz.zeroValue326
 g1:=by kernel_rfl }
open Go.RowKit Go.Lib in
def Tryz.stringslite_Index_one (s:ByteArray) (c:UInt8) (w:World):
 Calls Tryz.prog 309 #[.string s,.string ⟨#[c]⟩] w fun e w'=>e=.returned (.int .i64 (Lib.indexByte s.data.toList c))∧w'=w:=Any.stringslite_Index_one Tryz.lays219 s c w
def Tryz.amk:Go.Shelf.Ren:=⟨fun |145=>172|220=>235|219=>309|217=>234|225=>371|224=>372|267=>373|266=>308|314=>393|n=>n,fun |9=>9|4=>4|59=>152|3=>3|5=>5|46=>89|146=>326|51=>226|n=>n,fun |1=>0|n=>n⟩
def Tryz.lays145:Go.Proofs.Lays.n145 Tryz.prog Tryz.amk:={
 mixed:=A8
 f145:=Tryz.func172.trans (BR some A8)
 f217:=Tryz.func234.trans (BR some A8)
 f219:=Tryz.func309.trans (BR some A8)
 f220:=Tryz.func235.trans (BR some A8)
 f224:=Tryz.func372.trans (BR some A8)
 f225:=Tryz.func371.trans (BR some A8)
 f266:=Tryz.func308.trans (BR some A8)
 f267:=Tryz.func373.trans (BR some A8)
 f314:=Tryz.func393.trans (BR some A8)
 t3:=IJ
 a3:=XT
 z3:=Xh
 v3:=ZH
 t4:=U6
 a4:=dz
 z4:=bZ
 v4:=ak
 t5:=iK
 a5:=jr
 z5:=kF
 v5:=mO
 t9:=O6
 a9:=og
 z9:=jJ
 v9:=gq
 t46:=aBw
 a46:=Tryz.isAgg89
 z46:=Tryz.sizeOf89
 v46:=yx
 t51:=aBR
 a51:=Tryz.isAgg226
 z51:=aAy
 v51:=yA
 t59:=Tryz.underlying152
 a59:=Tryz.isAgg152
 z59:=Tryz.sizeOf152
 v59:=Tryz.zeroValue152
 t146:=Tryz.underlying326
 a146:=Tryz.isAgg326
 z146:=Tryz.sizeOf326
 v146:=Tryz.zeroValue326
 g1:=by kernel_rfl }
open Go.RowKit Go.Lib in
def Tryz.strings_Cut (s sep:ByteArray) (m:Int) (w:World) (hs:s.size<4294967281) (hm:w.cell? ⟨0,0,none⟩=some (.int .i64 m)):
 Calls Tryz.prog 172 #[.string s,.string sep] w fun e w'=>e=.returned (.tuple #[.string ⟨(Lib.cut s.data.toList sep.data.toList).1.toArray⟩,.string ⟨(Lib.cut s.data.toList sep.data.toList).2.1.toArray⟩,.bool (Lib.cut s.data.toList sep.data.toList).2.2])∧∃n,w'=w.drewN n:=Any.strings_Cut Tryz.lays145 s sep m w hs hm
def Tryz.aml:Go.Shelf.Ren:=⟨fun |189=>103|125=>149|257=>148|128=>204|129=>205|294=>195|295=>196|296=>197|297=>198|298=>199|299=>200|216=>201|300=>202|301=>203|328=>256|329=>257|330=>258|331=>259|332=>260|215=>261|343=>337|n=>n,fun |28=>24|3=>3|46=>89|0=>0|51=>226|53=>228|4=>4|183=>220|182=>219|131=>97|5=>5|9=>9|218=>254|222=>258|228=>300|229=>301|n=>n,fun |n=>n⟩
def Tryz.lays189:Go.Proofs.Lays.n189 Tryz.prog Tryz.aml:={
 mixed:=A8
 f125:=Tryz.func149.trans (BR some A8)
 f128:=Tryz.func204.trans (BR some A8)
 f129:=Tryz.func205.trans (BR some A8)
 f189:=Tryz.func103.trans (BR some A8)
 f215:=Tryz.func261.trans (BR some A8)
 f216:=Tryz.func201.trans (BR some A8)
 f257:=Tryz.func148.trans (BR some A8)
 f294:=Tryz.func195.trans (BR some A8)
 f295:=Tryz.func196.trans (BR some A8)
 f296:=Tryz.func197.trans (BR some A8)
 f297:=Tryz.func198.trans (BR some A8)
 f298:=Tryz.func199.trans (BR some A8)
 f299:=Tryz.func200.trans (BR some A8)
 f300:=Tryz.func202.trans (BR some A8)
 f301:=Tryz.func203.trans (BR some A8)
 f328:=Tryz.func256.trans (BR some A8)
 f329:=Tryz.func257.trans (BR some A8)
 f330:=Tryz.func258.trans (BR some A8)
 f331:=Tryz.func259.trans (BR some A8)
 f332:=Tryz.func260.trans (BR some A8)
 f343:=Tryz.func337.trans (BR some A8)
 t0:=Tryz.underlying0
 a0:=Tryz.isAgg0
 z0:=Tryz.sizeOf0
 v0:=Tryz.zeroValue0
 t3:=IJ
 a3:=XT
 z3:=Xh
 v3:=ZH
 t4:=U6
 a4:=dz
 z4:=bZ
 v4:=ak
 t5:=iK
 a5:=jr
 z5:=kF
 v5:=mO
 t9:=O6
 a9:=og
 z9:=jJ
 v9:=gq
 t28:=aBq
 a28:=Tryz.isAgg24
 z28:=Tryz.sizeOf24
 v28:=Tryz.zeroValue24
 t46:=aBw
 a46:=Tryz.isAgg89
 z46:=Tryz.sizeOf89
 v46:=yx
 t51:=aBR
 a51:=Tryz.isAgg226
 z51:=aAy
 v51:=yA
 t53:=Tryz.underlying228
 a53:=Tryz.isAgg228
 z53:=Tryz.sizeOf228
 v53:=Tryz.zeroValue228
 t131:=Tryz.underlying97
 a131:=Tryz.isAgg97
 z131:=Tryz.sizeOf97
 v131:=Tryz.zeroValue97
 t182:=Tryz.underlying219
 a182:=Tryz.isAgg219
 z182:=Tryz.sizeOf219
 v182:=Tryz.zeroValue219
 t183:=Tryz.underlying220
 a183:=Tryz.isAgg220
 z183:=Tryz.sizeOf220
 v183:=Tryz.zeroValue220
 t218:=Tryz.underlying254
 a218:=Tryz.isAgg254
 z218:=Tryz.sizeOf254
 v218:=Tryz.zeroValue254
 t222:=Tryz.underlying258
 a222:=Tryz.isAgg258
 z222:=Tryz.sizeOf258
 v222:=Tryz.zeroValue258
 t228:=Tryz.underlying300
 a228:=Tryz.isAgg300
 z228:=Tryz.sizeOf300
 v228:=Tryz.zeroValue300
 t229:=Tryz.underlying301
 a229:=Tryz.isAgg301
 z229:=Tryz.sizeOf301
 v229:=Tryz.zeroValue301 }
open Go.Sort Go.RowKit in
def Tryz.slices_Sort_int (blk off cap:Nat) (zs:List Int) (w:World) (hH:Holds Aw w blk off zs.toArray) (hblk:blk<w.heap.size) (hsz:zs.length<4611686018427387904):
 Calls Tryz.prog 103 #[.slice (some ⟨blk,off,none⟩) zs.length cap] w fun e w'=>
  e=.returned (.tuple #[])∧∃n os,w'=grow (putRow Aw (Sort.ahead w n) blk off (zs.mergeSort fun x y=>decide (x≤y)).toArray) os:=Any.slices_Sort_int Tryz.lays189 blk off cap zs w hH hblk hsz
def Tryz.ajj:Go.Shelf.Ren:=⟨fun |20=>104|n=>n,fun |22=>24|3=>3|4=>4|0=>0|n=>n,fun |n=>n⟩
def Tryz.aiG:Go.Proofs.Lays2.n20 Tryz.prog Tryz.ajj:={
 mixed:=A8
 f20:=Tryz.func104.trans (BR some A8)
 t0:=Tryz.underlying0
 a0:=Tryz.isAgg0
 z0:=Tryz.sizeOf0
 v0:=Tryz.zeroValue0
 t3:=IJ
 a3:=XT
 z3:=Xh
 v3:=ZH
 t4:=U6
 a4:=dz
 z4:=bZ
 v4:=ak
 t22:=aBq
 a22:=Tryz.isAgg24
 z22:=Tryz.sizeOf24
 v22:=Tryz.zeroValue24
 i3:=by kernel_rfl }
open Go.RowKit Go.Lib Go.Sort in
def Tryz.slices_Compact_int (blk off cap:Nat) (zs:List Int) (w:World) (hH:Holds Aw w blk off zs.toArray) (hsz:zs.length≤9223372036854775807) (hcap:zs.length≤cap):
 Calls Tryz.prog 104 #[.slice (some ⟨blk,off,none⟩) zs.length cap] w fun e w'=>e=.returned (.slice (some ⟨blk,off,none⟩) (Lib.compact zs).length cap)∧∃q,w'=putRow Aw (Sort.ahead w q) blk off (Lib.compact zs++List.replicate (zs.length-(Lib.compact zs).length) 0).toArray:=Any.slices_Compact_int Tryz.aiG blk off cap zs w hH hsz hcap
open Go.RowKit Go.Lib Go.Sort in
def Tryz.slices_Compact_int_empty (a:Option Addr) (cap:Nat) (w:World):
 Calls Tryz.prog 104 #[.slice a 0 cap] w fun e w'=>e=.returned (.slice a 0 cap)∧w'=w:=Any.slices_Compact_int_empty Tryz.aiG a cap w
open Go.RowKit Go.Sort in
def Tryz.slices_Sort_int_none (p:Option Addr) (cap:Nat) (w:World):
 Calls Tryz.prog 103 #[.slice p 0 cap] w fun e w'=>e=.returned (.tuple #[])∧w'=w:=Any.slices_Sort_int_none Tryz.lays189 p cap w
end Go.Proofs
end
section
namespace Go.Proofs.YtolgdkhlelfpoaaGreat
open Go.RowKit
def Yd (x:Int):List Int→List Int
 | []=>[x]
 |y::l=>bif decide (x≤y)then x::y::l else y::Yd x l
def Pg (l:List Int):List Int:=l.foldr Yd []
def aHN (x:Int):∀l,(Yd x l).Perm (x::l)
 | []=>.refl _
 |y::l=>by
  unfold Yd;cases h:decide (x≤y)with
  |true=>exact .refl _
  |false=>exact((aHN x l).cons y).trans (.swap x y l)
def Uw :∀l,(Pg l).Perm l
 | []=>.refl _
 |x::l=>(aHN x (Pg l)).trans ((Uw l).cons x)
def aK9 (x:Int):∀l,l.Pairwise (· ≤ ·)→(Yd x l).Pairwise (· ≤ ·)
 | [],_=>by simp[Yd]
 |y::l,h=>by
  have h':=PD.1 h;unfold Yd;cases m:decide (x≤y)with
  |true=>
   have j:x≤y:=PK m;refine PD.2 ⟨fun z f=>?_,h⟩;rcases Ew.1 f with rfl|f
   ·exact j
   have :=h'.1 z f;omega
  |false=>
   have j:¬x≤y:=JI m;refine PD.2 ⟨fun z f=>?_,aK9 x l h'.2⟩;rcases Ew.1 ((aHN x l).mem_iff.1 f)with rfl|f
   ·omega
   exact h'.1 z f
def aB1 :∀l,(Pg l).Pairwise (· ≤ ·)
 | []=>.nil
 |x::l=>aK9 x _ (aB1 l)
def aGp (l:List Int):Pg l=l.mergeSort fun x y=>decide (x≤y):=by
 have f:(l.mergeSort fun x y=>decide (x≤y)).Pairwise (· ≤ ·):=by
  have :=List.pairwise_mergeSort (le:=fun x y:Int=>decide (x≤y)) (by intro a b c;simp;omega) (by intro a b;simp;omega) l;exact this.imp (by intro a b h;simpa using h)
 exact((Uw l).trans (List.mergeSort_perm l _).symm).eq_of_pairwise (fun a b _ _ h k=>AL) (aB1 l) f
abbrev AZ:=List Int
def OD (l:List Int):Option AZ:=if l.length≤1099511627776 then some (Pg l)else none
def U9 (l:List Int):Option AZ:=if l.length≤1099511627776 then some (Lib.compact l)else none
def lG.nil (w:World) (e size:Nat):lG w e size (.slice none 0 0) 0 []:=.of (tZ w 0 e size)
def aj1 {w:World} {g cap n:Nat} {e:TypeId} {os:Array Obj} {f:Array Value} {j m:List Int} (hl:m.length=j.length) (q:w.heap[g]? =some (.cells f e (0,0)))
 (s:j.length≤cap) (u:cap≤maxLen) (z:cap*1≤f.size):
 lG (Go.Sort.grow (Go.Sort.putRow Aw (Go.Sort.ahead w n) g 0 m.toArray) os) e 1 (.slice (some ⟨g,0,none⟩) j.length cap) j.length (m.map Aw):=
 ⟨Y9,.inr ⟨g,cap,_,rfl,EF _,heap_sortedI _ q,s,u,by simpa[Go.Sort.putCells]using z,by rw[YJ,←hl];exact take_putCellsI f m AL⟩⟩
def ajr {w:World} {e:TypeId} {g n cap q k:Nat} {s ys:List Int} (h:lG w e 1 (.slice (some ⟨g,0,none⟩) n cap) n (s.map Aw)) (L:ys.length=n) (M:k≤n):
 lG (Go.Sort.putRow Aw (Go.Sort.ahead w q) g 0 ys.toArray) e 1 (.slice (some ⟨g,0,none⟩) k cap) k ((ys.take k).map Aw):=by
 rcases h.2 with⟨j,_⟩|⟨O,m,f,j,u,z,U,I,J,Y⟩
 ·cases j
 injection j with e1 _ e3
 injection e1 with e1
 injection e1 with e1
 subst e1;subst e3;refine⟨E8,.inr ⟨g,cap,Go.Sort.putCells Aw 0 ys.toArray f,rfl,u,?_,AL,I,by simpa[Go.Sort.putCells]using J,?_⟩⟩
 ·simp[Go.Sort.putRow,Go.Sort.mapBlock,Go.Sort.ahead,NH,z,Go.Sort.onCells]
 have :=take_putCellsI f ys AL;rw[YJ,WY,←this,aCU,iH AL]
def arW {l m:List Int} (h:l.Perm m):Pg l=Pg m:=by
 have f:∀(l:List Int),(Pg l).Pairwise (· ≤ ·):=aB1;exact((Uw l).trans (h.trans (Uw m).symm)).eq_of_pairwise (fun a b _ _ j q=>AL) (f l) (f m)
def aqV {l m:List Int} (h:l.Perm m):OD l=OD m:=by
 unfold OD;rw[h.length_eq,arW h]
abbrev BF:=Am Tryz.prog
def aAl (l r:List Int) (h:OD l=some r):BF 103 [.aS 0] [.arr 3 1 (List.map AY l)] (.eF []) [.arr 3 1 (List.map AY r)]:=by
 unfold OD at h;split at h
 ·rename_i M;obtain rfl:=CO h;refine Am.atS fun v w j=>?_;rcases j.2 with⟨rfl,J⟩|⟨g,cap,L,rfl,m,q,s,u,z,f⟩
  ·have hl:l=[]:=GY J;subst hl;refine(Tryz.slices_Sort_int_none _ _ _).mono ?_;rintro e w' ⟨rfl,h⟩;subst h;exact⟨rfl,lG.nil _ _ _,Turns.refl _ _⟩
  have I:(l.mergeSort fun x y=>decide (x≤y)).length=l.length:=List.length_mergeSort _;refine(Tryz.slices_Sort_int g 0 cap l w (holds_of_blockI q RJ) (FN.1 q).1 AL).mono ?_;rintro e w' ⟨rfl,n,os,rfl⟩;rw[aGp];refine⟨rfl,?_,Turns.arA (grownBy_sortedI _)⟩;rw[I];exact aj1 (os:=os) (n:=n) I q s u z
 cases h
def aFM (l r:List Int) (h:U9 l=some r):BF 104 [.aS 0] [.arr 3 1 (List.map AY l)] (.aS 1) [.dead,.arr 3 1 (List.map AY r)]:=by
 unfold U9 at h;split at h
 ·rename_i Y;obtain rfl:=CO h;refine Am.turned fun v w j=>?_;rcases j.2 with⟨rfl,J⟩|⟨g,cap,L,rfl,s,m,u,M,O,f⟩
  ·have hl:l=[]:=GY J;subst hl;refine(Tryz.slices_Compact_int_empty _ _ _).mono ?_;rintro e w' ⟨rfl,h⟩;subst h;exact⟨_,rfl,lG.nil _ _ _,Turns.refl _ _,fun g m=>by simp[DC]at m⟩
  refine(Tryz.slices_Compact_int g 0 cap l w (holds_of_blockI m RJ) AL u).mono ?_;rintro e w' ⟨rfl,q,rfl⟩;have z:=Lib.compact_length_le l;have U:(Lib.compact l++List.replicate (l.length-(Lib.compact l).length) 0).length=l.length:=E8
  refine⟨_,rfl,?_,?_,fun g m=>.inl m⟩
  ·have :=ajr (q:=q) j U z;rw[qo rfl]at this;exact this
  exact⟨rfl,rfl,rfl,by simp[Sort.putRow,Sort.mapBlock,Sort.ahead],fun k Z I=>by
   have :g≠k:=fun e=>I jB
   simp[Sort.putRow,Sort.mapBlock,Sort.ahead,NH,this]⟩
 cases h
def strings_IndexByte (s:ByteArray) (c:Int):Option Int:=some (Lib.indexByte s.data.toList c.toNat.toUInt8)
def aj8 (s:ByteArray) (c:Int) (r:Int) (h:strings_IndexByte s c=some r):BF 171 [.d (CQ s),.d (CV c)] [] (.d (AY r)) []:=by
 rw[←CO h];exact Am.plain (vs:=[.string s,.int .u8 c]) (v:=.int .i64 (Lib.indexByte s.data.toList c.toNat.toUInt8)) (fun _ _ _=>.d _ _ (.lit _)) fun w=>(Tryz.strings_IndexByte s c w).mono fun e w' ⟨f,j⟩=>⟨f,by rw[j];exact⟨rfl,rfl,rfl,Dw _,fun _ _=>rfl⟩⟩
def xC (s t:ByteArray):Option Int:=match t.data.toList with
 | [c]=>some (Lib.indexByte s.data.toList c)
 |_=>none
def ai6 (s t:ByteArray) (r:Int) (h:xC s t=some r):BF 309 [.d (CQ s),.d (CQ t)] [] (.d (AY r)) []:=by
 unfold xC at h;split at h
 ·rename_i c f;rw[←CO h];obtain⟨⟨l⟩⟩:=t;simp only at f;subst f;exact Am.plain (vs:=[.string s,.string ⟨#[c]⟩]) (v:=.int .i64 (Lib.indexByte s.data.toList c)) (fun _ _ _=>.d _ _ (.lit _)) fun w=>(Tryz.stringslite_Index_one s c w).mono fun e w' ⟨j,m⟩=>⟨j,by rw[m];exact⟨rfl,rfl,rfl,Dw _,fun _ _=>rfl⟩⟩
 cases h
structure Xl (P:Program) (t:TypeId) (s:Nat) (z:Value):Prop where
 und:∃n e,P.underlying t=some (.array n e)∧∃i,P.info? e=some i∧i.size=s
 zero:(P.info? t).bind (·.zero)=some z
 one:z.cells.all (·.oneCell')=true
def abY (P:Program) (t:TypeId) (s:Nat):Bool:=
 match P.underlying t with
 |some (.array _ e)=>match P.info? e with
  |some i=>decide (i.size=s)
  |none=>false
 |_=>false
def aBF {P:Program} {t:TypeId} {s:Nat} {z:Value} (h:abY P t s=true) (f:(P.info? t).bind (·.zero)=some z) (j:z.cells.all (·.oneCell')=true):Xl P t s z:=by
 unfold abY at h;split at h
 ·rename_i n e m;split at h
  ·rename_i i hi;exact⟨⟨n,e,m,i,hi,PK h⟩,f,j⟩
  cases h
 cases h
section
variable {P : Program} {o : Oper} {es : List BH} {α : Type}
def aqM {t:TypeId} {f:Array (Nat×Operand)} {s:Nat} {z:Value} (Z:Xl P t s z) (vs:List Ac) (hp:Ld (fun i=>some (i*s,s)) (Eo z).length f.toList vs=true)
 (hd:(Iz (fun i=>some (i*s,s)) (Eo z) f.toList vs).all Ac.yF=true) (ho:o.op=.build t f):
 Bc P o (LD f.toList vs) es (.d (.agg (Hr (Iz (fun i=>some (i*s,s)) (Eo z) f.toList vs)))) es:=
 .pure fun ok H a w _ _ hn=>by
  obtain⟨⟨n,e,hu,i,hi,hs⟩,hz,h1⟩:=Z;have m:=sJ (P:=P) hz w;have q:(underlying t).run P w=.ok (.array n e) w:=aBy
  have u:(sizeOf e).run P w=.ok s w:=aFR
  obtain⟨j,hc,I⟩:=lV (place:=fun i=>some (i*s,s)) f.toList vs (Eo z) z.cells (aG0 (ok:=ok) (w:=w) (H:=H) h1) hp hn;refine⟨.agg j,?_,.d _ _ ?_⟩
  ·have e:(f.map fun(i,x)=>(i,a.eval x)).toList=f.toList.map fun p=>(p.1,a.eval p.2):=BK
   simp only[execOp,ho,Instr.build,Ei,m,q,u,Ep];rw[e,hc];rfl
  rw[abO hd]at I;generalize Hr (Iz (fun i=>some (i*s,s)) (Eo z) f.toList vs)=xs at I ⊢;obtain⟨U,J⟩:=I;simp only[Ch]at U J
  have Y:∀i,i<xs.length→(xs.map Ac.d).getD i .junk=.d (xs.getD i DR):=by
   intro i hi;simp[List.getD,hi]
  have L:j.size=xs.length:=aBD
  refine .agg xs j L ?_ ?_<;>intro i hi
  ·have :=(J i hi).1;rw[Y i hi]at this;exact this
  have M:=(J i hi).2;rw[Y i hi]at M;have O:i<j.size:=AL
  have e:j.toList.getD i undef=j.getD i undef:=by simp[List.getD,Array.getD,O]
  rw[e]at M;cases M with |d _ _ h=>exact h
def KE (enc:α→D) (l:List α):D:=.agg (l.map enc)
def aAA {x y:Operand} {t e:TypeId} {n:Nat} {k:IntKind} {i:Int} (enc:α→D) {l:List α} {a:α} (h:BJ l i=some a) (L:P.underlying t=some (.array n e)) (s:Dc P e false 1) (hl:l.length=n) (M:o.op=.index t x y):
 Bc P o [(x,.d (KE enc l)),(y,.d (.lit (.int k i)))] es (.d (enc a)) es:=
 .pure fun ok H O w _ _ u=>by
  obtain⟨U,z⟩:=IV h;have j:=(EN u).1;have I:=(EN u).2.lit;simp only at j I;have m:=(FC.1 z).1;have Y:(underlying t).run P w=.ok (.array n e) w:=by simp[underlying,L]
  generalize Z:O.eval x=v at j;cases j with
  |d _ _ j=>
   cases j with
   |agg _ vs q hf J=>
    rw[Ch]at q hf J;have f:i.toNat<vs.size:=AL
    refine⟨vs[i.toNat],?_,?_⟩
    ·have hb:0≤i∧i<n:=⟨U,AL⟩
     simp only[execOp,M,Z,I,Instr.index,asIntOf,Ei,FT,Y,Ep,hb,and_self,KD,s.size w,part,s.agg w];simp[f]
    have :=J i.toNat m;simp only[Array.getD,f,dif_pos]at this;have e2:(l.map enc).getD i.toNat DR=enc a:=by simp[List.getD,z]
    rw[e2]at this;exact .d _ _ this
def amn {x:Operand} {k off:Nat} (j:o.op=.nilCheck x):Bc P o [(x,.ptr k off)] es (.ptr k off) es:=
 .pure fun ok H a w _ _ m=>by
  have f:=J6 m;simp only at f;generalize q:a.eval x=u at f;cases f with
  |ptr _ _ b s h=>exact⟨_,by simp[execOp,j,q],.ptr _ _ b s h⟩
def afD {x:Operand} {k i off:Nat} (j:o.op=.nilCheck x):Bc P o [(x,.kE k i off)] es (.kE k i off) es:=
 .pure fun ok H a w _ _ m=>by
  have f:=J6 m;simp only at f;generalize q:a.eval x=u at f;cases f with
  |kE _ _ _ b n cap s h=>exact⟨_,by simp[execOp,j,q],.kE _ _ _ b n cap s h⟩
def ahh {x:Operand} {cs:List D} {off:Nat} (m:o.op=.nilCheck x):Bc P o [(x,.d (.ref cs off))] es (.d (.ref cs off)) es:=
 .pure fun ok H a w _ _ q=>by
  have f:=J6 q;simp only at f;generalize s:a.eval x=u at f;cases f with
  |d _ _ h=>cases h with
   |ref _ _ b p j z I J=>exact⟨_,by simp[execOp,m,s],.d _ _ (.ref _ _ b p j z I J)⟩
def aLs (n:Nat):D:=.fn (.func n) [] []
end
def Oe {α:Type} (p:α→Prop):List α→Prop
 | []=>True
 |x::l=>p x∧Oe p l
def Oe.mem {α:Type} {p:α→Prop}:∀{l:List α},Oe p l→∀x∈l,p x
 | [],_,x,h=>Gw
 |y::l,hl,x,h=>by
  rcases Ew.1 h with rfl|h
  ·exact hl.1
  exact hl.2.mem x h
class Kn (P:Program) where
 und:List (Nat×TypeDesc)
 aeT:Oe (fun p:Nat×TypeDesc=>P.underlying p.1=some p.2) und
 ty:List (Nat×Bool×Nat)
 hty:Oe (fun p:Nat×Bool×Nat=>Dc P p.1 p.2.1 p.2.2) ty
 fld:List ((Nat×Nat)×Nat)
 hfld:Oe (fun p:(Nat×Nat)×Nat=>DF P p.1.1 p.1.2 p.2) fld
 part:List ((Nat×Nat)×Nat×Bool×Nat)
 hpart:Oe (fun p:(Nat×Nat)×Nat×Bool×Nat=>eI P p.1.1 p.1.2 p.2.1 p.2.2.1 p.2.2.2=true) part
 zero:List (Nat×Value)
 hzero:Oe (fun p:Nat×Value=>(P.info? p.1).bind (·.zero)=some p.2∧p.2.cells.all (·.oneCell')=true) zero
 st:List (Nat×List (Nat×Nat)×Value)
 hst:Oe (fun p:Nat×List (Nat×Nat)×Value=>Hz P p.1 p.2.1 p.2.2) st
 arr:List (Nat×Nat×Value)
 harr:Oe (fun p:Nat×Nat×Value=>Xl P p.1 p.2.1 p.2.2) arr
def OV {β:Type} (t:Nat):List (Nat×β)→Option β
 | []=>none
 |(u,b)::l=>match Nat.beq t u with |true=>some b|false=>OV t l
def MZ {β:Type} {t:Nat} {b:β}:∀{l:List (Nat×β)},OV t l=some b→(t,b)∈l
 | [],h=>Gt
 |(u,c)::l,h=>by
  unfold OV at h;split at h
  ·rename_i e;cases h;rw[aI9 e];exact FB
  exact G9 _ (MZ h)
def oU {β:Type} (t f:Nat):List ((Nat×Nat)×β)→Option β
 | []=>none
 |((u,g),b)::l=>match Nat.beq t u&&Nat.beq f g with |true=>some b|false=>oU t f l
def pW {β:Type} {t f:Nat} {b:β}:∀{l:List ((Nat×Nat)×β)},oU t f l=some b→((t,f),b)∈l
 | [],h=>Gt
 |((u,g),c)::l,h=>by
  unfold oU at h;split at h
  ·rename_i e;cases h;rw[CP]at e;rw[aI9 e.1,aI9 e.2];exact FB
  exact G9 _ (pW h)
structure OI where
 ns:List (Operand×Ac)
 x:Ac
 E:List BH
 bar:Bool
def aGX (op:BinOp) (k:IntKind) (a b:Int):Option Value:=
 match op with
 | .add=>some (.int k (k.wrap (a+b)))
 | .sub=>some (.int k (k.wrap (a-b)))
 | .mul=>some (.int k (k.wrap (a*b)))
 | .eql=>some (.bool (a==b))
 | .neq=>some (.bool (a != b))
 | .lss=>some (.bool (decide (a<b)))
 | .leq=>some (.bool (decide (a≤b)))
 | .gtr=>some (.bool (decide (a>b)))
 | .geq=>some (.bool (decide (a≥b)))
 |_=>none
def aj0 {op:BinOp} {k:IntKind} {a b:Int} {r:Value} {t:TypeId} {P:Program} (h:aGX op k a b=some r) (w:World):(binOp op t (.int k a) (.int k b)).run P w=.ok r w:=by
 unfold aGX at h;cases op<;>first|(cases h;done)|(cases h;simp[binOp,Op.intArith,Op.intCmp];done)|(cases h;cases k<;>rfl)
def aCd (op:BinOp) (a b:ByteArray):Option Value:=
 match op with
 | .eql=>some (.bool (a.toList==b.toList))
 | .neq=>some (.bool (!(a.toList==b.toList)))
 | .lss=>some (.bool (Op.bytesLess a.toList b.toList))
 | .leq=>some (.bool (Op.bytesLess a.toList b.toList||a.toList==b.toList))
 | .gtr=>some (.bool (!(Op.bytesLess a.toList b.toList||a.toList==b.toList)))
 | .geq=>some (.bool (!Op.bytesLess a.toList b.toList))
 |_=>none
def arT {op:BinOp} {a b:ByteArray} {r:Value} {t:TypeId} {P:Program} (h:aCd op a b=some r) (w:World):(binOp op t (.string a) (.string b)).run P w=.ok r w:=by
 unfold aCd at h;cases op<;>first|(cases h;done)|(cases h;rfl)
def Bc.avG {P:Program} {o:Oper} {ns f:List (Operand×Ac)} {es es':List BH} {x:Ac} (h:Bc P o ns es x es') (j:∀n∈ns,n∈f∨n=(.const (.slice none 0 0),.d (.sl []))):Bc P o f es x es':=by
 intro C ok H a w Q q s;refine h C ok H a w Q q (fun n m=>?_);rcases j n m with u|rfl
 ·exact s n u
 exact .d _ _ (.sl0 none 0)
def aCy {P:Program} (K:Kn P) (σ:Ar) (o:Oper):Option OI:=
 match o.op with
 | .move x=>match x with
   | .const (.slice none 0 0)=>some ⟨[],.d (.sl []),σ.ents,false⟩
   |x=>some ⟨[(x,σ.get x)],σ.get x,σ.ents,false⟩
 | .assign x=>match x with
   | .const (.slice none 0 0)=>some ⟨[],.d (.sl []),σ.ents,false⟩
   |x=>some ⟨[(x,σ.get x)],σ.get x,σ.ents,false⟩
 | .pick c x y=>match σ.get c with
   | .d (.lit (.bool true))=>some ⟨[(c,.d (.lit (.bool true))),(x,σ.get x)],σ.get x,σ.ents,false⟩
   | .d (.lit (.bool false))=>some ⟨[(c,.d (.lit (.bool false))),(y,σ.get y)],σ.get y,σ.ents,false⟩
   |_=>none
 | .binOp op t x y _=>match σ.get x,σ.get y with
   | .d (.lit (.int k a)),.d (.lit (.int k' b))=>if k=k' then(aGX op k a b).map fun r=>⟨[(x,.d (.lit (.int k a))),(y,.d (.lit (.int k b)))],.d (.lit r),σ.ents,false⟩else none
   | .d (.lit (.string a)),.d (.lit (.string b))=>(aCd op a b).map fun r=>⟨[(x,.d (.lit (.string a))),(y,.d (.lit (.string b)))],.d (.lit r),σ.ents,false⟩
   | .d (.lit (.bool a)),.d (.lit (.bool b))=>match OV t K.und with
     |some .bool=>match op with
      | .eql=>some ⟨[(x,.d (Cj a)),(y,.d (Cj b))],.d (Cj (a==b)),σ.ents,false⟩
      | .neq=>some ⟨[(x,.d (Cj a)),(y,.d (Cj b))],.d (Cj (!(a==b))),σ.ents,false⟩
      |_=>none
     |_=>none
   |_,_=>none
 | .unOp op _ x=>match σ.get x with
   | .d (.lit (.bool b))=>match op with
     | .not=>some ⟨[(x,.d (.lit (.bool b)))],.d (.lit (.bool !b)),σ.ents,false⟩
     |_=>none
   | .d (.lit (.int k n))=>match op with
     | .neg=>some ⟨[(x,.d (.lit (.int k n)))],.d (.lit (.int k (k.wrap (0-n)))),σ.ents,false⟩
     |_=>none
   |_=>none
 | .convert s t x=>match OV s K.und,OV t K.und,σ.get x with
   |some (.int I),some (.int k),.d (.lit (.int J n))=>if I=J then some ⟨[(x,.d (.lit (.int I n)))],.d (.lit (.int k (k.wrap n))),σ.ents,false⟩else none
   |some .string,some .string,.d (.lit (.string u))=>some ⟨[(x,.d (CQ u))],.d (CQ u),σ.ents,false⟩
   |_,_,_=>none
 | .extract x i=>match σ.get x with
   | .eF xs=>match xs[i]? with
     |some v=>some ⟨[(x,.eF xs)],v,σ.ents,false⟩
     |none=>none
   |_=>none
 | .fieldAddr t x f=>match oU t f K.fld,σ.get x with
   |some off,.ptr k q=>some ⟨[(x,.ptr k q)],.ptr k (q+off),σ.ents,false⟩
   |some off,.kE k i q=>some ⟨[(x,.kE k i q)],.kE k i (q+off),σ.ents,false⟩
   |some off,.d (.ref cs q)=>some ⟨[(x,.d (.ref cs q))],.d (.ref cs (q+off)),σ.ents,false⟩
   |_,_=>none
 | .nilCheck x=>match σ.get x with
   | .ptr k q=>some ⟨[(x,.ptr k q)],.ptr k q,σ.ents,false⟩
   | .kE k i q=>some ⟨[(x,.kE k i q)],.kE k i q,σ.ents,false⟩
   | .d (.ref cs q)=>some ⟨[(x,.d (.ref cs q))],.d (.ref cs q),σ.ents,false⟩
   |_=>none
 | .field t x f=>match oU t f K.part,σ.get x with
   |some (off,agg,n),.d (.agg cs)=>if off+n≤cs.length∧(agg=false→n=1)then some ⟨[(x,.d (.agg cs))],.d (Nc agg cs off n),σ.ents,false⟩else none
   |_,_=>none
 | .load t x=>match OV t K.ty,σ.get x with
   |some (agg,n),.d (.ref cs off)=>if off+n≤cs.length∧(agg=false→n=1)then some ⟨[(x,.d (.ref cs off))],.d (Nc agg cs off n),σ.ents,false⟩else none
   |some (agg,n),.ptr k off=>match σ.ents[k]? with
    |some (.box cs)=>if(off+n≤cs.length∧(agg=false→n=1))∧cs.all Ac.yF=true then some ⟨[(x,.ptr k off)],.d (Nc agg (Hr cs) off n),σ.ents,false⟩else match agg,n,cs[off]? with
     |false,1,some v=>some ⟨[(x,.ptr k off)],v,σ.ents,false⟩
     |_,_,_=>none
    |_=>none
   |_,_=>none
 | .box _ x=>if(σ.get x).cells.all Ac.leaf=true then some ⟨[(x,σ.get x)],.ptr σ.ents.length 0,σ.ents++[.box (σ.get x).cells],true⟩else none
 | .alloc t=>match OV t K.zero with
   |some z=>some ⟨[],.ptr σ.ents.length 0,σ.ents++[.box (Eo z)],true⟩
   |none=>none
 | .store t x y=>match OV t K.ty,σ.get x with
   |some (_,n),.ptr k off=>match σ.ents[k]? with
    |some (.box cs)=>match y with
     | .const (.slice none 0 0)=>if n=1∧off+1≤cs.length then some ⟨[(x,.ptr k off)],.junk,σ.ents.set k (.box (setAt cs off [.d (.sl [])])),true⟩else none
     |y=>if((σ.get y).cells.all Ac.leaf=true∧(σ.get y).cells.length=n)∧off+n≤cs.length then some ⟨[(x,.ptr k off),(y,σ.get y)],.junk,σ.ents.set k (.box (setAt cs off (σ.get y).cells)),true⟩else none
    |_=>none
   |_,_=>none
 | .build t j=>match OV t K.st with
   |some (m,z)=>
    if Ld (fun(i:Nat)=>m[i]?) (Eo z).length j.toList (j.toList.map fun p=>σ.get p.2)=true∧(Iz (fun(i:Nat)=>m[i]?) (Eo z) j.toList (j.toList.map fun p=>σ.get p.2)).all Ac.yF=true
    then some ⟨LD j.toList (j.toList.map fun p=>σ.get p.2),.d (.agg (Hr (Iz (fun(i:Nat)=>m[i]?) (Eo z) j.toList (j.toList.map fun p=>σ.get p.2)))),σ.ents,false⟩
    else none
   |none=>match OV t K.arr with
    |some (s,z)=>
     if Ld (fun i=>some (i*s,s)) (Eo z).length j.toList (j.toList.map fun p=>σ.get p.2)=true∧(Iz (fun i=>some (i*s,s)) (Eo z) j.toList (j.toList.map fun p=>σ.get p.2)).all Ac.yF=true
     then some ⟨LD j.toList (j.toList.map fun p=>σ.get p.2),.d (.agg (Hr (Iz (fun i=>some (i*s,s)) (Eo z) j.toList (j.toList.map fun p=>σ.get p.2)))),σ.ents,false⟩
     else none
    |none=>none
 | .call c=>match c.callee,c.args.toList,c.argTypes.toList with
   | .builtin .len,[x],[t]=>match OV t K.und,σ.get x with
     |some .string,.d (.lit (.string s))=>some ⟨[(x,.d (CQ s))],.d (AY s.size),σ.ents,false⟩
     |_,_=>none
   |_,_,_=>none
 |_=>none
def aFP (σ:Ar):∀(l:List (Nat×Operand)),needs σ (LD l (l.map fun p=>σ.get p.2))
 | []=>trivial
 |(_,x)::l=>⟨rfl,aFP σ l⟩
def arI {P:Program} (K:Kn P) {σ:Ar} {o:Oper} {r:OI} (h:aCy K σ o=some r):Bc P o r.ns σ.ents r.x r.E∧needs σ r.ns∧(r.bar=false→r.E=σ.ents):=by
 unfold aCy at h;split at h
 ·rename_i x j;split at h
  ·cases h;exact⟨asN j,trivial,fun _=>rfl⟩
  cases h;exact⟨aep j,⟨rfl,trivial⟩,fun _=>rfl⟩
 ·rename_i x j;split at h
  ·cases h;exact⟨agc j,trivial,fun _=>rfl⟩
  cases h;exact⟨akF j,⟨rfl,trivial⟩,fun _=>rfl⟩
 ·rename_i c x y j;split at h
  ·rename_i e;cases h;exact⟨apc true rfl j,⟨e,rfl,trivial⟩,fun _=>rfl⟩
  ·rename_i e;cases h;exact⟨aoA false rfl j,⟨e,rfl,trivial⟩,fun _=>rfl⟩
  cases h
 ·rename_i op t x y t' j;split at h
  ·rename_i k a k' b O U;split at h
   ·rename_i I;subst I;rw[TQ]at h;obtain⟨v,L,rfl⟩:=h;exact⟨DY j (aj0 L) ⟨rfl,rfl⟩,⟨O,U,trivial⟩,fun _=>rfl⟩
   cases h
  ·rename_i a b O U;rw[TQ]at h;obtain⟨v,L,rfl⟩:=h;exact⟨DY j (arT L) ⟨rfl,rfl⟩,⟨O,U,trivial⟩,fun _=>rfl⟩
  ·rename_i a b O U;split at h
   ·rename_i Y;have Y:=K.aeT.mem _ (MZ Y);split at h
    ·cases h;exact⟨ai1 Y j,⟨O,U,trivial⟩,fun _=>rfl⟩
    ·cases h;exact⟨ai4 Y j,⟨O,U,trivial⟩,fun _=>rfl⟩
    cases h
   cases h
  cases h
 ·rename_i op t x j;split at h
  ·rename_i b e;split at h
   ·cases h;exact⟨aFb j (fun _=>rfl),⟨e,trivial⟩,fun _=>rfl⟩
   cases h
  ·rename_i k n e;split at h
   ·cases h;exact⟨aFb j (fun _=>rfl),⟨e,trivial⟩,fun _=>rfl⟩
   cases h
  cases h
 ·rename_i s t x j;split at h
  ·rename_i k0 k k1 n q h2 e;split at h
   ·rename_i I;subst I;cases h;exact⟨aez (K.aeT.mem _ (MZ q)) (K.aeT.mem _ (MZ h2)) j,⟨e,trivial⟩,fun _=>rfl⟩
   cases h
  ·rename_i u q h2 e;cases h;exact⟨afY (K.aeT.mem _ (MZ q)) (K.aeT.mem _ (MZ h2)) j,⟨e,trivial⟩,fun _=>rfl⟩
  cases h
 ·rename_i x i j;split at h
  ·rename_i xs e;split at h
   ·rename_i v L;cases h;exact⟨apx j L,⟨e,trivial⟩,fun _=>rfl⟩
   cases h
  cases h
 ·rename_i t x f j;split at h
  ·rename_i off k o' q e;cases h;exact⟨aii (K.hfld.mem _ (pW q)) j,⟨e,trivial⟩,fun _=>rfl⟩
  ·rename_i off k i o' q e;cases h;exact⟨ajR (K.hfld.mem _ (pW q)) j,⟨e,trivial⟩,fun _=>rfl⟩
  ·rename_i off cs o' q e;cases h;exact⟨anD (K.hfld.mem _ (pW q)) j,⟨e,trivial⟩,fun _=>rfl⟩
  cases h
 ·rename_i x j;split at h
  ·rename_i e;cases h;exact⟨amn j,⟨e,trivial⟩,fun _=>rfl⟩
  ·rename_i e;cases h;exact⟨afD j,⟨e,trivial⟩,fun _=>rfl⟩
  ·rename_i e;cases h;exact⟨ahh j,⟨e,trivial⟩,fun _=>rfl⟩
  cases h
 ·rename_i t x f j;split at h
  ·rename_i off agg n cs q e;split at h
   ·rename_i m;cases h;exact⟨alf rfl (K.hpart.mem _ (pW q)) m.1 m.2 j,⟨e,trivial⟩,fun _=>rfl⟩
   cases h
  cases h
 ·rename_i t x j;split at h
  ·rename_i agg n cs off q e;split at h
   ·rename_i m;cases h;exact⟨as7 rfl (K.hty.mem _ (MZ q)) m.1 m.2 j,⟨e,trivial⟩,fun _=>rfl⟩
   cases h
  ·rename_i agg n k off q e;split at h
   ·rename_i cs I;split at h
    ·rename_i m;cases h;exact⟨an3 rfl I m.2 (K.hty.mem _ (MZ q)) m.1.1 m.1.2 j,⟨e,trivial⟩,fun _=>rfl⟩
    split at h
    ·rename_i v L _;cases h;exact⟨aIx I L (K.hty.mem _ (MZ q)) j,⟨e,trivial⟩,fun _=>rfl⟩
    cases h
   cases h
  cases h
 ·rename_i t x j;split at h
  ·rename_i m;cases h;exact⟨afG m j,⟨rfl,trivial⟩,fun M=>by cases M⟩
  cases h
 ·rename_i t j;split at h
  ·rename_i z hz;cases h;exact⟨af9 (K.hzero.mem _ (MZ hz)).1 (K.hzero.mem _ (MZ hz)).2 j,trivial,fun M=>by cases M⟩
  cases h
 ·rename_i t x y j;split at h
  ·rename_i agg n k off q e;split at h
   ·rename_i cs I;split at h
    ·split at h
     ·rename_i m;cases h;refine⟨Bc.avG (ace (v:=.d (.sl [])) I rfl (by have h9:=(K.hty.mem _ (MZ q)).size;rw[m.1]at h9;exact h9) rfl m.2 j) (fun n hn=>?_),⟨e,trivial⟩,fun M=>by cases M⟩;simp only[Ew,GR,fB]at hn;rcases hn with rfl|rfl
      ·exact .inl BK
      exact .inr rfl
     cases h
    split at h
    ·rename_i m;cases h;exact⟨ace I m.1.1 (K.hty.mem _ (MZ q)).size m.1.2 m.2 j,⟨e,rfl,trivial⟩,fun M=>by cases M⟩
    cases h
   cases h
  cases h
 ·rename_i t parts j;split at h
  ·rename_i Z z hs;split at h
   ·rename_i m;cases h;exact⟨aqF (K.hst.mem _ (MZ hs)) _ j rfl m.1 m.2,aFP σ _,fun _=>rfl⟩
   cases h
  split at h
  ·rename_i s z hs;split at h
   ·rename_i m;cases h;exact⟨aqM (K.harr.mem _ (MZ hs)) _ m.1 m.2 j,aFP σ _,fun _=>rfl⟩
   cases h
  cases h
 ·rename_i c j;split at h
  ·rename_i x t J ha ht
   have j:o.op=.call { callee:=.builtin .len,args:= #[x],argTypes:= #[t] }:=by
    obtain⟨cal,ayD,ts⟩:=c;simp only at J ha ht;rw[j,J,show ayD= #[x]from by rw[←fH (xs:=ayD),ha],show ts= #[t]from by rw[←fH (xs:=ts),ht]]
   split at h
   ·rename_i s q e;cases h;exact⟨ar4 s (K.aeT.mem _ (MZ q)) j,⟨e,trivial⟩,fun _=>rfl⟩
   cases h
  cases h
 cases h
def JH (ops:Array Oper) (σ:Ar):Option (Nat×Bool)→Option Bool
 |none=>some true
 |some (j,f)=>match(ops[j]?).bind (·.dst)with
  |some d=>match σ.slots.getD d .junk with
   | .d (.lit (.bool b))=>some (b==f)
   | .d (.lit (.tuple a))=>match a.toList with
     | []=>some false
     |_=>none
   |_=>none
  |none=>none
def Kw {ops:Array Oper} {σ:Ar} {g:Option (Nat×Bool)} (h:JH ops σ g=some true):Ut ops σ g:=by
 unfold JH at h;split at h
 ·exact .inl rfl
 rename_i j f;split at h
 ·rename_i d hd;split at h
  ·rename_i b m;refine .inr ⟨j,f,d,b,rfl,hd,m,?_⟩;simpa using h
  ·split at h<;>cases h
  cases h
 cases h
def asV {ops:Array Oper} {σ:Ar} {g:Option (Nat×Bool)} (h:JH ops σ g=some false):Vr ops σ g:=by
 unfold JH at h;split at h
 ·cases h
 rename_i j f;split at h
 ·rename_i d hd;split at h
  ·rename_i b m;refine afg j f d b rfl hd m ?_;have :(b==f)=false:=CO h;cases b<;>cases f<;>first|rfl|cases this
  ·rename_i a m;split at h
   ·rename_i ha;have ha:a= #[]:=by rw[←fH (xs:=a),ha]
    subst ha;exact ai2 j f d rfl hd m
   cases h
  cases h
 cases h
def UH {P:Program} (K:Kn P) (ops:Array Oper) (σ:Ar) (o:Oper):Option OI:=
 match JH ops σ o.guard with
 |some true=>match aCy K σ o with
  |some r=>if(LP r.ns).all (tmpsOf o).contains=true then some r else none
  |none=>none
 |some false=>some ⟨[],.d (.lit undef),σ.ents,false⟩
 |none=>none
def WA {P:Program} (K:Kn P) {ops:Array Oper} {σ:Ar} {o:Oper} {r:OI} (h:UH K ops σ o=some r):Py P ops σ r.x r.E r.bar o:=by
 unfold UH at h;split at h
 ·rename_i f;split at h
  ·rename_i z j;split at h
   ·rename_i m;cases h;obtain⟨q,s,u⟩:=arI K j;exact⟨.inl ⟨_,q,s,m,Kw f⟩,u⟩
   cases h
  cases h
 ·rename_i f;cases h;exact⟨.inr ⟨rfl,rfl,asV f⟩,fun _=>rfl⟩
 cases h
def Gj {P:Program} (K:Kn P) (ops:Array Oper):Nat→List Oper→Ar→Option (Ar×List OI)
 |0,_,σ=>some (σ,[])
 |n+1,l,σ=>match l with
  |o::l=>match UH K ops σ o with
   |some r=>match Gj K ops n l (σ.put o.dst r.x r.E)with
    |some (σ',rs)=>some (σ',r::rs)
    |none=>none
   |none=>none
  | []=>none
def Q8 :Option (Ar×List OI)→Ar
 |some (σ,_)=>σ
 |none=>⟨[],[],0⟩
def Xo :Option (Ar×List OI)→List OI
 |some (_,rs)=>rs
 |none=>[]
def Chain.auto {P:Program} (K:Kn P) {ops:Array Oper}:∀(n:Nat) {l:List Oper} {σ σ':Ar},(Gj K ops n l σ).isSome=true→Chain P ops (l.drop n) (Q8 (Gj K ops n l σ)) σ'→Chain P ops l σ σ'
 |0,l,σ,σ',_,k=>by simpa[Gj,Q8]using k
 |n+1,l,σ,σ',h,k=>by
  unfold Gj at h k;split at h
  ·rename_i o l';split at h
   ·rename_i r j;split at h
    ·rename_i m rs f;simp only[j,f]at k;refine .ZE o.dst (WA K j) rfl (Chain.auto K n (by rw[f];rfl) ?_);rw[f];exact k
    cases h
   cases h
  cases h
def El.auto {P:Program} (K:Kn P) {ops:Array Oper}:∀(n:Nat) {l:List Oper} {σ σ':Ar} {rs:List Ac} {ess:List (List BH)} {bs:List Bool},(Gj K ops n l σ).isSome=true→El P ops (l.drop n) (Q8 (Gj K ops n l σ)) rs ess bs σ'→
 El P ops l σ ((Xo (Gj K ops n l σ)).map OI.x++rs) ((Xo (Gj K ops n l σ)).map OI.E++ess) ((Xo (Gj K ops n l σ)).map OI.bar++bs) σ'
 |0,l,σ,σ',rs,ess,bs,_,k=>by simpa[Gj,Q8,Xo]using k
 |n+1,l,σ,σ',rs,ess,bs,h,k=>by
  unfold Gj at h k ⊢;split at h
  ·rename_i o l';split at h
   ·rename_i r j;split at h
    ·rename_i q m f;simp only[j,f]at k ⊢;refine .ZE o.dst (WA K j) rfl ?_;have :=El.auto K n (l:=l') (σ:=σ.put o.dst r.x r.E) (σ':=σ') (rs:=rs) (ess:=ess) (bs:=bs) (by rw[f];rfl) (by rw[f];exact k);rw[f]at this;exact this
    cases h
   cases h
  cases h
def Chain.a {P:Program} [T:Kn P] {ops:Array Oper} {l:List Oper} {σ σ':Ar} (n:Nat) (k:Chain P ops (l.drop n) (Q8 (Gj T ops n l σ)) σ') (h:(Gj T ops n l σ).isSome=true:=by kernel_rfl):Chain P ops l σ σ':=Chain.auto T n h k
def El.a {P:Program} [T:Kn P] {ops:Array Oper} {l:List Oper} {σ σ':Ar} {rs:List Ac} {ess:List (List BH)} {bs:List Bool} (n:Nat) (k:El P ops (l.drop n) (Q8 (Gj T ops n l σ)) rs ess bs σ') (h:(Gj T ops n l σ).isSome=true:=by kernel_rfl):
 El P ops l σ ((Xo (Gj T ops n l σ)).map OI.x++rs) ((Xo (Gj T ops n l σ)).map OI.E++ess) ((Xo (Gj T ops n l σ)).map OI.bar++bs) σ':=El.auto T n h k
def Chain.c {P:Program} [T:Kn P] {ops:Array Oper} {o:Oper} {rest:List Oper} {σ σ':Ar} {e c:Bool} (h:some e=some c) (k:Chain P ops rest (σ.pY o.dst (.d (.lit (.bool c)))) σ') (j:(UH T ops σ o).map (fun r=>(r.x,r.E,r.bar))=some (.d (.lit (.bool e)),σ.ents,false):=by kernel_rfl):Chain P ops (o::rest) σ σ':=by
 rw[TQ]at j;obtain⟨r,q,f⟩:=j;have m:=WA T q;simp only[Qx]at f;rw[f.1,f.2.1,f.2.2,CO h]at m;exact .ZE o.dst m rfl k
def El.c {P:Program} [T:Kn P] {ops:Array Oper} {o:Oper} {rest:List Oper} {σ σ':Ar} {rs:List Ac} {ess:List (List BH)} {bs:List Bool} {e c:Bool} (h:some e=some c) (k:El P ops rest (σ.pY o.dst (.d (.lit (.bool c)))) rs ess bs σ') (j:(UH T ops σ o).map (fun r=>(r.x,r.E,r.bar))=some (.d (.lit (.bool e)),σ.ents,false):=by kernel_rfl):
 El P ops (o::rest) σ (.d (.lit (.bool c))::rs) (σ.ents::ess) (false::bs) σ':=by
 rw[TQ]at j;obtain⟨r,q,f⟩:=j;have m:=WA T q;simp only[Qx]at f;rw[f.1,f.2.1,f.2.2,CO h]at m;exact .ZE o.dst m rfl k
def aJC (σ:Ar) (ns:List (Operand×Ac)):Prop:=(ns.map fun n=>σ.get n.1)=ns.map (·.2)
def TW {σ:Ar}:∀{ns:List (Operand×Ac)},aJC σ ns→needs σ ns
 | [],_=>trivial
 |n::ns,h=>by
  simp only[aJC,JD,aEe]at h;exact⟨h.1,TW h.2⟩
def Chain.p {P:Program} {ops:Array Oper} {o:Oper} {rest:List Oper} {σ σ':Ar} {ns:List (Operand×Ac)} {x:Ac} (h:Bc P o ns σ.ents x σ.ents) (k:Chain P ops rest (σ.pY o.dst x) σ') (f:(ns.map fun n=>σ.get n.1)=ns.map (·.2):=by kernel_rfl) (j:JH ops σ o.guard=some true:=by kernel_rfl):Chain P ops (o::rest) σ σ':=
 .op o.dst h (TW f) (Kw j) rfl k
def El.p {P:Program} {ops:Array Oper} {o:Oper} {rest:List Oper} {σ σ':Ar} {ns:List (Operand×Ac)} {x:Ac} {rs:List Ac} {ess:List (List BH)} {bs:List Bool} (h:Bc P o ns σ.ents x σ.ents) (k:El P ops rest (σ.pY o.dst x) rs ess bs σ') (f:(ns.map fun n=>σ.get n.1)=ns.map (·.2):=by kernel_rfl) (j:JH ops σ o.guard=some true:=by kernel_rfl)
 (m:(LP ns).all (tmpsOf o).contains=true:=by kernel_rfl):El P ops (o::rest) σ (x::rs) (σ.ents::ess) (false::bs) σ':=
 .op o.dst h (TW f) (Kw j) rfl m k
def Chain.e {P:Program} {ops:Array Oper} {o:Oper} {rest:List Oper} {σ σ':Ar} {ns:List (Operand×Ac)} {x:Ac} {es':List BH} (E:List BH) (h:Bc P o ns σ.ents x es') (k:Chain P ops rest (σ.put o.dst x E) σ') (f:es'=E:=by kernel_rfl) (j:(ns.map fun n=>σ.get n.1)=ns.map (·.2):=by kernel_rfl) (m:JH ops σ o.guard=some true:=by kernel_rfl):Chain P ops (o::rest) σ σ':=
 .oe o.dst E h f (TW j) (Kw m) rfl k
def El.e {P:Program} {ops:Array Oper} {o:Oper} {rest:List Oper} {σ σ':Ar} {ns:List (Operand×Ac)} {x:Ac} {es':List BH} {rs:List Ac} {ess:List (List BH)} {bs:List Bool} (E:List BH) (h:Bc P o ns σ.ents x es') (k:El P ops rest (σ.put o.dst x E) rs ess bs σ') (f:es'=E:=by kernel_rfl) (j:(ns.map fun n=>σ.get n.1)=ns.map (·.2):=by kernel_rfl) (m:JH ops σ o.guard=some true:=by kernel_rfl)
 (q:(LP ns).all (tmpsOf o).contains=true:=by kernel_rfl):El P ops (o::rest) σ (x::rs) (E::ess) (true::bs) σ':=
 .oe o.dst E h f (TW j) (Kw m) rfl q k
def TI (σ:Ar) (o:Oper):Option (FuncId×List Ac):=
 match o.op with
 | .call c=>match c.callee with
   | .value (.func f)=>some (f,c.args.toList.map σ.get)
   |_=>none
 |_=>none
def aaO {srcs:List DV}:∀{l:List Ac},l.all Ac.yF=true→Kt srcs l l
 | [],_=>trivial
 |x::l,h=>by
  simp only[qw,CP]at h;refine⟨?_,aaO h.2⟩;cases x with
  |d x=>exact .inl rfl
  |_=>cases h.1
def adD (σ:Ar):∀(l:List Operand),needs σ (Ef l (l.map σ.get))
 | []=>trivial
 |_::l=>⟨rfl,adD σ l⟩
def uz {P:Program} {σ:Ar} {o:Oper} {f:FuncId} {dO:List Ac} {q:Ac} (J:Am P f dO [] q []) (L:DX P f=true) (m:TI σ o=some (f,dO)) (hd:dO.all Ac.yF=true):∃ns,Bc P o ns σ.ents (q.up [] σ.ents.length) σ.ents∧needs σ ns∧(LP ns).all (tmpsOf o).contains=true:=by
 unfold TI at m;split at m
 ·rename_i c I;split at m
  ·rename_i U j;cases m;obtain⟨callee,args,ats⟩:=c;simp only at j;subst j;refine⟨_,aeS J L (aaO hd) BK rfl I,adD σ _,?_⟩;rw[Dk];intro t u;unfold LP at u;rw[Qi]at u;obtain⟨n,M,z⟩:=u
   have s:n.1∈args.toList:=by
    have :∀(l:List Operand) (vs:List Ac),n∈Ef l vs→n.1∈l:=by
     intro l
     induction l with
     |nil=>intro vs h;cases vs<;>simp[Ef]at h
     |cons x l O=>
      intro vs h;cases vs with
      |nil=>simp[Ef]at h
      |cons v vs=>
       simp only[Ef,Ew]at h;rcases h with rfl|h
       ·exact FB
       exact G9 _ (O vs h)
    exact this _ _ M
   unfold tmpsOf;simp only[List.contains_iff_mem,Qi];refine⟨n.1,?_,z⟩;rw[I];show n.1∈(#[Operand.func f]++args).toList;simp[s]
  cases m
 cases m
def Chain.call {P:Program} {ops:Array Oper} {o:Oper} {rest:List Oper} {σ σ':Ar} {f:FuncId} {dO:List Ac} {j:Ac} (m:Am P f dO [] j []) (q:DX P f=true) (k:Chain P ops rest (σ.pY o.dst (j.up [] σ.ents.length)) σ') (s:TI σ o=some (f,dO):=by kernel_rfl)
 (hd:dO.all Ac.yF=true:=by kernel_rfl) (u:JH ops σ o.guard=some true:=by kernel_rfl):Chain P ops (o::rest) σ σ':=by
 obtain⟨ns,z,I,_⟩:=uz m q s hd;exact .op o.dst z I (Kw u) rfl k
def El.call {P:Program} {ops:Array Oper} {o:Oper} {rest:List Oper} {σ σ':Ar} {f:FuncId} {dO:List Ac} {j:Ac} {rs:List Ac} {ess:List (List BH)} {bs:List Bool} (m:Am P f dO [] j []) (q:DX P f=true) (k:El P ops rest (σ.pY o.dst (j.up [] σ.ents.length)) rs ess bs σ') (s:TI σ o=some (f,dO):=by kernel_rfl)
 (hd:dO.all Ac.yF=true:=by kernel_rfl) (u:JH ops σ o.guard=some true:=by kernel_rfl):El P ops (o::rest) σ (j.up [] σ.ents.length::rs) (σ.ents::ess) (false::bs) σ':=by
 obtain⟨ns,z,I,J⟩:=uz m q s hd;exact .op o.dst z I (Kw u) rfl J k
def pR (v:Value):Exit:=.panic [{ v,recovered:=false }]
structure D5 (P:Program) (ops:Array Oper) (l:List Oper) (σ:Ar) (K:Exit→Ar→Prop):Prop where
 run:∀(ro:Option Nat) (l2:List Oper) (Q:Exit→Act→World→Prop) (C:Dv) (ok:Nat→Prop) (H:List Ba) (a:Act) (w:World),Holds C ok H σ a w→
  ((∀σ' ok' H' a' w',K .normal σ'→Holds C ok' H' σ' a' w'→wpListIn (Hq ro) 0 P ops Q l2 a' w')∧(∀v σ' ok' H' a' w',K (pR v) σ'→Holds C ok' H' σ' a' w'→Q (pR v) a' w'))→wpListIn (Hq ro) 0 P ops Q (l++l2) a w
section
variable {P : Program} {ops : Array Oper} {o : Oper} {rest l : List Oper} {σ : Ar} {K : Exit → Ar → Prop}
def D5.nil (h:K .normal σ):D5 P ops [] σ K:=⟨fun _ _ _ _ _ _ _ _ f j=>j.1 _ _ _ _ _ h f⟩
def D5.aY {M:Ar→Prop} (h:M σ):D5 P ops [] σ (Jh M K):=.nil h
def D5.step {x:Ac} {E:List BH} {bar:Bool} (I:Py P ops σ x E bar o) (k:D5 P ops rest (σ.put o.dst x E) K):D5 P ops (o::rest) σ K:=by
 refine⟨fun ro j Q C ok H a w f z=>?_⟩;show wpListIn (Hq ro) 0 P ops Q (o::(rest++j)) a w;unfold wpListIn;rcases I.1 with⟨ns,J,L,_,m⟩|⟨rfl,rfl,m⟩
 ·rw[Cb (Np f m)];refine P5 ?_ (J.YC ro C ok H a w Q f.mem (fun n q=>NY L n q▸f.get n.1));rintro a' w' ⟨v,ok',H',rfl,s,u,M,O⟩;exact k.run ro j Q C _ _ _ _ (f.put o.dst s u M O) z
 rw[D9 (by rw[aI5 f m];simp)];exact⟨fun _ _=>trivial,k.run ro j Q C _ _ _ _ (f.put o.dst (.refl _ _) (.refl _) f.mem (.d _ _ (.lit _))) z⟩
def D5.conv (j:Ar) (h:∀C ok H a w,Holds C ok H σ a w→∃ok',Holds C ok' H j a w) (k:D5 P ops l j K):D5 P ops l σ K:=⟨fun ro m Q C ok H a w q s=>by
 obtain⟨ok',f⟩:=h C ok H a w q
 exact k.run ro m Q C _ _ _ _ f s⟩
def D5.auto (T:Kn P):∀(n:Nat) {l:List Oper} {σ:Ar},(Gj T ops n l σ).isSome=true→D5 P ops (l.drop n) (Q8 (Gj T ops n l σ)) K→D5 P ops l σ K
 |0,l,σ,_,k=>by simpa[Gj,Q8]using k
 |n+1,l,σ,h,k=>by
  unfold Gj at h k;split at h
  ·rename_i o l';split at h
   ·rename_i r j;split at h
    ·rename_i m rs f;simp only[j,f]at k;refine .step (WA T j) (D5.auto T n (by rw[f];rfl) ?_);rw[f];exact k
    cases h
   cases h
  cases h
def D5.a [T:Kn P] (n:Nat) (k:D5 P ops (l.drop n) (Q8 (Gj T ops n l σ)) K) (h:(Gj T ops n l σ).isSome=true:=by kernel_rfl):D5 P ops l σ K:=D5.auto T n h k
def D5.p {ns:List (Operand×Ac)} {x:Ac} (h:Bc P o ns σ.ents x σ.ents) (k:D5 P ops rest (σ.pY o.dst x) K) (f:(ns.map fun n=>σ.get n.1)=ns.map (·.2):=by kernel_rfl) (j:JH ops σ o.guard=some true:=by kernel_rfl) (m:(LP ns).all (tmpsOf o).contains=true:=by kernel_rfl):D5 P ops (o::rest) σ K:=
 .step (aa3 h (TW f) (Kw j) m) k
def D5.e {ns:List (Operand×Ac)} {x:Ac} {es':List BH} (E:List BH) (h:Bc P o ns σ.ents x es') (k:D5 P ops rest (σ.put o.dst x E) K) (f:es'=E:=by kernel_rfl) (j:(ns.map fun n=>σ.get n.1)=ns.map (·.2):=by kernel_rfl) (m:JH ops σ o.guard=some true:=by kernel_rfl) (q:(LP ns).all (tmpsOf o).contains=true:=by kernel_rfl):D5 P ops (o::rest) σ K:=
 .step (bar:=true) ⟨.inl ⟨ns,f▸h,TW j,q,Kw m⟩,fun h=>Gt⟩ k
def D5.call {f:FuncId} {dO:List Ac} {j:Ac} (m:Am P f dO [] j []) (q:DX P f=true) (k:D5 P ops rest (σ.pY o.dst (j.up [] σ.ents.length)) K) (s:TI σ o=some (f,dO):=by kernel_rfl)
 (hd:dO.all Ac.yF=true:=by kernel_rfl) (u:JH ops σ o.guard=some true:=by kernel_rfl):D5 P ops (o::rest) σ K:=by
 obtain⟨ns,z,I,J⟩:=uz m q s hd;exact .step (aa3 z I (Kw u) J) k
def D5.c [T:Kn P] {e c:Bool} (h:some e=some c) (k:D5 P ops rest (σ.pY o.dst (.d (.lit (.bool c)))) K) (j:(UH T ops σ o).map (fun r=>(r.x,r.E,r.bar))=some (.d (.lit (.bool e)),σ.ents,false):=by kernel_rfl):D5 P ops (o::rest) σ K:=by
 rw[TQ]at j;obtain⟨r,q,f⟩:=j;have m:=WA T q;simp only[Qx]at f;rw[f.1,f.2.1,f.2.2,CO h]at m;exact .step m k
def Ar.wipe (f:List Nat) (σ:Ar):Ar:=⟨f.foldl (fun l d=>l.set d .junk) σ.slots,σ.ents,σ.base⟩
def Holds.wipe {C:Dv} {ok:Nat→Prop} {H:List Ba} {a:Act} {w:World}:∀(f:List Nat) {σ:Ar},Holds C ok H σ a w→Holds C ok H (σ.wipe f) a w
 | [],σ,h=>h
 |d::f,σ,h=>by
  refine Holds.wipe f (σ:=⟨σ.slots.set d .junk,σ.ents,σ.base⟩) ⟨h.mem,by simpa using h.size,h.defers,h.base,fun t j=>?_⟩;simp only[Us]at j;by_cases e:d=t
  ·subst e;have m:(σ.slots.set d .junk).getD d .junk=.junk:=iy
   rw[m];exact .junk _
  have m:(σ.slots.set d .junk).getD t .junk=σ.slots.getD t .junk:=aIH
  rw[m];exact h.slot t j
def amg (n:Nat) (l f:List Oper):l++f=l.take n++(l.drop n++f):=by
 rw[←Gu,VF]
def D5.join (n:Nat) (M:Ar→Prop) (q:∀s,M s→D5 P ops (l.drop n) s K) (u:D5 P ops (l.take n) σ (Jh M K)):D5 P ops l σ K:=⟨fun ro j Q C ok H a w z m=>by
 rw[amg n l j]
 exact u.run ro _ Q C ok H a w z ⟨fun σ' ok' H' a' w' I f=>(q σ' I).run ro j Q C ok' H' a' w' f m,m.2⟩⟩
def D5.merge (n:Nat) (f:List Nat) (d:Nat) (x:Ac) (m:D5 P ops (l.take n) σ (Jh (fun s=>s.wipe f=(σ.wipe f).pY (some d) x) K)) (q:D5 P ops (l.drop n) ((σ.wipe f).pY (some d) x) K):D5 P ops l σ K:=
 .join n _ (fun s u=>⟨fun ro z Q C ok H a w I J=>by
  have e:s.wipe f=(σ.wipe f).pY (some d) x:=u;have j:=I.wipe f;rw[e]at j
  exact q.run ro z Q C ok H a w j J⟩) m
def BG {id:Nat} {Q:Exit→Ar→Prop} (h:D5 P ops ops.toList σ Q):AO P (.region id ops false) σ Q:=⟨fun ro _ C ok H a w m=>by
 refine aC9 ?_;have :=h.run ro [] (fun e a' w'=>∃ok' H' σ',Holds C ok' H' σ' a' w'∧Q e σ') C ok H a w m ⟨fun σ' ok' H' a' w' j f=>⟨ok',H',σ',f,j⟩,fun v σ' ok' H' a' w' j f=>⟨ok',H',σ',f,j⟩⟩
 rwa [S9]at this⟩
def AP {id:Nat} {y:Code} {Q:Exit→Ar→Prop} (h:D5 P ops ops.toList σ (Jh (fun s=>AO P y s Q) Q)):AO P (.seq (.region id ops false) y) σ Q:=
 AO.seq (fun s=>AO P y s Q) (BG h) (fun _ h=>h)
end
def BM (n:Nat) (l:List (Nat×Ac)):List Ac:=(List.range n).map fun i=>(OV i l).getD .junk
def mk (n w:Nat):List Bool:=(List.range n).map fun i=>Nat.testBit w i
def am8 {σ S:Ar} (m:List Bool) (π:List (Nat×Bool)) (f:Sv σ.base σ.ents π=true:=by kernel_rfl) (j:S=⟨Je π m σ.slots,QS σ.ents π,σ.base⟩:=by kernel_rfl):CJ σ S:=rP.sub ⟨m,π,f,j⟩
inductive KY (P:Program) where
 |call (i:Nat) (f:FuncId) (dO:List Ac) (res:Ac) (run:Am P f dO [] res []) (ent:DX P f=true) (dat:dO.all Ac.yF=true)
 |dat (i:Nat) (op:Op) (ns:List (Operand×Ac)) (x:Ac) (h:∀(o:Oper) (es:List BH),o.op=op→Bc P o ns es x es)
 |at_ (i:Nat) (op:Op) (ns:List (Operand×Ac)) (k:Nat) (e:BH) (x:Ac) (h:∀(o:Oper) (es:List BH),es[k]? =some e→o.op=op→Bc P o ns es x es)
 |fix (i:Nat) (op:Op) (ns:List (Operand×Ac)) (es:List BH) (x:Ac) (E:List BH) (h:∀(o:Oper),o.op=op→Bc P o ns es x E)
def KY.ix {P:Program}:KY P→Nat
 | .call i .. =>i
 | .dat i .. =>i
 | .at_ i .. =>i
 | .fix i .. =>i
inductive Vz where
 |call (c:Option (FuncId×List Ac))
 |dat (op:Op) (vs:List Ac)
 |at_ (op:Op) (vs:List Ac) (e:Option BH)
 |fix (op:Op) (vs:List Ac) (es:List BH)
def aE2 {P:Program} (i:Nat):List (KY P)→Option (KY P)
 | []=>none
 |c::l=>match Nat.beq i c.ix with |true=>some c|false=>aE2 i l
section
variable {P : Program}
def mG (σ:Ar) (o:Oper):KY P→Ar×Option Vz
 | .call _ _ _ f _ _ _=>(σ.pY o.dst (f.up [] σ.ents.length),some (.call (TI σ o)))
 | .dat _ _ ns x _=>(σ.pY o.dst x,some (.dat o.op (ns.map fun n=>σ.get n.1)))
 | .at_ _ _ ns k _ x _=>(σ.pY o.dst x,some (.at_ o.op (ns.map fun n=>σ.get n.1) σ.ents[k]?))
 | .fix _ _ ns _ x E _=>(σ.put o.dst x E,some (.fix o.op (ns.map fun n=>σ.get n.1) σ.ents))
def qM :KY P→Vz
 | .call _ f dO _ _ _ _=>.call (some (f,dO))
 | .dat _ op ns _ _=>.dat op (ns.map (·.2))
 | .at_ _ op ns _ e _ _=>.at_ op (ns.map (·.2)) (some e)
 | .fix _ op ns es _ _ _=>.fix op (ns.map (·.2)) es
def Ux (T:Kn P) (L:List (KY P)) (ops:Array Oper) (σ:Ar) (i:Nat):Option (Ar×Option Vz):=
 match ops[i]? with
 |none=>none
 |some o=>match aE2 i L with
  |some c=>match JH ops σ o.guard with
   |some true=>some (mG σ o c)
   |_=>none
  |none=>match UH T ops σ o with
   |some r=>some (σ.put o.dst r.x r.E,none)
   |none=>none
def Ku (T:Kn P) (L:List (KY P)) (ops:Array Oper) (σ:Ar):List Nat→Ar
 | []=>σ
 |i::l=>match Ux T L ops (Ku T L ops σ l) i with
  |some (σ',_)=>σ'
  |none=>σ
def XQ (ops:Array Oper) (m:List Nat) (i:Nat):Bool:=match ops[i]? with
 |some o=>o.after.toList.all fun e=> !Region.binds .any e||(m.contains e.on&&decide (e.on<ops.size))
 |none=>false
def aH7 (ops:Array Oper) (N:List (List Nat)) (F:List Nat) (k:Nat) (m:List Nat) (T:List (Nat×Nat×Nat)):Bool:=
 ((List.range ops.size).all fun i=>m.contains i|| !XQ ops m i||
   T.any fun t=>t.2.1==i&&decide (t.2.2<N.length)&&(fun q=>(List.range ops.size).all fun j=>q.contains j==(m.contains j||j==i)) (N.getD t.2.2 []))&&
 (F.contains k||(List.range ops.size).any fun i=> !m.contains i&&XQ ops m i)
def zF (ops:Array Oper) (N:List (List Nat)) (F:List Nat):Nat→List (List Nat)→List (Nat×Nat×Nat)→Bool
 |_,[],_=>true
 |k,m::M,Tr=>aH7 ops N F k m (Tr.takeWhile fun t=>t.1==k)&&zF ops N F (k+1) M (Tr.dropWhile fun t=>t.1==k)
def qQ (ops:Array Oper) (N:List (List Nat)) (Tr:List (Nat×Nat×Nat)) (F:List Nat):Bool:=zF ops N F 0 N Tr
def acW {α:Type} {p:α→Bool}:∀{l:List α} {x:α},x∈l.takeWhile p→p x=true
 | [],_,h=>Gw
 |y::l,x,h=>by
  rw[List.takeWhile_cons]at h;cases f:p y with
  |true=>
   rw[f]at h;rcases Ew.1 h with rfl|h
   ·exact f
   exact acW h
  |false=>rw[f]at h;simp at h
def aLa {ops:Array Oper} {N:List (List Nat)} {F:List Nat}:∀(M:List (List Nat)) (k:Nat) (Tr:List (Nat×Nat×Nat)),zF ops N F k M Tr=true→∀j,j<M.length→
 ∃T,aH7 ops N F (k+j) (M.getD j []) T=true∧∀t∈T,t∈Tr∧t.1=k+j
 | [],_,_,_,j,q=>Vp
 |m::M,k,Tr,h,j,q=>by
  unfold zF at h;rw[CP]at h;cases j with
  |zero=>exact⟨_,h.1,fun t f=>⟨(List.takeWhile_sublist _).subset f,by have :=acW f;simpa using this⟩⟩
  |succ j=>
   obtain⟨T,u,s⟩:=aLa M (k+1) _ h.2 j KH;refine⟨T,?_,fun t f=>⟨(aHp _).subset (s t f).1,?_⟩⟩
   ·rw[show k+(j+1)=k+1+j by omega];simpa using u
   rw[(s t f).2];omega
def Vx (L:List (KY P)) (i:Nat):Option Vz:=(aE2 i L).map qM
def ah0 (T:Kn P) {L:List (KY P)} {ops:Array Oper} {σ σ':Ar} {i:Nat} {o:Oper} (u:ops[i]? =some o) (h:Ux T L ops σ i=some (σ',Vx L i)):
 ∃x E,((∃ns,Bc P o ns σ.ents x E∧needs σ ns∧Ut ops σ o.guard)∨(x=.d (.lit undef)∧E=σ.ents∧Vr ops σ o.guard))∧σ'=σ.put o.dst x E:=by
 unfold Ux Vx at h;rw[u]at h;simp only at h;split at h
 ·rename_i c z;split at h
  ·rename_i m;simp only[z,HY,Jq]at h;cases c with
   |call i f dO I run ent dat=>
    simp only[mG,qM,Qx,Jq,Vz.call.injEq]at h;obtain⟨ns,q,s,M⟩:=uz run ent h.2 dat;exact⟨_,_,.inl ⟨ns,q,s,Kw m⟩,h.1.symm⟩
   |dat i op ns x j=>
    simp only[mG,qM,Qx,Jq,Vz.dat.injEq]at h;exact⟨_,_,.inl ⟨ns,j o _ h.2.1,TW h.2.2,Kw m⟩,h.1.symm⟩
   |at_ i op ns k e x j=>
    simp only[mG,qM,Qx,Jq,Vz.at_.injEq]at h;exact⟨_,_,.inl ⟨ns,j o _ h.2.2.2 h.2.1,TW h.2.2.1,Kw m⟩,h.1.symm⟩
   |fix i op ns es x E j=>
    simp only[mG,qM,Qx,Jq,Vz.fix.injEq]at h;exact⟨_,_,.inl ⟨ns,h.2.2.2▸j o h.2.1,TW h.2.2.1,Kw m⟩,h.1.symm⟩
  cases h
 split at h
 ·rename_i r J;simp only[Jq,Qx]at h;obtain⟨q,s⟩:=WA T J;refine⟨_,_,?_,h.1.symm⟩;rcases q with⟨ns,a,b,_,c⟩|⟨a,b,c⟩
  ·exact .inl ⟨ns,a,b,c⟩
  exact .inr ⟨a,b,c⟩
 cases h
def jv (s t:Ar):Prop:=∀C ok H a w,Holds C ok H s a w→∃ok' H',Holds C ok' H' t a w
def apT (s:Ar):jv s s:=fun _ ok H _ _ h=>⟨ok,H,h⟩
def Zf {s t:Ar} (h:CJ s t):jv s t:=h
def AO.nodes (T:Kn P) {id:Nat} {ops:Array Oper} {σ:Ar} {Q:Exit→Ar→Prop} (L:List (KY P)) (N:List (List Nat)) (Tr:List (Nat×Nat×Nat)) (F:List Nat) (Z:Ar) (hm:P.follows .mixedOrders=true) (hN:qQ ops N Tr F=true) (h0:N.getD 0 [0]=[])
 (hT:(Tr.map fun t=>Ux T L ops (Ku T L ops σ (N.getD t.1 [])) t.2.1)=Tr.map fun t=>some (Ku T L ops σ (N.getD t.2.2 []),Vx L t.2.1))
 (hF:Oe (fun k=>jv (Ku T L ops σ (N.getD k [])) Z) F) (hQ:Q .normal Z):AO P (.region id ops true) σ Q:=by
 refine⟨fun ro _ C ok H a w f=>?_⟩;refine Mem hm ?_
 let S:Nat→Ar:=fun k=>Ku T L ops σ (N.getD k [])
 let I:Array Bool→Act→World→Prop:=fun l a w=>l.size=ops.size∧∃k ok H,k<N.length∧(∀i,i<ops.size→l.getD i false=(N.getD k []).contains i)∧Holds C ok H (S k) a w
 have hNN:∀k,k<N.length→(((List.range ops.size).all fun i=>(N.getD k []).contains i|| !XQ ops (N.getD k []) i||
  Tr.any fun t=>t.1==k&&t.2.1==i&&decide (t.2.2<N.length)&&(List.range ops.size).all fun j=>(N.getD t.2.2 []).contains j==((N.getD k []).contains j||j==i))&&
  (F.contains k||(List.range ops.size).any fun i=> !(N.getD k []).contains i&&XQ ops (N.getD k []) i))=true:=fun k hk=>by
  obtain⟨T,s,z⟩:=aLa N 0 Tr hN k hk;unfold aH7 at s;rw[Ie,CP,Dk]at s;rw[CP,Dk];refine⟨fun i hi=>?_,s.2⟩;have m:=s.1 i hi;rw[ZM]at m ⊢;rcases m with m|m
  ·exact .inl m
  obtain⟨t,ht,h4⟩:=Gm.1 m;obtain⟨O,J⟩:=z t ht;rw[Ie]at J;refine .inr (Gm.2 ⟨t,O,?_⟩);rw[show(t.1==k)=true by simpa using J,G8];exact h4
 refine wX I (fun l a w h=>h.1) ?_ ?_ ops.size _ _ _ ?_ ?_
 ·rintro l a w ⟨s,k,ok,H,hk,hl,f⟩ i hi;unfold Region.ready at hi;rw[G7]at hi;obtain⟨hi1,hi2⟩:=hi;have hi':i<ops.size:=xg
  have ho:ops[i]? =some ops[i]:=by simp[hi']
  simp only[CP]at hi2;have q:=hi2.2;rw[ho]at q;simp only[HY,Lc]at q;have M:=fun e he=>(OX.1 q) e he
  have hself:l.getD i false=false:=by
   have h8:=hi2.1;have hil:i<l.size:=AL
   simp[Array.getD,hil]at h8 ⊢;exact h8
  have hnc:(N.getD k []).contains i=false:=by rw[←hl i hi'];exact hself
  have hrd:XQ ops (N.getD k []) i=true:=by
   unfold XQ;rw[ho];simp only[Dk];intro e he;have h9:=M e oC;cases hb:Region.binds .any e with
   |false=>simp
   |true=>
    simp only[hb,ES,KU]at h9 ⊢;by_cases hon:e.on<ops.size
    ·rw[←hl e.on hon,h9];simp[hon]
    have :l.getD e.on false=false:=by simp[Array.getD,show ¬e.on<l.size by omega]
    rw[this]at h9;cases h9
  have z:=hNN k hk;simp only[CP,Dk]at z;have m:=z.1 i (by simpa using hi');rw[hnc,hrd]at m;simp only[ES,Bool.or_self,KU,Gm]at m;obtain⟨⟨k',u,t⟩,htm,h4⟩:=m;simp only[CP,PX,Fl,Dk]at h4;obtain⟨⟨⟨rfl,rfl⟩,ht⟩,O⟩:=h4;have J:Ux T L ops (S k') u=some (S t,Vx L u):=List.map_inj_left.1 hT (k',u,t) htm;obtain⟨x,E,hs,he⟩:=ah0 T ho J
  have U:∀(a':Act) (w':World) (ok':Nat→Prop) (H':List Ba),Holds C ok' H' ((S k').put ops[u].dst x E) a' w'→I (l.setIfInBounds u true) a' w':=by
   intro a' w' ok' H' hp;refine⟨by simp[s],t,ok',H',ht,fun j hj=>?_,he▸hp⟩;have h7:=O j (by simpa using hj);rw[h7,←hl j hj];by_cases hij:u=j
   ·subst hij;simp[Array.getD,s,hj]
   have :(j==u)=false:=E8
   rw[this,KN];simp only[GU,JB hij]
  unfold wpOpIn;rw[ho];show if Region.wanted ops[u] (yielded ops a.tmps)=true then _ else _
  rcases hs with⟨ns,hop,ZF,hg⟩|⟨rfl,rfl,hg⟩
  ·rw[Cb (Np f hg)];refine P5 ?_ (hop.YC ro C ok H a w _ f.mem (fun n hn'=>NY ZF n hn'▸f.get n.1));rintro a' w' ⟨v,ok',H',rfl,hgr,hnn,hm',hx⟩;exact U _ _ _ _ (f.put ops[u].dst hgr hnn hm' hx)
  rw[D9 (by rw[aI5 f hg];simp)];exact⟨fun _ _=>trivial,U _ _ _ _ (f.put ops[u].dst (.refl _ _) (.refl _) f.mem (.d _ _ (.lit _)))⟩
 ·rintro l a w ⟨s,k,ok,H,hk,hl,f⟩ hr;have z:=hNN k hk;simp only[CP,ZM]at z
  have hFk:k∈F:=by
   rcases z.2 with h|h
   ·simpa using h
   rw[Gm]at h;obtain⟨i,hi,m⟩:=h;simp only[Ze]at hi;simp only[CP,Qp]at m;obtain⟨h4,O⟩:=m;have ho:ops[i]? =some ops[i]:=Oo
   have Y:i∈Region.ready .any ops l:=by
    unfold Region.ready;rw[G7];refine⟨FX,?_⟩;have hf:l.getD i false=false:=by rw[hl i hi];exact h4
    have hil:i<l.size:=AL
    have hf':l.getD i true=false:=um
    rw[hf',ho];simp only[Jm,G8,HY,Lc];rw[OX];intro e he;unfold XQ at O;rw[ho]at O;simp only[Dk]at O;have J:=O e oC;cases hb:Region.binds .any e with
    |false=>simp
    |true=>
     simp only[hb,ES,KU]at J ⊢;rw[CP,Fl]at J;rw[hl e.on J.2];exact J.1
   rw[hr]at Y;simp at Y
  obtain⟨ok',H',m⟩:=hF.mem k hFk C ok H a w f;exact⟨ok',H',Z,m,hQ⟩
 ·unfold toCome;simp
 refine⟨BK,0,ok,H,?_,fun i hi=>?_,?_⟩
 ·cases N with
  |nil=>cases h0
  |cons x l=>simp
 ·have e:N.getD 0 []=[]:=by
   cases N with
   |nil=>rfl
   |cons x l=>simpa using h0
  rw[e];simp[Array.getD]
 have e:S 0=σ:=by
  show Ku T L ops σ (N.getD 0 [])=σ;cases N with
  |nil=>rfl
  |cons x l=>have :x=[]:=by simpa using h0
             subst this;rfl
 rw[e];refine⟨⟨⟨f.mem.fr.os,f.mem.fr.tape,f.mem.fr.output,f.mem.fr.size,f.mem.fr.block⟩,f.mem.vY,f.mem.vZ,f.mem.jF,f.mem.names,f.mem.hlen,fun k e h s z=>(f.mem.ent k e h s z).drew,f.mem.blk,f.mem.Cm⟩,f.size,f.defers.mono (fun b hb=>⟨hb,rfl⟩),f.base,fun t ht=>R.mono (w:=w) (ok:=ok) (w':={ w with drawn:=w.drawn+1 }) (fun b hb=>⟨hb,rfl⟩) (.refl _) (f.slot t ht)⟩
def aJP {f:FuncId} {dO:List Ac} {j:Ac} (i:Nat) (run:Am P f dO [] j []) (ent:DX P f=true) (dat:dO.all Ac.yF=true:=by kernel_rfl):KY P:=.call i f dO j run ent dat
def jV {ns:List (Operand×Ac)} {x:Ac} (i:Nat) (op:Op) (k:Nat) (e:BH) (h:∀(o:Oper) (es:List BH),es[k]? =some e→o.op=op→Bc P o ns es x es):KY P:=.at_ i op ns k e x h
def aEm {ns:List (Operand×Ac)} {x:Ac} (i:Nat) (op:Op) (es E:List BH) (h:∀(o:Oper),o.op=op→Bc P o ns es x E):KY P:=.fix i op ns es x E h
section
variable [T : Kn P] {id : Nat} {ops : Array Oper} {σ : Ar} {Q : Exit → Ar → Prop} {y : Code}
def AO.awL (L:List (KY P)) (N:List (List Nat)) (Tr:List (Nat×Nat×Nat)) (f:Nat) (j:AO P y (Ku T L ops σ (N.getD f [])) Q) (m:P.follows .mixedOrders=true:=by kernel_rfl) (q:qQ ops N Tr [f]=true:=by kernel_rfl) (s:N.getD 0 [0]=[]:=by kernel_rfl)
 (u:(Tr.map fun t=>Ux T L ops (Ku T L ops σ (N.getD t.1 [])) t.2.1)=Tr.map fun t=>some (Ku T L ops σ (N.getD t.2.2 []),Vx L t.2.1):=by kernel_rfl):AO P (.seq (.region id ops true) y) σ Q:=
 AO.seq1 _ (AO.nodes T L N Tr [f] _ m q s u ⟨apT _,trivial⟩ rfl) j
def AO.awM (L:List (KY P)) (N:List (List Nat)) (Tr:List (Nat×Nat×Nat)) (F:List Nat) (f:Ar) (j:Oe (fun k=>jv (Ku T L ops σ (N.getD k [])) f) F) (m:AO P y f Q) (q:P.follows .mixedOrders=true:=by kernel_rfl) (s:qQ ops N Tr F=true:=by kernel_rfl) (u:N.getD 0 [0]=[]:=by kernel_rfl)
 (z:(Tr.map fun t=>Ux T L ops (Ku T L ops σ (N.getD t.1 [])) t.2.1)=Tr.map fun t=>some (Ku T L ops σ (N.getD t.2.2 []),Vx L t.2.1):=by kernel_rfl):AO P (.seq (.region id ops true) y) σ Q:=
 AO.seq1 f (AO.nodes T L N Tr F f q s u z j rfl) m
end
end
section
variable {P : Program} {ops : Array Oper} {es : List BH}
def Uy (ops:Array Oper) (bs:List Bool) (sl:List Nat):Bool:=(List.range ops.size).all fun i=> !(bs.getD i false)||(!sl.contains i&&
 ((List.range i).all fun j=>sl.contains j||(List.range (i+1)).any fun m=>(decide (j<m)&& !sl.contains m)&&(match ops[m]? with |some o=>Fe o j|none=>false))&&
  ((List.range ops.size).all fun k=> !decide (i<k)||(List.range k).any fun m=>decide (i≤m)&&(match ops[k]? with |some o=>Fe o m|none=>false)))
def aEo {bs:List Bool} {sl:List Nat} (h:Uy ops bs sl=true) {i:Nat} (hi:i<ops.size) (O:bs.getD i false=true) {D:Nat→Prop} (hd:∀(j:Nat) (o:Oper),ops[j]? =some o→D j→∀m,Fe o m=true→D m)
 (U:∀(o:Oper),ops[i]? =some o→∀m,Fe o m=true→D m):∀j,j<i→sl.contains j=false→D j:=by
 unfold Uy at h;rw[Dk]at h;have I:=h i FX;simp only[O,ES,KU,CP,Dk]at I
 have key:∀n j,i-j≤n→j<i→sl.contains j=false→D j:=by
  intro n
  induction n with
  |zero=>intro j Y J _;omega
  |succ n Z=>
   intro j Y J f;have L:=I.1.2 j gX;rw[f,KU,Gm]at L;obtain⟨m,hm,M⟩:=L;simp only[Ze]at hm;simp only[CP,Fl,Qp]at M;obtain⟨⟨h6,q⟩,s⟩:=M;have u:m<ops.size:=AL
   have z:ops[m]? =some ops[m]:=by simp[u]
   rw[z]at s;by_cases e:m=i
   ·subst e;exact U _ z j s
   exact hd m _ z (Z m AL AL q) j s
 exact fun j hj hs=>key (i-j) j (Dw _) hj hs
def amY {bs:List Bool} {sl:List Nat} (h:Uy ops bs sl=true) {i:Nat} (hi:i<ops.size) (U:bs.getD i false=true) {D:Nat→Prop} (hd:∀(j:Nat) (o:Oper),ops[j]? =some o→D j→∀m,Fe o m=true→D m):
 ∀k,i<k→∀(o:Oper),ops[k]? =some o→(∀m,Fe o m=true→D m)→D i:=by
 unfold Uy at h;rw[Dk]at h;have I:=h i FX;simp only[U,ES,KU,CP,Dk]at I;intro k
 induction k using Nat.strongRecOn with
 |_ k Y=>
  intro u o J f;have Z:k<ops.size:=(FN.1 J).1;have L:=I.2 k jS;simp only[u,decide_true,ES,KU,Gm]at L;obtain⟨m,M,O⟩:=L;simp only[Ze]at M;simp only[CP,Fl,J]at O;obtain⟨h6,h7⟩:=O;have q:=f m h7;by_cases e:m=i
  ·subst e;exact q
  have z:m<ops.size:=AL
  have s:ops[m]? =some ops[m]:=by simp[z]
  exact Y m M AL _ s (hd m _ s q)
def aKt {bs:List Bool} {sl:List Nat} (h:Uy ops bs sl=true) {i:Nat} (hi:i<ops.size) (j:bs.getD i false=true):sl.contains i=false:=by
 unfold Uy at h;rw[Dk]at h;have f:=h i FX;simp only[j,ES,KU,CP,Qp]at f;exact f.1.1
def AO.atn {id:Nat} {σ σ':Ar} {Q:Exit→Ar→Prop} {rs:List Ac} {ess:List (List BH)} {bs:List Bool} (hm:P.follows .mixedOrders=true) (L:(Tq ops&&Tv ops&&TG ops σ.slots.length&&UJ ops)=true) (sl:List Nat) (M:Uy ops bs sl=true)
 (h:El P ops ops.toList σ rs ess bs σ')
 (hsl:∀i,i∈sl→bs.getD i false=false∧∀m,i≤m→m≤ops.size→∀o,ops[i]? =some o→Py P ops ⟨(EJ ops σ (fun i=>rs.getD i .junk) (fun i=>ess.getD i []) i).slots,(EJ ops σ (fun i=>rs.getD i .junk) (fun i=>ess.getD i []) m).ents,σ.base⟩ (rs.getD i .junk) (EJ ops σ (fun i=>rs.getD i .junk) (fun i=>ess.getD i []) m).ents false o) (hQ:Q .normal σ'):AO P (.region id ops true) σ Q:=by
 refine⟨fun ro _ C ok H a w hh=>?_⟩;simp only[CP]at L;obtain⟨⟨⟨he,hd⟩,hs⟩,hc⟩:=L;have LK:=aFL he;have hinj:=aGi hd;have L:=aHt hc
 have ET:∀(i:Nat) (o:Oper) (d:Tmp),ops[i]? =some o→o.dst=some d→d<σ.slots.length:=by
  intro i o d h1 h2;unfold TG at hs;rw[Dk]at hs;simpa using hs d (aDz h1 h2)
 let r:Nat→Ac:=fun i=>rs.getD i .junk
 let ev:Nat→List BH:=fun i=>ess.getD i []
 let bar:Nat→Bool:=fun i=>bs.getD i false
 obtain⟨Fv,hend⟩:=h.facts σ r ev bar 0 (fun k=>BK) BK rfl (fun k y hy=>aHa) (fun k y hy=>aEE) (fun k y hy=>by simp[bar,List.getD,hy])
 let U:Nat→Ar:=EJ ops σ r ev
 have hU:∀i,i<ops.size→(U (i+1)).ents=ev i:=by
  intro i hi;have J:ops[i]? =some ops[i]:=Oo
  show(EJ ops σ r ev (i+1)).ents=_;simp only[EJ,J];rfl
 have hconst:∀n lo,(∀b,lo≤b→b<lo+n→bar b=false)→lo+n≤ops.size→(U (lo+n)).ents=(U lo).ents:=by
  intro n
  induction n with
  |zero=>intro lo _ _;rfl
  |succ n ih=>
   intro lo u hle;have h1:=ih lo (fun b h1 h2=>u b h1 AL) AL;have hi:lo+n<ops.size:=AL
   have J:ops[lo+n]? =some ops[lo+n]:=Oo
   have h2:=(Fv (lo+n) _ AL J).2 (u (lo+n) AL AL);rw[←MH,hU _ hi,h2];exact h1
 have O:∀lo hi,lo≤hi→hi≤ops.size→(∀b,lo≤b→b<hi→bar b=false)→(U hi).ents=(U lo).ents:=by
  intro lo hi h1 h2 h3;obtain⟨n,rfl⟩:=aCJ h1;exact hconst n lo h3 h2
 refine Mem hm ?_
 let I:Array Bool→Act→World→Prop:=fun l a w=>l.size=ops.size∧∃ok H m,m≤ops.size∧(∀b,bar b=true→b<ops.size→(l.getD b false=true↔b<m))∧CW C ok H (U m).ents w∧a.tmps.size=σ.slots.length∧Marks C ok w a.defers∧
  (∀t,t<σ.slots.length→(∀(j:Nat) (o:Oper),ops[j]? =some o→o.dst=some t→l.getD j false=false)→R ok w H (σ.slots.getD t .junk) (a.tmps.getD t undef))∧
  (∀(i:Nat) (o:Oper) (d:Tmp),ops[i]? =some o→o.dst=some d→l.getD i false=true→R ok w H (r i) (a.tmps.getD d undef))∧
  (∀(j:Nat) (o:Oper),ops[j]? =some o→l.getD j false=true→∀i,Fe o i=true→l.getD i false=true)
 refine wX I (fun l a w h=>h.1) ?_ ?_ ops.size _ _ _ ?_ ?_
 ·rintro l a w ⟨h1,ok,H,m,IQ,z,hmem0,hsz,hdf,h5,h6,h7⟩ i hi;unfold Region.ready at hi;rw[G7]at hi;obtain⟨hi1,hi2⟩:=hi;have hi':i<ops.size:=xg
  have J:ops[i]? =some ops[i]:=by simp[hi']
  simp only[CP]at hi2;have LM:=hi2.2;rw[J]at LM;simp only[HY,Lc]at LM;have abA:=fun e he=>(OX.1 LM) e he
  have Y:∀j,Fe ops[i] j=true→l.getD j false=true∧j<i:=by
   intro j s;unfold Fe at s;rw[Gm]at s;obtain⟨e,hee,s⟩:=s;simp only[CP,Fl]at s;have :=abA e aEh;simp only[s.2,ES,KU]at this;rw[s.1]at this;exact⟨this,s.1▸LK i _ J e hee s.2⟩
  have Z:l.getD i false=false:=by
   have h8:=hi2.1;have hil:i<l.size:=AL
   simp[Array.getD,hil]at h8 ⊢;exact h8
  have ahv:∀(j:Nat) (o:Oper),ops[j]? =some o→l.getD j false=true→∀m,Fe o m=true→l.getD m false=true:=fun j o s hl m hm=>h7 j o s hl m hm
  have hEi:(i≤m→sl.contains i=false)→(U i).ents=(U m).ents:=fun hns=>by
   by_cases him:i≤m
   ·refine(O i m him IQ (fun b h2 h3=>?_)).symm;rw[←Jb];intro u;have hbl:=(z b u AL).2 h3;by_cases e:b=i
    ·subst e;rw[Z]at hbl;cases hbl
    have :=aEo M (show b<ops.size by omega) u (D:=fun j=>l.getD j false=true) ahv (fun o J m hm=>ahv b o J hbl m hm) i AL (hns him);rw[Z]at this;cases this
   refine O m i AL AL (fun b h2 h3=>?_);rw[←Jb];intro u;have :=amY M (show b<ops.size by omega) u (D:=fun j=>l.getD j false=true) ahv i h3 _ J (fun m hm=>(Y m hm).1);exact absurd ((z b u AL).1 this) AL
  obtain⟨E0,E1,hmem,hfact,hE1,hE2⟩:∃E0 E1,CW C ok H E0 w∧Py P ops ⟨(U i).slots,E0,σ.base⟩ (r i) E1 (bar i) ops[i]∧(bar i=false→E1=(U m).ents)∧(bar i=true→E1=ev i):=by
   by_cases hs:i≤m∧i∈sl
   ·have h9:=hsl i hs.2;refine⟨(U m).ents,(U m).ents,hmem0,?_,fun _=>rfl,fun u=>?_⟩
    ·rw[show bar i=false from h9.1];exact h9.2 m hs.1 IQ _ J
    rw[show bar i=false from h9.1]at u;cases u
   have hE:=hEi (fun him=>by
    rw[←Jb]
    intro hc;exact hs ⟨him,by simpa using hc⟩)
   refine⟨(U i).ents,ev i,by rw[hE];exact hmem0,?_,fun u=>?_,fun _=>rfl⟩
   ·have hf:=Fv i ops[i] AL J;have hbase:(U i).base=σ.base:=yw i;have :U i=⟨(U i).slots,(U i).ents,σ.base⟩:=by rw[←hbase]
    exact this▸hf
   rw[(Fv i _ AL J).2 u];exact hE
  have hread:∀t,t∈tmpsOf ops[i]→R ok w H ((EJ ops σ r ev i).slots.getD t .junk) (a.tmps.getD t undef):=by
   intro t ht;by_cases hw:∃(j:Nat) (o:Oper),ops[j]? =some o∧o.dst=some t
   ·obtain⟨j,o,s,q⟩:=hw;rcases(L i _ J).1 j o t s q ht with hce|hce
    ·obtain⟨hdj,hji⟩:=Y j hce;rw[TM hinj s q (ET j o t s q) i hji];exact h6 j o t s q hdj
    have hij:i<j:=by
     unfold Fe at hce;rw[Gm]at hce;obtain⟨e,hee,hce⟩:=hce;simp only[CP,Fl]at hce;exact hce.1▸LK j _ s e hee hce.2
    rw[Rj i (fun j' o' hj' ho' hd'=>yu)];refine h5 t (ET j o t s q) (fun j' o' ho' hd'=>?_);have hjj:=hinj j j' o o' t s ho' q hd';subst hjj;rw[←Jb];intro hd;rw[h7 j o s hd i hce]at Z;cases Z
   have hw':∀(j:Nat) (o:Oper),ops[j]? =some o→o.dst≠some t:=fun j o h1 h2=>hw ⟨j,o,h1,h2⟩;rw[Rj i (fun j o _ s=>hw' j o s)];by_cases htn:t<σ.slots.length
   ·exact h5 t htn (fun j o s q=>absurd q (hw' j o s))
   rw[dI htn];exact .junk _
  have Qs:∀j d v,Fe ops[i] j=true→(ops[j]?).bind (·.dst)=some d→(EJ ops σ r ev i).slots.getD d .junk=.d (.lit v)→yielded ops a.tmps j=(match v with | .bool b=>some b|_=>none):=by
   intro j d v s q u;cases hoj:ops[j]? with
   |none=>rw[hoj]at q;simp at q
   |some oj=>
    rw[hoj]at q;simp only[Af]at q;obtain⟨hdj,hji⟩:=Y j s;have hdn:=ET j oj d hoj q;rw[TM hinj hoj q hdn i hji]at u;have hv:=(u▸h6 j oj d hoj q hdj).bool
    have hs:a.tmps[d]? =some v:=by
     have :d<a.tmps.size:=by rw[hsz];exact hdn
     simp[Array.getD,this]at hv;simp[this,hv]
    unfold yielded;rw[hoj];simp only[Af,q,hs];cases v<;>rfl
  have hput:∀(x:Ac) (v:Value) (ok':Nat→Prop) (H':List Ba) (w':World),x=r i→Dz ok w ok' w'→Names H H'→CW C ok' H' E1 w'→R ok' w' H' x v→I (l.setIfInBounds i true) (a.put ops[i].dst v) w':=by
   intro x v ok' H' w' hx hgr hnm hmem' hR;subst hx
   have hother:∀(d t:Nat),ops[i].dst=some d→d≠t→(a.put ops[i].dst v).tmps.getD t undef=a.tmps.getD t undef:=by
    intro d t hd hne;rw[hd];exact aGY hne
   obtain⟨m',afR,YD,afS⟩:∃m',m'≤ops.size∧(∀b,bar b=true→b<ops.size→((l.setIfInBounds i true).getD b false=true↔b<m'))∧CW C ok' H' (U m').ents w':=by
    have hget:∀b,b≠i→(l.setIfInBounds i true).getD b false=l.getD b false:=fun b u=>by
     simp only[GU,JB (Ne.symm u)]
    have afT:(l.setIfInBounds i true).getD i false=true:=aGF
    cases hbi:bar i with
    |false=>
     refine⟨m,IQ,fun b u hbs=>?_,?_⟩
     ·have hne:b≠i:=fun e=>by subst e;rw[hbi]at u;cases u
      rw[hget b hne];exact z b u hbs
     rw[←hE1 hbi];exact hmem'
    |true=>
     refine⟨i+1,AL,fun b u hbs=>?_,by rw[hU i hi',←hE2 hbi];exact hmem'⟩;by_cases e:b=i
     ·subst e;rw[afT];simp
     rw[hget b e];constructor
     ·intro hbl;apply UN;intro hn;have :=aEo M hbs u (D:=fun j=>l.getD j false=true) ahv (fun o J m hm=>ahv b o J hbl m hm) i AL (aKt M hi' hbi);rw[Z]at this;cases this
     intro hlt;exact aEo M hi' hbi (D:=fun j=>l.getD j false=true) ahv (fun o ho' m hm=>by rw[J]at ho';obtain rfl:=CO ho';exact(Y m hm).1) b AL (aKt M hbs u)
   refine⟨by simp[h1],ok',H',m',afR,YD,afS,aDU,aID,?_,?_,?_⟩
   ·intro t ht hno
    have hne:ops[i].dst≠some t:=by
     intro e;have :=hno i _ J e;simp[Array.getD,h1,hi']at this
    have hold:(a.put ops[i].dst v).tmps.getD t undef=a.tmps.getD t undef:=by
     cases hdi:ops[i].dst with
     |none=>rfl
     |some d=>exact hdi▸hother d t hdi (fun e=>hne (by rw[hdi,e]))
    rw[hold];refine(h5 t ht (fun j o s q=>?_)).mono hgr hnm;have hij:i≠j:=fun e=>by subst e;rw[J]at s;obtain rfl:=CO s;exact hne q
    have :=hno j o s q;simpa only[GU,JB hij]using this
   ·intro k o d hk hkd hl;by_cases hik:i=k
    ·subst hik;rw[J]at hk;obtain rfl:=CO hk;rw[hkd,aIP (by rw[hsz];exact ET i _ d J hkd)];exact hR
    have hl':l.getD k false=true:=by
     simp only[GU,JB hik]at hl ⊢;exact hl
    have :=(h6 k o d hk hkd hl').mono hgr hnm;cases hdst:ops[i].dst with
    |none=>exact this
    |some d'=>
     have hne:d'≠d:=fun e=>hik (hinj i k _ _ d' J hk hdst (e▸hkd));rw[←hdst,hother d' d hdst hne];exact this
   intro j o s hl k hk;have hil:i<l.size:=AL
   by_cases hik:i=k
   ·subst hik;simp[Array.getD,hil]
   have hkk:l.getD k false=true:=by
    by_cases hij:i=j
    ·subst hij;rw[J]at s;obtain rfl:=CO s;exact(Y k hk).1
    have hl':l.getD j false=true:=by
     simp only[GU,JB hij]at hl ⊢;exact hl
    exact h7 j o s hl' k hk
   simp only[GU,JB hik]at hkk ⊢;exact hkk
  unfold wpOpIn;rw[J];show if Region.wanted ops[i] (yielded ops a.tmps)=true then _ else _
  rcases hfact.1 with⟨ns,hop,ZF,hnt,hg⟩|⟨hx,hev,hg⟩
  ·have hwant:Region.wanted ops[i] (yielded ops a.tmps)=true:=by
    unfold Region.wanted;rcases hg with hg|⟨j,want,d,b,hg,s,u,rfl⟩
    ·rw[hg]
    rw[hg];show(yielded ops a.tmps j==some b)=true;rw[Qs j d _ ((L i _ J).2 j b hg) s u];simp
   rw[Cb hwant];refine P5 ?_ (hop.YC ro C ok H a w _ hmem (fun n hn=>?_))
   ·rintro a' w' ⟨v,ok',H',rfl,hgr,hnn,hm',hx⟩;exact hput _ v ok' H' w' rfl hgr hnn hm' hx
   have hnv:=NY ZF n hn;obtain⟨x,y⟩:=n;simp only at hnv ⊢;subst hnv;cases x with
   |tmp t=>
    refine hread t ?_;rw[Dk]at hnt
    have :t∈LP ns:=by
     unfold LP;rw[Qi];exact⟨_,hn,rfl⟩
    simpa using hnt t this
   |const v=>exact .d _ _ (.lit v)
   |global g=>exact .d _ _ (.lit _)
   |func f=>exact .d _ _ (.fn (.func f) [] [] #[] #[] rfl rfl (fun i hi=>MN) (fun i hi=>MN))
  have hwant:Region.wanted ops[i] (yielded ops a.tmps)=false:=by
   unfold Region.wanted;obtain⟨j,want,d,v,hg,s,u,hv⟩:=hg;rw[hg];show(yielded ops a.tmps j==some want)=false;rw[Qs j d _ ((L i _ J).2 j want hg) s u];rcases hv with rfl|rfl
   ·simp
   rfl
  rw[D9 (by rw[hwant];simp)];exact⟨fun _ _=>trivial,hput _ _ ok H w hx.symm (.refl _ _) (.refl _) aCK (.d _ _ (.lit _))⟩
 ·rintro l a w ⟨h1,ok,H,m,IQ,z,hmem,hsz,hdf,h5,h6,h7⟩ hr
  have hall:∀n i,i<n→i<ops.size→l.getD i false=true:=by
   intro n
   induction n with
   |zero=>intro i hi;omega
   |succ n ih=>
    intro i hi hi2;by_cases hn:i<n
    ·exact ih i hn hi2
    have hin:i=n:=AL
    subst hin;rw[←aCr];intro hf;have J:ops[i]? =some ops[i]:=by simp[hi2]
    have hmem:i∈Region.ready .any ops l:=by
     unfold Region.ready;rw[G7];refine⟨by simpa using hi2,?_⟩;have hil:i<l.size:=AL
     have hf':l.getD i true=false:=um
     rw[hf',J];simp only[Jm,G8,HY,Lc];rw[OX];intro e he;cases hbe:Region.binds .any e with
     |false=>simp
     |true=>
      have hlt:=LK i _ J e oC hbe;rw[ih e.on AL AL];simp
    rw[hr]at hmem;simp at hmem
  refine⟨ok,H,σ',?_,hQ⟩;subst hend
  have hE:(U ops.size).ents=(U m).ents:=O m ops.size IQ (Dw _) (fun b h2 h3=>by
   rw[←Jb];intro u
   exact absurd ((z b u h3).1 (hall (b+1) b AL h3)) AL)
  refine⟨ac0,by rw[SI];exact hsz,hdf,aDs,fun t ht=>?_⟩;rw[SI]at ht;by_cases hw:∃(j:Nat) (o:Oper),ops[j]? =some o∧o.dst=some t
  ·obtain⟨j,o,s,q⟩:=hw;have hjn:j<ops.size:=(FN.1 s).1;rw[TM hinj s q ht ops.size hjn];exact h6 j o t s q (hall (j+1) j AL hjn)
  have hw':∀(j:Nat) (o:Oper),ops[j]? =some o→o.dst≠some t:=fun j o h1 h2=>hw ⟨j,o,h1,h2⟩;rw[Rj ops.size (fun j o _ s=>hw' j o s)];exact h5 t ht (fun j o s q=>absurd q (hw' j o s))
 ·unfold toCome;simp
 refine⟨BK,ok,H,0,EF _,fun b u _=>yH,?_,hh.size,hh.defers.mono (fun b u=>⟨u,rfl⟩),fun t ht _=>?_,fun i o d _ _ hl=>?_,fun j o _ hl=>?_⟩
 ·exact⟨⟨hh.mem.fr.os,hh.mem.fr.tape,hh.mem.fr.output,hh.mem.fr.size,hh.mem.fr.block⟩,hh.mem.vY,hh.mem.vZ,hh.mem.jF,hh.mem.names,hh.mem.hlen,fun k e h h1 h2=>(hh.mem.ent k e h h1 h2).drew,hh.mem.blk,hh.mem.Cm⟩
 ·exact R.mono (w:=w) (ok:=ok) (w':={ w with drawn:=w.drawn+1 }) (fun b u=>⟨u,rfl⟩) (.refl _) (hh.slot t ht)
 ·simp[Array.getD]at hl
 simp[Array.getD]at hl
def WZ (n:Nat) (sl:List Nat):List (Nat×Nat):=sl.flatMap fun i=>((List.range (n+1)).filter fun m=>decide (i≤m)).map fun m=>(i,m)
def iq (ops:Array Oper) (σ:Ar) (rs:List Ac) (ess:List (List BH)) (i:Nat):Ar:=EJ ops σ (fun i=>rs.getD i .junk) (fun i=>ess.getD i []) i
def sS (T:Kn P) (ops:Array Oper) (σ:Ar) (rs:List Ac) (ess:List (List BH)) (p:Nat×Nat):Option (Ac×List BH×Bool):=
 match ops[p.1]? with
 |some o=>(UH T ops ⟨(iq ops σ rs ess p.1).slots,(iq ops σ rs ess p.2).ents,σ.base⟩ o).map fun r=>(r.x,r.E,r.bar)
 |none=>none
def abR (T:Kn P) {σ:Ar} {rs:List Ac} {ess:List (List BH)} {bs:List Bool} {sl:List Nat} (q:(sl.all fun i=> !(bs.getD i false))=true)
 (s:(WZ ops.size sl).map (sS T ops σ rs ess)=(WZ ops.size sl).map fun p=>some (rs.getD p.1 .junk,(iq ops σ rs ess p.2).ents,false)):
 ∀i,i∈sl→bs.getD i false=false∧∀m,i≤m→m≤ops.size→∀o,ops[i]? =some o→Py P ops ⟨(EJ ops σ (fun i=>rs.getD i .junk) (fun i=>ess.getD i []) i).slots,(EJ ops σ (fun i=>rs.getD i .junk) (fun i=>ess.getD i []) m).ents,σ.base⟩ (rs.getD i .junk) (EJ ops σ (fun i=>rs.getD i .junk) (fun i=>ess.getD i []) m).ents false o:=by
 intro i hi;refine⟨by have :=Dk.1 q i hi;simpa using this,fun m z M o I=>?_⟩
 have J:(i,m)∈WZ ops.size sl:=by
  unfold WZ;rw[Qj];exact⟨i,hi,F7.2 ⟨m,G7.2 ⟨E8,Qw⟩,rfl⟩⟩
 have f:=List.map_inj_left.1 s (i,m) J;unfold sS at f;rw[I]at f;simp only[TQ]at f;obtain⟨r,L,j⟩:=f;have u:=WA T L;simp only[Qx]at j;rw[j.1,j.2.1,j.2.2]at u;exact u
def AO.awN [T:Kn P] {id:Nat} {σ σ':Ar} {Q:Exit→Ar→Prop} {rs:List Ac} {ess:List (List BH)} {bs:List Bool} (sl:List Nat) (h:El P ops ops.toList σ rs ess bs σ') (s:Q .normal σ') (u:P.follows .mixedOrders=true:=by kernel_rfl)
 (f:(Tq ops&&Tv ops&&TG ops σ.slots.length&&UJ ops)=true:=by kernel_rfl) (j:Uy ops bs sl=true:=by kernel_rfl) (m:(sl.all fun i=> !(bs.getD i false))=true:=by kernel_rfl)
 (q:(WZ ops.size sl).map (sS T ops σ rs ess)=(WZ ops.size sl).map fun p=>some (rs.getD p.1 .junk,(iq ops σ rs ess p.2).ents,false):=by kernel_rfl):AO P (.region id ops true) σ Q:=
 AO.atn u f sl j h (abR T m q) s
def AO.ato [T:Kn P] {id:Nat} {y:Code} {σ σ':Ar} {Q:Exit→Ar→Prop} {rs:List Ac} {ess:List (List BH)} {bs:List Bool} (sl:List Nat) (h:El P ops ops.toList σ rs ess bs σ') (s:AO P y σ' Q) (u:P.follows .mixedOrders=true:=by kernel_rfl)
 (f:(Tq ops&&Tv ops&&TG ops σ.slots.length&&UJ ops)=true:=by kernel_rfl) (j:Uy ops bs sl=true:=by kernel_rfl) (m:(sl.all fun i=> !(bs.getD i false))=true:=by kernel_rfl)
 (q:(WZ ops.size sl).map (sS T ops σ rs ess)=(WZ ops.size sl).map fun p=>some (rs.getD p.1 .junk,(iq ops σ rs ess p.2).ents,false):=by kernel_rfl):AO P (.seq (.region id ops true) y) σ Q:=
 AO.seq1 σ' (AO.atn u f sl j h (abR T m q) rfl) s
def AO.conv {c:Code} {σ j:Ar} {Q:Exit→Ar→Prop} (h:∀C ok H a w,Holds C ok H σ a w→∃ok',Holds C ok' H j a w) (k:AO P c j Q):AO P c σ Q:=⟨fun ro m C ok H a w q=>by
 obtain⟨ok',f⟩:=h C ok H a w q
 exact k.run ro m C ok' H a w f⟩
end
def aB5 (es:List BH) (H:List Ba):List Nat:=(es.zip H).filterMap fun p=>if p.1.live then DC p.2.v else none
def aKs {es:List BH} {H:List Ba} {b:Nat}:b∈aB5 es H↔∃(k:Nat) (e:BH) (h:Ba),es[k]? =some e∧e.live=true∧H[k]? =some h∧DC h.v=some b:=by
 unfold aB5;rw[Qi];constructor
 ·rintro⟨⟨e,h⟩,m,f⟩;obtain⟨k,j⟩:=List.mem_iff_getElem?.1 m;rw[aaW]at j;split at f
  ·rename_i hl;exact⟨k,e,h,j.1,hl,j.2,f⟩
  cases f
 rintro⟨k,e,h,q,s,u,z⟩;exact⟨(e,h),List.mem_iff_getElem?.2 ⟨k,aaW.2 ⟨q,u⟩⟩,by simp[s,z]⟩
def Dv.now (w:World) (ok:Nat→Prop) (es:List BH) (H:List Ba):Dv:=⟨w,ok,aB5 es H,H⟩
section
variable {C : Dv} {ok ok' : Nat → Prop} {H H' : List Ba} {es es' : List BH} {w w' : World}
def CW.inner (f:CW C ok H es w):CW (Dv.now w ok es H) ok H es w:=
 ⟨.refl _ _,fun _ h=>h,fun _ h=>.inl h,f.jF,.refl _,f.hlen,f.ent,
  fun k e h b j hl m q=>⟨(f.blk k e h b j hl m q).1,(f.blk k e h b j hl m q).2.1,.inr (aKs.2 ⟨k,e,h,j,hl,m,q⟩)⟩,f.Cm⟩
def CW.outer (f:CW C ok H es w) (h:CW (Dv.now w ok es H) ok' H' es' w'):Dz ok w ok' w'∧Names H H'∧CW C ok' H' es' w':=by
 have s:∀b,b∈aB5 es H→¬ok b∧b<w.heap.size∧(C.w0.heap.size≤b∨b∈C.X):=fun b m=>by
  obtain⟨k,e,hd,j,z,q,M⟩:=aKs.1 m;exact f.blk k e hd b j z q M
 refine⟨fun b m=>⟨h.vY b m,h.fr.block b (f.jF b m) fun u=>(s b u).1 m⟩,h.names,⟨h.fr.os.trans f.fr.os,h.fr.tape.trans f.fr.tape,h.fr.output.trans f.fr.output,Dn f.fr.size h.fr.size,fun k L u=>?_⟩,fun b m=>h.vY b (f.vY b m),fun b m=>?_,h.jF,f.names.trans h.names,h.hlen,h.ent,fun k e hd b O hl U m=>?_,h.Cm⟩
 ·have I:k<w.heap.size:=UM L f.fr.size;refine(h.fr.block k I fun J=>?_).trans (f.fr.block k L u);rcases(s k J).2.2 with j|j
  ·omega
  exact u j
 ·rcases h.vZ b m with j|j|j
  ·exact f.vZ b j
  ·exact .inr (.inl (Dn f.fr.size j))
  exact .inr ((s b j).2.2)
 obtain⟨j,z,q⟩:=h.blk k e hd b O hl U m;refine⟨j,z,?_⟩;rcases q with q|q
 ·exact .inl (Dn f.fr.size q)
 exact(s b q).2.2
def CW.ado (q:CW C ok H es w) {n:Nat} {e e':BH} {h:Ba} {b:Nat} {o:Obj} (z:es[n]? =some e) (hl:e.live=true) (I:H[n]? =some h) (J:DC h.v=some b) (he:Dz ok w ok (w.putObj b o)→EW ok (w.putObj b o) H h e'):
 CW C ok H (es.set n e') (w.putObj b o)∧Dz ok w ok (w.putObj b o):=by
 obtain⟨L,h2,h3⟩:=q.blk n e h b z hl I J;have hg:Dz ok w ok (w.putObj b o):=fun c f=>⟨f,X9 fun e=>L (e▸f)⟩
 have s:=(FC.1 z).1;refine q.change (fun c=>c=b) rfl rfl rfl BK (fun c _ f=>X9 f) (fun c f _=>by subst f;exact⟨L,h3⟩) (fun _ h=>h) (fun _ h=>.inl h) (.refl _) (by simpa using q.hlen) fun k e2 h4 hk j=>?_;rcases KR s hk with⟨rfl,rfl⟩|⟨m,u⟩
 ·right;rw[I]at j;obtain rfl:=CO j;refine⟨he hg,fun _ c f=>?_⟩;rw[J]at f;obtain rfl:=CO f;refine⟨L,SPr,h3,fun k' e3 h5 m M O U Y=>?_⟩;rcases KR s M with⟨rfl,_⟩|⟨_,Z⟩
  ·exact m rfl
  exact m (q.Cm k' _ e3 e h5 h _ Z z O hl U I Y J)
 left;exact⟨u,j,fun hl2 c f hcb=>m (q.Cm k n e2 e h4 h c u z hl2 hl j I f (by rw[hcb];exact J))⟩
def XU :List Tmp→List Ac→List Ac→List Ac
 |p::f,x::xs,sl=>XU f xs (sl.set p x)
 |_,_,sl=>sl
def acX :∀(f:List Tmp) (xs:List Ac) (vs:List Value) (sl:List Ac) (tm:Array Value),xs.length=f.length→vs.length=f.length→(∀i,i<xs.length→R ok w H (xs.getD i .junk) (vs.getD i undef))→
 tm.size=sl.length→(∀t,t<sl.length→R ok w H (sl.getD t .junk) (tm.getD t undef))→
 ((f.zip vs).foldl (fun t p=>t.setIfInBounds p.1 p.2) tm).size=(XU f xs sl).length∧∀t,t<(XU f xs sl).length→R ok w H ((XU f xs sl).getD t .junk) (((f.zip vs).foldl (fun t p=>t.setIfInBounds p.1 p.2) tm).getD t undef)
 | [],xs,vs,sl,tm,_,_,_,j,q=>by
   have e:XU [] xs sl=sl:=by cases xs<;>rfl
   rw[e];exact⟨j,q⟩
 |p::f,[],vs,sl,tm,h,_,_,_,_=>Gw
 |p::f,x::xs,[],sl,tm,_,h,_,_,_=>Gw
 |p::f,x::xs,v::vs,sl,tm,I,J,z,j,q=>by
  refine acX f xs vs (sl.set p x) (tm.setIfInBounds p v) sD gX (fun i hi=>by simpa using z (i+1) FX) Ou (fun t m=>?_);rw[Us]at m;by_cases e:p=t
  ·subst e;have s:(sl.set p x).getD p .junk=x:=by simp[List.getD,m]
   have u:(tm.setIfInBounds p v).getD p undef=v:=by simp[Array.getD,j,m]
   rw[s,u];simpa using z 0 BK
  have s:(sl.set p x).getD t .junk=sl.getD t .junk:=aIH
  have u:(tm.setIfInBounds p v).getD t undef=tm.getD t undef:=by simp[GU,JB e]
  rw[s,u];exact q t m
end
def Vm :Exit→Option (LoopState×Option Code)
 | .normal=>some (.ready,none)
 | .ret=>some (.done,some .ret)
 | .exit i=>some (.done,some (.exit i))
 |_=>none
section
variable {P : Program} {ops : Array Oper} {o : Oper} {rest l : List Oper} {σ : Ar} {K : Exit → Ar → Prop}
def sI {h:Ba} {l:Nat} (e:h.v=.func (.yield l) #[] #[]):DC h.v=some l:=jB
def D5.yield {f:Operand} {xs:Array Operand} {ts:Array TypeId} {tm:Array Value} {slots:List Ac} {rc:Array Tmp×Code×Code} (k:Nat) (dO:List Ac)
 (ho:o.op=.call { callee:=.value f,args:=xs,argTypes:=ts }) (hf:σ.get f=.mp k) (hk:σ.ents[k]? =some (.loop tm slots rc .ready none)) (hx:xs.toList.map σ.get=dO) (z:rc.1.size=xs.size)
 (hg:JH ops σ o.guard=some true) (I:(OC rc.2.1&&OC rc.2.2)=true)
 (h:AO P rc.2.1 ⟨XU rc.1.toList dO slots,σ.ents,σ.ents.length⟩ fun e s=>e=.normal∧∃sl,s.ents[k]? =some (.loop tm sl rc .ready none)∧
  AO P rc.2.2 ⟨s.slots,s.ents.set k (.loop tm sl rc .busy none),s.base⟩ fun e s2=>∃u j,s2.ents[k]? =some (.loop tm u rc .busy none)∧Vm e=some j∧
   D5 P ops rest (Ar.pY ⟨σ.slots,s2.ents.set k (.loop tm u rc j.1 j.2),σ.base⟩ o.dst (.d (.lit (.bool j.2.isNone)))) K):D5 P ops (o::rest) σ K:=by
 rw[CP]at I;refine⟨fun ro l2 Q C ok H a w q J=>?_⟩;show wpListIn (Hq ro) 0 P ops Q (o::(rest++l2)) a w;unfold wpListIn;rw[Cb (Np q (Kw hg))];have hv:=hf▸q.get f;obtain⟨hd,L,Y⟩:=FV q.mem.ent q.mem.hlen hk;obtain⟨l,fn,D,e1,e2,e3,e4⟩:=Y
 have Z:a.eval f=.func (.yield l) #[] #[]:=by
  cases hv with
  |mp _ v s hl hH=>
   rw[L]at hH;obtain rfl:=CO hH;exact e1
 have hrun:(execOp a.eval o).run P w=.ok (.round l fn ((rc.1.zip (xs.map a.eval)).foldl (fun tmps (t,a)=>tmps.setIfInBounds t a) tm) rc.2.1 rc.2.2) w:=by
  have :=run_yield (P:=P) e2 (args:=xs.map a.eval) (by simp[z]);simp[execOp,ho,resolve,Z,Deferred.ofValue,invoke,this]
 unfold Oper.wpIn;rw[ZN _ _ _ (by rw[ho];intro c h;cases h),hrun,Oper.uponIn_round];refine⟨fun _ _=>trivial,fun h=>Gt,roundIn_of_wpIn trivial ?_⟩
 have hT:(rc.1.zip (xs.map a.eval)).foldl (fun tmps (t,a)=>tmps.setIfInBounds t a) tm=(rc.1.toList.zip (xs.toList.map a.eval)).foldl (fun t p=>t.setIfInBounds p.1 p.2) tm:=by
  rw[←Array.foldl_toList,Array.toList_zip,Array.toList_map]
 rw[hT];have hpl:dO.length=rc.1.toList.length:=by rw[←hx];simp[z]
 obtain⟨p1,p2⟩:=acX (ok:=ok) (w:=w) (H:=H) rc.1.toList dO (xs.toList.map a.eval) slots tm hpl (by simp[z]) (fun i hi=>by
  have hi':i<xs.toList.length:=by rw[←hx]at hi;simpa using hi
  have hi2:i<xs.size:=by simpa using hi'
  have U:dO.getD i .junk=σ.get xs.toList[i]:=by rw[←hx];simp[List.getD,hi2]
  have q2:(xs.toList.map a.eval).getD i undef=a.eval xs.toList[i]:=by simp[List.getD,hi2]
  rw[U,q2];exact q.get _) e3 e4
 have hin:Holds (Dv.now w ok σ.ents H) ok H ⟨XU rc.1.toList dO slots,σ.ents,σ.ents.length⟩ { tmps:=(rc.1.toList.zip (xs.toList.map a.eval)).foldl (fun t p=>t.setIfInBounds p.1 p.2) tm,defers:=[] } w:=
  ⟨q.mem.inner,p1,.nil _ _ _,q.mem.hlen,p2⟩
 show Code.wpIn (Hq (some l)) 0 P _ _ _ _;refine Rx (h.run (some l) (.inr I.1) _ _ _ _ _ hin) ?_;rintro e a1 w1 ⟨ok1,H1,s1,m,rfl,sl,hs1,h2⟩;obtain⟨g1,n1,m1⟩:=q.mem.outer m.mem;have hk1:=n1 k hd L;obtain⟨l',fn',D',U,q2,q3,q4⟩:=m.mem.ent k _ hd hs1 hk1;have M:l'=l:=by rw[e1]at U;cases U;rfl
 subst M
 obtain⟨m2,g2⟩:=m.mem.ado (o:=.loop { state:=.busy,pending:=none,fn:=fn',tmps:=tm,params:=rc.1,assign:=rc.2.1,body:=rc.2.2,defers:=D' }) (e':=.loop tm sl rc .busy none) hs1 rfl hk1 (sI U)
  (fun g=>⟨l',fn',D',U,VB (FN.1 q2).1,q3,fun t O=>(q4 t O).mono g (.refl _)⟩)
 refine⟨_,run_beginRound q2 rfl,?_⟩;refine Rx (h2.run (some l') (.inr I.2) _ _ _ _ _ ⟨m2,m.size,m.defers.mono g2,m.base,fun t O=>(m.slot t O).mono g2 (.refl _)⟩) ?_;rintro e a2 w3 ⟨ok2,H2,s2,hh2,u,j,hs2,hj,hL⟩;obtain⟨g3,n3,m3⟩:=q.mem.outer hh2.mem;have hk2:=n3 k hd L;obtain⟨l3,fn3,D3,r1,r2,r3,r4⟩:=hh2.mem.ent k _ hd hs2 hk2;have M:l3=l':=by rw[e1]at r1;cases r1;rfl
 subst M
 have key:j.1=(if j.2.isNone then LoopState.ready else .done)→∃v w',(Instr.endRound l3 j.2).run P w3=.ok v w'∧wpListIn (Hq ro) 0 P ops Q (rest++l2) (a.put o.dst v) w':=by
  intro hst
  obtain⟨m4,g4⟩:=m3.ado (o:=.loop { state:=(if j.2.isNone then LoopState.ready else .done),pending:=j.2,fn:=fn3,tmps:=tm,params:=rc.1,assign:=rc.2.1,body:=rc.2.2,defers:=D3 }) (e':=.loop tm u rc j.1 j.2) hs2 rfl hk2 (sI r1)
   (fun g=>⟨l3,fn3,D3,r1,by rw[hst];exact VB (FN.1 r2).1,r3,fun t O=>(r4 t O).mono g (.refl _)⟩)
  refine⟨_,_,run_endRound j.2 r2,hL.run ro l2 Q C _ _ _ _ (Holds.put (σ:=⟨σ.slots,s2.ents.set k (.loop tm u rc j.1 j.2),σ.base⟩) ⟨m4,q.size,q.defers.mono (g3.trans g4),q.base,fun t O=>(q.slot t O).mono (g3.trans g4) n3⟩ o.dst (.refl _ _) (.refl _) m4 (.d _ _ (.lit _))) J⟩
 cases e with
 |normal=>obtain rfl:=CO hj;exact key rfl
 |ret=>obtain rfl:=CO hj;exact key rfl
 |exit i=>obtain rfl:=CO hj;exact key rfl
 |_=>cases hj
def AO.ap7 {Q:Exit→Ar→Prop} {g:Operand} {O:Array Tmp} {assign body c:Code} {gf:FuncId} {fn:Func} (f:List Ac) (hg:∀(C:Dv) (ok:Nat→Prop) (H:List Ba) (a:Act) (w:World),Holds C ok H σ a w→R ok w H (.fn (.func gf) [] f) (a.eval g)) (hf:P.funcs[gf]? =some fn) (he:DX P gf=true) (z:fn.body=some c) (hres:fn.results= #[])
 (h:∀tm,AO P c ⟨(.mp σ.ents.length::f)++List.replicate (fn.ntmps-(f.length+1)) .junk,σ.ents++[.loop tm σ.slots (O,assign,body) .ready none],σ.ents.length+1⟩ fun e s=>(e=.normal∨e=.ret)∧
  ∃sl j x,s.ents[σ.ents.length]? =some (.loop tm sl (O,assign,body) j.1 j.2)∧Vm x=some j∧Q x ⟨σ.slots,s.ents.set σ.ents.length .dead,σ.base⟩):AO P (.rangeFunc g O assign body) σ Q:=by
 refine⟨fun ro hr C ok H a w m=>?_⟩;obtain rfl:ro=none:=hr.resolve_right (by simp[OC]);have hv:=hg C ok H a w m;generalize hav:a.eval g=v at hv;cases hv with
 |fn _ _ _ vs us hl1 hl2 h1 h2=>
  obtain rfl:vs= #[]:=XL (by simpa using hl1);refine wpIn_rangeFunc ?_;intro fnm _;obtain⟨J,hrec⟩:∃J:Loop,J={ state:=.ready,pending:=none,fn:=fnm,tmps:=a.tmps,params:=O,assign,body,defers:=w.heap.size }:=⟨_,rfl⟩
  obtain⟨u,I⟩:∃u,(w.alloc (.deferred (some []))).alloc (.loop J)=u:=⟨_,rfl⟩
  have hsz:u.heap.size=w.heap.size+2:=by rw[←I];simp
  have hL:u.heap[w.heap.size+1]? =some (.loop J):=by
   rw[←I];have :=ZJ (w.alloc (.deferred (some []))) (.loop J);rwa [aGo]at this
  have hD:u.heap[w.heap.size]? =some (.deferred (some [])):=by
   rw[←I];exact(Io _ _ _ BK).trans (ZJ w _)
  have hold:∀b,b<w.heap.size→u.heap[b]? =w.heap[b]? :=fun b z=>by
   rw[←I];exact(Io _ _ _ E8).trans (Io _ _ _ z)
  have hos:u.os=w.os∧u.tape=w.tape∧u.output=w.output:=by rw[←I];exact⟨rfl,rfl,rfl⟩
  obtain⟨hd,hhd⟩:∃hd:Ba,hd=⟨.func (.yield (w.heap.size+1)) #[] #[],0⟩:=⟨_,rfl⟩
  have U:hd.v=.func (.yield (w.heap.size+1)) #[] #[]:=by rw[hhd]
  have hgr:Dz ok w (fun b=>ok b∨b=w.heap.size) u:=fun b z=>⟨.inl z,hold b (m.mem.jF b z)⟩
  have hHn:(H++[hd])[σ.ents.length]? =some hd:=by rw[←m.mem.hlen];simp
  obtain⟨m2,g2⟩:=m.mem.change (ok':=fun b=>ok b∨b=w.heap.size) (H':=H++[hd]) (es':=σ.ents++[.loop a.tmps σ.slots (O,assign,body) .ready none]) (w':=u) (fun _=>False) hos.1 hos.2.1 hos.2.2 AL (fun b z _=>hold b z) (fun _ h=>h.elim)
   (fun _ h=>.inl h) (fun b z=>z.imp id fun h=>AL) (.push _ _) (by simp[m.mem.hlen]) (fun k e hk he Y=>by
    rcases Uh he with Z|⟨rfl,rfl⟩
    ·left;have hkl:k<H.length:=by rw[m.mem.hlen];exact(FC.1 Z).1
     rw[Fr hkl]at Y;exact⟨Z,Y,fun _ _ _ h=>h⟩
    right;rw[hHn]at Y;obtain rfl:=CO Y;refine⟨⟨w.heap.size+1,fnm,w.heap.size,U,by rw[hL,hrec],m.size,fun t ht=>(m.slot t ht).mono hgr (.push _ _)⟩,fun _ b z=>?_⟩;rw[sI U]at z;obtain rfl:=CO z;refine⟨fun hx=>?_,AL,.inl (by have :=m.mem.fr.size;omega),fun k' e' h' hne Z hl' L hb'=>?_⟩
    ·rcases hx with hx|hx
     ·have :=m.mem.jF _ hx;omega
     omega
    rcases Uh Z with he2|⟨rfl,_⟩
    ·have hkl:k'<H.length:=by rw[m.mem.hlen];exact(FC.1 he2).1
     rw[Fr hkl]at L;have :=(m.mem.blk k' e' h' _ he2 hl' L hb').2.1;omega
    exact hne rfl)
  have hargs:∀t,t<((.mp σ.ents.length::f)++List.replicate (fn.ntmps-(f.length+1)) .junk:List Ac).length→
   R (fun b=>ok b∨b=w.heap.size) u (H++[hd]) (((.mp σ.ents.length::f)++List.replicate (fn.ntmps-(f.length+1)) .junk:List Ac).getD t .junk)
     (((#[.func (.yield (w.heap.size+1)) #[] #[]]++us)++Array.replicate (fn.ntmps-(#[.func (.yield (w.heap.size+1)) #[] #[]]++us:Array Value).size) undef:Array Value).getD t undef):=by
   intro t ht;by_cases h0:t<f.length+1
   ·have q1:((.mp σ.ents.length::f)++List.replicate (fn.ntmps-(f.length+1)) .junk:List Ac).getD t .junk=(.mp σ.ents.length::f:List Ac).getD t .junk:=by
     simp only[List.getD];rw[Fr (by simpa using h0)]
    have q2:((#[.func (.yield (w.heap.size+1)) #[] #[]]++us)++Array.replicate (fn.ntmps-(#[.func (.yield (w.heap.size+1)) #[] #[]]++us:Array Value).size) undef:Array Value).getD t undef=(#[.func (.yield (w.heap.size+1)) #[] #[]]++us:Array Value).getD t undef:=by
     simp only[GU];rw[WG E8]
    rw[q1,q2];cases t with
    |zero=>
     have q3:(#[.func (.yield (w.heap.size+1)) #[] #[]]++us:Array Value).getD 0 undef=.func (.yield (w.heap.size+1)) #[] #[]:=by
      simp only[GU];rw[WG BK];rfl
     rw[q3];exact .mp _ _ 0 rfl (by rw[hHn,hhd])
    |succ t=>
     have q3:(#[.func (.yield (w.heap.size+1)) #[] #[]]++us:Array Value).getD (t+1) undef=us.getD t undef:=by
      simp only[GU];rw[aGr BK];rfl
     rw[q3];simpa using(h2 t AL).mono hgr (.push _ _)
   have q1:((.mp σ.ents.length::f)++List.replicate (fn.ntmps-(f.length+1)) .junk:List Ac).getD t .junk=.junk:=by
    simp only[List.getD];rw[Ir E8,aI7];split<;>rfl
   rw[q1];exact .junk _
  have hin:Holds (Dv.now u (fun b=>ok b∨b=w.heap.size) (σ.ents++[.loop a.tmps σ.slots (O,assign,body) .ready none]) (H++[hd])) (fun b=>ok b∨b=w.heap.size) (H++[hd])
   ⟨(.mp σ.ents.length::f)++List.replicate (fn.ntmps-(f.length+1)) .junk,σ.ents++[.loop a.tmps σ.slots (O,assign,body) .ready none],σ.ents.length+1⟩
   { tmps:=(#[.func (.yield (w.heap.size+1)) #[] #[]]++us)++Array.replicate (fn.ntmps-(#[.func (.yield (w.heap.size+1)) #[] #[]]++us:Array Value).size) undef,defers:=[] } u:=
   ⟨m2.inner,by simp[hl2];omega,.nil _ _ _,by simp[Dv.now,m.mem.hlen],hargs⟩
  refine⟨w.heap.size+1,[{ target:=.collected w.heap.size,args:= #[] }],u,{ target:=.fn (.func gf) us,args:= #[.func (.yield (w.heap.size+1)) #[] #[]] },u,gf, #[.func (.yield (w.heap.size+1)) #[] #[]]++us,u,?_,?_,fun _ _=>trivial,?_,fun h=>Gt,?_⟩
  ·rw[←I,hrec];exact run_enterLoop_outer _ _ _ _ _
  ·have e9:a.eval (.const (.func (.yield (w.heap.size+1)) #[] #[]))=.func (.yield (w.heap.size+1)) #[] #[]:=rfl;simp[resolve,hav,Deferred.ofValue,e9]
  ·have :=Qq he (#[.func (.yield (w.heap.size+1)) #[] #[]]++us) u;simpa[invoke]using this
  refine aFH hf z trivial (Rx ((h a.tmps).run none (.inl rfl) _ _ _ _ _ hin) ?_) rfl;rintro e a' w' ⟨ok',H',s,L,hee,sl,j,x,hs,hj,hQ⟩;obtain⟨Ds,hDs,hnd,hds⟩:=L.defers
  have key:LeavesInM (Hq none) 0 P fn a'.tmps (rangePost (Hq none) 0 P (w.heap.size+1) (fun e a' w'=>∃ok' H' σ',Holds C ok' H' σ' a' w'∧Q e σ') { a with defers:=[{ target:=.collected w.heap.size,args:= #[] }]++a.defers }) a'.defers .returning w':=by
   rw[hDs];refine aEB (P:=P) (C:=Dv.now u (fun b=>ok b∨b=w.heap.size) (σ.ents++[.loop a.tmps σ.slots (O,assign,body) .ready none]) (H++[hd])) m2.jF (fun ok3 a3 w3 h3=>?_) Ds L hds hnd;refine⟨.tuple #[],by simp[results,hres],?_⟩;obtain⟨g3,n3,m3⟩:=m2.outer h3.mem;have hk3:=n3 _ hd hHn;obtain⟨l3,fn3,D3,r1,r2,r3,r4⟩:=h3.mem.ent _ _ hd hs hk3;have hll:l3=w.heap.size+1:=by rw[U]at r1;cases r1;rfl
   subst hll
   have hnb:j.1≠ .busy:=by
    cases x<;>simp[Vm]at hj<;>rw[←hj]<;>simp
   obtain⟨m4,g4⟩:=m3.ado (o:=.loop { state:=.exhausted,pending:=j.2,fn:=fn3,tmps:=a.tmps,params:=O,assign:=assign,body:=body,defers:=D3 }) (e':=.dead) hs rfl hk3 (sI U) (fun _=>trivial);have M:=(g2.trans g3).trans g4
   have q:Holds C ok3 H' ⟨σ.slots,s.ents.set σ.ents.length .dead,σ.base⟩ { a with defers:=[{ target:=.collected w.heap.size,args:= #[] }]++a.defers }
    (w3.putObj (w.heap.size+1) (.loop { state:=.exhausted,pending:=j.2,fn:=fn3,tmps:=a.tmps,params:=O,assign:=assign,body:=body,defers:=D3 })):=by
    refine⟨m4,m.size,?_,m.base,fun t ht=>(m.slot t ht).mono M ((Names.push _ _).trans n3)⟩;obtain⟨Es,q1,q2,q3⟩:=m.defers.mono M;obtain⟨Fs,p1,p2,p3⟩:=m.defers
    have hEF:Es=Fs:=by
     have :=q1.symm.trans p1;exact(List.map_inj_right (fun a b h=>Jf)).1 this
    subst hEF;refine⟨w.heap.size::Es,by simp[q1],Jr.2 ⟨fun hm=>?_,q2⟩,fun D hDm=>?_⟩
    ·have :=m.mem.jF _ (p3 _ hm).1;omega
    rcases Ew.1 hDm with rfl|hDm
    ·have hok2:(fun b=>ok b∨b=w.heap.size) w.heap.size:=.inr rfl;have q4:=(g3.trans g4) _ hok2;exact⟨q4.1,m.mem.fr.size,q4.2.trans hD⟩
    exact q3 D hDm
   refine⟨j.2,_,run_endLoop r2 hnb,?_⟩;cases x with
   |normal=>simp[Vm]at hj;rw[←hj]at q ⊢;exact⟨_,_,_,q,hQ⟩
   |ret=>simp[Vm]at hj;rw[←hj]at q ⊢;exact wpIn_ret ⟨_,_,_,q,hQ⟩
   |exit i=>simp[Vm]at hj;rw[←hj]at q ⊢;exact wpIn_exit ⟨_,_,_,q,hQ⟩
   |_=>cases hj
  rcases hee with rfl|rfl
  ·exact key
  exact key
def AO.rangeFunc {Q:Exit→Ar→Prop} {g:Operand} {q:Array Tmp} {assign body c:Code} {u:FuncId} {fn:Func} (f:List Ac) (z:σ.get g=.fn (.func u) [] f) (I:P.funcs[u]? =some fn) (J:DX P u=true) (L:fn.body=some c) (m:fn.results= #[])
 (h:∀tm,AO P c ⟨(.mp σ.ents.length::f)++List.replicate (fn.ntmps-(f.length+1)) .junk,σ.ents++[.loop tm σ.slots (q,assign,body) .ready none],σ.ents.length+1⟩ fun e s=>(e=.normal∨e=.ret)∧
  ∃sl j x,s.ents[σ.ents.length]? =some (.loop tm sl (q,assign,body) j.1 j.2)∧Vm x=some j∧Q x ⟨σ.slots,s.ents.set σ.ents.length .dead,σ.base⟩):AO P (.rangeFunc g q assign body) σ Q:=
 AO.ap7 f (fun _ _ _ _ _ M=>z▸M.get g) I J L m h
def AO.af8 {Q:Exit→Ar→Prop} {g:Operand} {m:Array Tmp} {assign body c:Code} {q:FuncId} {fn:Func} (cs:List D) (u:σ.get g=.d (.fn (.func q) [] cs)) (z:P.funcs[q]? =some fn) (I:DX P q=true) (J:fn.body=some c) (f:fn.results= #[])
 (h:∀tm,AO P c ⟨(.mp σ.ents.length::cs.map .d)++List.replicate (fn.ntmps-((cs.map Ac.d).length+1)) .junk,σ.ents++[.loop tm σ.slots (m,assign,body) .ready none],σ.ents.length+1⟩ fun e s=>(e=.normal∨e=.ret)∧
  ∃sl j x,s.ents[σ.ents.length]? =some (.loop tm sl (m,assign,body) j.1 j.2)∧Vm x=some j∧Q x ⟨σ.slots,s.ents.set σ.ents.length .dead,σ.base⟩):AO P (.rangeFunc g m assign body) σ Q:=
 AO.ap7 (cs.map .d) (fun _ _ _ _ _ L=>R.dfn (u▸L.get g)) z I J f h
end
def ajx :Code→Nat→Code
 | .seq a b,i=>if i=0 then a else b
 | .cond _ a b,i=>if i=0 then a else b
 | .block _ a,_=>a
 | .loop a,_=>a
 | .scope a,_=>a
 | .rangeFunc _ _ a b,i=>if i=0 then a else b
 |c,_=>c
def Sub (c:Option Code) (p:List Nat):Array Tmp×Code×Code:=
 match p.foldl ajx (c.getD .skip)with
 | .rangeFunc _ f a b=>(f,a,b)
 |_=>(#[],.skip,.skip)
section
variable {K V : Type} [BEq K]
def Bv :List (K×V)→K→Option V
 | [],_=>none
 |p::l,k=>bif k==p.1 then some p.2 else Bv l k
def DK :List (K×V)→K→V→List (K×V)
 | [],k,v=>[(k,v)]
 |p::l,k,v=>bif k==p.1 then(k,v)::l else p::DK l k v
def Aj (ek:K→Value) (ev:V→D) (p:K×V):Value×D:=(ek p.1,ev p.2)
structure KeyTy (P:Program) (t:TypeId) (ek:K→Value):Prop where
 same:∃kd,P.underlying t=some kd∧∀a b,Instr.sameNow kd (ek a) (ek b)=some (a==b)
 check:∀e a w,(Instr.checkKey e 10000 t (ek a)).run P w=.ok () w
 eq:∀a b:K,(a==b)=true→a=b
 bits:∀a,Instr.sameBits 10000 (ek a) (ek a)=true
def aj9 {P:Program} {t:TypeId} {k:IntKind} (h:P.underlying t=some (.int k)):KeyTy P t (fun n:Int=>Value.int k n):=by
 refine⟨⟨_,h,fun a b=>by simp[Instr.sameNow]⟩,fun e a w=>?_,fun a b h=>Jf,fun a=>?_⟩
 ·have :∀n,(Instr.checkKey e (n+1) t (.int k a)).run P w=.ok () w:=fun n=>by simp[Instr.checkKey,underlying,h]
  exact this 9999
 unfold Instr.sameBits;simp
def aAs {ek:K→Value} {kd:TypeDesc} (q:∀a b,Instr.sameNow kd (ek a) (ek b)=some (a==b)) (k:K) (v:V):∀(m:List (K×V)) (l:List MapEntry) (i:Nat),l.map (·.key)=m.map (fun p=>ek p.1)→
 (Instr.findNow kd (ek k) l i=some none∧Bv m k=none∧DK m k v=m++[(k,v)])∨
 ∃j e p,Instr.findNow kd (ek k) l i=some (some (i+j,e.val))∧l[j]? =some e∧m[j]? =some p∧Bv m k=some p.2∧(k==p.1)=true∧DK m k v=m.set j (k,v)
 | [],[],_,_=>.inl ⟨rfl,rfl,rfl⟩
 | [],_::_,_,h=>Gw
 |_::_,[],_,h=>Gw
 |p::m,e::l,i,h=>by
  simp only[JD,aEe]at h;cases f:(k==p.1)with
  |true=>
   refine .inr ⟨0,e,p,?_,rfl,rfl,?_,f,?_⟩
   ·simp[Instr.findNow,h.1,q,f]
   ·simp[Bv,f]
   simp[DK,f]
  |false=>
   rcases aAs q k v m l (i+1) h.2 with⟨s,u,z⟩|⟨j,e',I,s,u,z,J,L,M⟩
   ·refine .inl ⟨?_,?_,?_⟩
    ·simp[Instr.findNow,h.1,q,f,s]
    ·simp[Bv,f,u]
    simp[DK,f,z]
   refine .inr ⟨j+1,e',I,?_,Md,Qw,?_,L,?_⟩
   ·simp[Instr.findNow,h.1,q,f,s];omega
   ·simp[Bv,f,J]
   simp[DK,f,M]
end
section
variable {ok : Nat → Prop} {w : World} {es : List (Value × D)} {ms : Array MapEntry} {clock : Nat}
def JF.push (h:JF ok w es ms clock) {k v:Value} {x:D} (J:DT ok w x v):JF ok w (es++[(k,x)]) (ms.push { key:=k,val:=v,born:=clock }) (clock+1):=by
 have f:∀(i:Nat) (m:MapEntry),(ms.push { key:=k,val:=v,born:=clock })[i]? =some m→ms[i]? =some m∨(i=ms.size∧m={ key:=k,val:=v,born:=clock }):=fun i m q=>by
  rw[aDe]at q;split at q
  ·rename_i e;exact .inr ⟨e,(CO q).symm⟩
  exact .inl q
 refine⟨by simp[h.len],fun i e m u q=>?_,fun i j m n z q L=>?_⟩
 ·rcases f i m q with s|⟨rfl,rfl⟩
  ·have hi:i<es.length:=by rw[←h.len];exact(FN.1 s).1
   rw[Fr hi]at u;obtain⟨M,O,U⟩:=h.ent i e m u s;exact⟨M,O,Nat.lt_succ_of_lt U⟩
  rw[h.len]at u;simp at u;subst u;exact⟨rfl,J,Wq _⟩
 rcases f i m q with s|⟨rfl,rfl⟩<;>rcases f j n L with I|⟨rfl,rfl⟩
 ·exact h.inc i j m n z s I
 ·have hi:i<es.length:=by rw[←h.len];exact(FN.1 s).1
  exact(h.ent i es[i] m Oo s).2.2
 ·have :=(FN.1 I).1;omega
 omega
def JF.modify (h:JF ok w es ms clock) {k v:Value} {x:D} (Y:DT ok w x v) (j:Nat):JF ok w (es.set j (k,x)) (ms.modify j fun e=>{ e with key:=k,val:=v }) clock:=by
 have f:∀(i:Nat) (m:MapEntry),(ms.modify j fun e=>{ e with key:=k,val:=v })[i]? =some m→∃s,ms[i]? =some s∧m.born=s.born∧(i≠j→m=s)∧(i=j→m.key=k∧m.val=v):=fun i m u=>by
  rw[NH]at u;split at u
  ·rename_i e;rw[TQ]at u;obtain⟨s,z,rfl⟩:=u;exact⟨s,z,rfl,fun q=>absurd e.symm q,fun _=>⟨rfl,rfl⟩⟩
  rename_i e;exact⟨m,u,rfl,fun _=>rfl,fun q=>absurd q.symm e⟩
 refine⟨by simp[h.len],fun i e m I u=>?_,fun i O m n J u Z=>?_⟩
 ·obtain⟨s,z,L,h3,U⟩:=f i m u;have hi:i<es.length:=by rw[←h.len];exact(FN.1 z).1
  obtain⟨q1,q2,q3⟩:=h.ent i es[i] s Oo z;by_cases M:i=j
  ·subst M;simp[hi]at I;subst I;exact⟨(U rfl).1,by rw[(U rfl).2];exact Y,by rw[L];exact q3⟩
  rw[Vb (fun q=>M q.symm)]at I;rw[h3 M];exact h.ent i e s I z
 obtain⟨s,z,L,_⟩:=f i m u;obtain⟨n0,g1,g2,_⟩:=f O n Z;rw[L,g2];exact h.inc i O s n0 J z g1
def JF.mono {ok':Nat→Prop} {w':World} (h:JF ok w es ms clock) (q:Dz ok w ok' w'):JF ok' w' es ms clock:=⟨h.len,fun i e m f j=>⟨(h.ent i e m f j).1,(h.ent i e m f j).2.1.mono q,(h.ent i e m f j).2.2⟩,h.inc⟩
def JF.keys (h:JF ok w es ms clock):ms.toList.map (·.key)=es.map (·.1):=by
 apply Z9
 ·simp[h.len]
 intro i f j;simp at f j;have :=(h.ent i es[i] ms[i] Zt WU).1;simpa using this
end
def Vt :Value→D
 | .agg vs=>.agg (vs.toList.map NP)
 |v=>NP v
def adU {ok:Nat→Prop} {w:World} {z:Value} (h:z.cells.all (·.oneCell')=true):DT ok w (Vt z) z:=by
 unfold Vt;split
 ·rename_i vs;refine .agg _ vs BK (fun i hi=>?_) (fun i hi=>?_)
  ·simp at hi;have e:(vs.toList.map NP).getD i DR=NP vs[i]:=Ky
   rw[e];exact qA ((OX.1 h) _ (by simp[Value.cells]))
  simp at hi;have e:(vs.toList.map NP).getD i DR=NP vs[i]:=Ky
  have f:vs.getD i undef=vs[i]:=by simp[Array.getD,hi]
  rw[e,f];exact Zu _
 exact Zu _
section
variable {P : Program} {o : Oper} {es : List BH} {K V : Type} [BEq K]
def Qy {ok:Nat→Prop} {w:World} {H:List Ba} {k:Nat} {v:Value} {h:Ba} (j:R ok w H (.mp k) v) (m:H[k]? =some h):v=h.v:=by
 cases j with
 |mp _ _ s hl f=>
  rw[m]at f;cases f;rfl
def aB7 {t:TypeId} (s:o.op=.makeMap t none):Bc P o [] es (.mp es.length) (es++[.map []]):=
 .eff fun C ok H a w f L=>by
  have q:EW ok (w.alloc (.map #[] 0)) (H++[⟨.map (some w.heap.size),0⟩]) ⟨.map (some w.heap.size),0⟩ (.map []):=
   ⟨w.heap.size, #[],0,rfl,(aHf w _).1,⟨rfl,fun i e m u=>kT,fun i j m n _ f=>SH⟩⟩
  obtain⟨z,I⟩:=f.push (.map #[] 0) ⟨.map (some w.heap.size),0⟩ _ (fun b q=>aCL) q;refine⟨.map (some w.heap.size),_,ok,_,.inl ?_,I,Names.push _ _,z,.mp _ _ 0 rfl rJ⟩;have J:(newObj (.map #[] 0)).run P w=.ok w.heap.size (w.alloc (.map #[] 0)):=rfl;simp[execOp,s,Instr.makeMap,J]
def apR {t k e:TypeId} {x:Operand} {kd:IntKind} {n:Int} (u:P.underlying t=some (.map k e)) (z:o.op=.makeMap t (some x)):Bc P o [(x,.d (.lit (.int kd n)))] es (.mp es.length) (es++[.map []]):=
 .eff fun C ok H a w f I=>by
  have q:EW ok (w.alloc (.map #[] 0)) (H++[⟨.map (some w.heap.size),0⟩]) ⟨.map (some w.heap.size),0⟩ (.map []):=
   ⟨w.heap.size, #[],0,rfl,(aHf w _).1,⟨rfl,fun i e m J=>jP,fun i j m n _ f=>SH⟩⟩
  obtain⟨L,M⟩:=f.push (.map #[] 0) ⟨.map (some w.heap.size),0⟩ _ (fun b q=>aCL) q;have s:=(J6 I).lit;simp only at s;refine⟨.map (some w.heap.size),_,ok,_,.inl ?_,M,Names.push _ _,L,.mp _ _ 0 rfl rJ⟩;have O:(newObj (.map #[] 0)).run P w=.ok w.heap.size (w.alloc (.map #[] 0)):=rfl;simp[execOp,z,Instr.makeMap,O,s,asInt,asIntOf,underlying,u]
def aA8 {t U Y:TypeId} {ek:K→Value} (ev:V→D) {u:V} {z:Value} {m:List (K×V)} {key:K} {ok:Nat→Prop} {w:World} {b:Nat} {ms:Array MapEntry} {clock:Nat} (Z:P.underlying t=some (.map U Y)) (hk:KeyTy P U ek) (hz:(P.info? Y).bind (·.zero)=some z) (I:Vt z=ev u)
 (J:z.cells.all (·.oneCell')=true) (hb:w.heap[b]? =some (.map ms clock)) (hM:JF ok w (m.map (Aj ek ev)) ms clock) (c:Bool):
 ∃v,(Instr.lookup t (.map (some b)) (ek key) c).run P w=.ok (if c then .tuple #[v,.bool (Bv m key).isSome]else v) w∧DT ok w (ev ((Bv m key).getD u)) v:=by
 obtain⟨kd,f,hs⟩:=hk.same;have L:ms.toList.map (·.key)=m.map (fun p=>ek p.1):=by rw[hM.keys];simp[Aj,qB]
 have q:=hk.check;obtain⟨i,hi,M⟩:=eu.1 hz;rcases aAs (i:=0) hs key u m ms.toList L with⟨O,s,_⟩|⟨j,e,p,O,s,h3,h4,_⟩
 ·refine⟨z,?_,?_⟩
  ·rw[s];simp[Instr.lookup,underlying,Z,QM hb,q,Instr.findKey,f,O,zeroValue,typeInfo,hi,M]
  rw[s];have :=adU (ok:=ok) (w:=w) J;rw[I]at this;exact this
 refine⟨e.val,?_,?_⟩
 ·rw[h4];simp[Instr.lookup,underlying,Z,QM hb,q,Instr.findKey,f,O]
 rw[h4];have h5:(m.map (Aj ek ev))[j]? =some (Aj ek ev p):=by rw[IY,h3];rfl
 exact(hM.ent j _ e h5 VJ).2.1
def Yc {t u I:TypeId} {x y:Operand} {k:Nat} {ek:K→Value} (ev:V→D) (J:V) {z:Value} {m:List (K×V)} {key:K} (U:P.underlying t=some (.map u I)) (Y:KeyTy P u ek) (Z:(P.info? I).bind (·.zero)=some z) (j:Vt z=ev J) (q:z.cells.all (·.oneCell')=true)
 (he:es[k]? =some (.map (m.map (Aj ek ev)))) (ho:o.op=.lookup t x y false):Bc P o [(x,.mp k),(y,.d (.lit (ek key)))] es (.d (ev ((Bv m key).getD J))) es:=
 .pure fun ok H a w f hl L=>by
  obtain⟨hd,hh,s⟩:=FV f hl he;obtain⟨b,ms,clock,h1,h2,h3⟩:=s;have M:=Qy (EN L).1 hh;have O:=(EN L).2.lit;simp only at M O;obtain⟨v,hr,hv⟩:=aA8 (key:=key) ev U Y Z j q h2 h3 false;refine⟨v,?_,.d _ _ hv⟩;simp[execOp,ho,M,O,h1,hr]
def aAR {t u I:TypeId} {x y:Operand} {k:Nat} {ek:K→Value} (ev:V→D) (J:V) {z:Value} {m:List (K×V)} {key:K} (U:P.underlying t=some (.map u I)) (Y:KeyTy P u ek) (Z:(P.info? I).bind (·.zero)=some z) (j:Vt z=ev J) (q:z.cells.all (·.oneCell')=true)
 (he:es[k]? =some (.map (m.map (Aj ek ev)))) (ho:o.op=.lookup t x y true):Bc P o [(x,.mp k),(y,.d (.lit (ek key)))] es (.eF [.d (ev ((Bv m key).getD J)),.d (Cj (Bv m key).isSome)]) es:=
 .pure fun ok H a w f hl L=>by
  obtain⟨hd,hh,s⟩:=FV f hl he;obtain⟨b,ms,clock,h1,h2,h3⟩:=s;have M:=Qy (EN L).1 hh;have O:=(EN L).2.lit;simp only at M O;obtain⟨v,hr,hv⟩:=aA8 (key:=key) ev U Y Z j q h2 h3 true;refine⟨.tuple #[v,.bool (Bv m key).isSome],?_,.eF _ _ rfl fun i hi=>?_⟩
  ·simp[execOp,ho,M,O,h1,hr]
  match i,hi with
  |0,_=>exact .d _ _ hv
  |1,_=>exact .d _ _ (.lit _)
def aIV {C:Dv} {ok:Nat→Prop} {H:List Ba} {w:World} (u:CW C ok H es w) {k:Nat} {es0 m:List (Value×D)} {b clock f:Nat} {ms j:Array MapEntry} {hd:Ba} (z:es[k]? =some (.map es0)) (I:H[k]? =some hd) (q:hd.v=.map (some b)) (s:w.heap[b]? =some (.map ms clock))
 (J:JF ok w m j f):(setObj b (.map j f)).run P w=.ok () (w.putObj b (.map j f))∧CW C ok H (es.set k (.map m)) (w.putObj b (.map j f))∧Dz ok w ok (w.putObj b (.map j f)):=by
 refine⟨by simp[setObj,Sem.run,s,World.putObj],u.ado z rfl I (by rw[q];rfl) fun L=>⟨b,j,f,q,VB (FN.1 s).1,J.mono L⟩⟩
def qP {t kt vt:TypeId} {x y u:Operand} {k:Nat} {ek:K→Value} (ev:V→D) {m:List (K×V)} {key:K} {val:V} (ht:P.underlying t=some (.map kt vt)) (z:KeyTy P kt ek) (O:es[k]? =some (.map (m.map (Aj ek ev)))) (ho:o.op=.mapUpdate t x y u):
 Bc P o [(x,.mp k),(y,.d (.lit (ek key))),(u,.d (ev val))] es .junk (es.set k (.map ((DK m key val).map (Aj ek ev)))):=
 .eff fun C ok H a w I U=>by
  obtain⟨hd,Y,Z⟩:=FV I.ent I.hlen O;obtain⟨b,ms,clock,J,L,M⟩:=Z;have hx:=Qy (U (x,.mp k) BK) Y;have hy:=(U (y,.d (.lit (ek key))) BK).lit;have hu:DT ok w (ev val) (a.eval u):=by have :=U (u,.d (ev val)) BK;cases this with |d _ _ h=>exact h
  simp only at hx hy;obtain⟨kd,f,hs⟩:=z.same;have hks:ms.toList.map (·.key)=m.map (fun p=>ek p.1):=by rw[M.keys];simp[Aj,qB]
  have q:=z.check;rcases aAs (i:=0) hs key val m ms.toList hks with⟨q1,_,q3⟩|⟨j,e,p,q1,q2,q3,_,q5,q6⟩
  ·have hM:=M.push (k:=ek key) hu;obtain⟨r1,r2,r3⟩:=aIV (P:=P) I O Y J L hM;refine⟨undef,_,ok,H,.inr ⟨rfl,?_⟩,r3,.refl _,?_,.junk _⟩
   ·simp[execOp,ho,hx,hy,J,Instr.mapUpdate,underlying,ht,QM L,q,Instr.findKey,f,q1,r1]
   rw[q3,I9];exact r2
  have hM:=M.modify (k:=ek key) hu j;obtain⟨r1,r2,r3⟩:=aIV (P:=P) I O Y J L hM
  have s:e.key=ek key:=by
   have h5:(m.map (Aj ek ev))[j]? =some (Aj ek ev p):=by rw[IY,q3];rfl
   rw[(M.ent j _ e h5 jf).1,z.eq _ _ q5];rfl
  have hst:∀w,(Instr.keyThatStays (ek key) (ek key)).run P w=.ok (ek key) w:=fun w=>by simp[Instr.keyThatStays,z.bits]
  have hms:ms[j]? =some e:=jf
  refine⟨undef,_,ok,H,.inr ⟨rfl,?_⟩,r3,.refl _,?_,.junk _⟩
  ·simp[execOp,ho,hx,hy,J,Instr.mapUpdate,underlying,ht,QM L,q,Instr.findKey,f,q1,hms,s,hst,r1]
  rw[q6,yQ];exact r2
def alG {t L M:TypeId} {x:Operand} {k:Nat} {es0:List (Value×D)} (O:P.underlying t=some (.map L M)) (q:es[k]? =some (.map es0)) (U:o.op=.call { callee:=.builtin .clear,args:= #[x],argTypes:= #[t] }):
 Bc P o [(x,.mp k)] es .junk (es.set k (.map [])):=
 .eff fun C ok H a w f Y=>by
  obtain⟨hd,u,s⟩:=FV f.ent f.hlen q;obtain⟨b,ms,clock,z,I,h3⟩:=s;have J:=Qy (Y (x,.mp k) BK) u;simp only at J;have Z:JF ok w [] #[] clock:=⟨rfl,fun i e m q=>Vp,fun i j m n _ f=>SH⟩
  obtain⟨r1,r2,r3⟩:=aIV (P:=P) f q u z I Z;refine⟨.tuple #[],_,ok,H,.inl ?_,r3,.refl _,r2,.junk _⟩;simp[execOp,U,resolve,invoke,builtin,Builtin.clear_,J,z,underlying,O,QM I,r1]
def asl {t q s:TypeId} {x:Operand} {k:Nat} {es0:List (Value×D)} {n:Nat} (hl:es0.length=n) (u:P.underlying t=some (.map q s)) (z:es[k]? =some (.map es0)) (I:o.op=.call { callee:=.builtin .len,args:= #[x],argTypes:= #[t] }):
 Bc P o [(x,.mp k)] es (.d (AY n)) es:=
 .pure fun ok H a w f hlen J=>by
  obtain⟨hd,L,j⟩:=FV f hlen z;obtain⟨b,ms,clock,M,O,U⟩:=j;have m:=Qy (J (x,.mp k) BK) L;simp only at m;refine⟨goInt es0.length,?_,by rw[hl];exact .d _ _ (.lit _)⟩;simp[execOp,I,resolve,invoke,builtin,Builtin.len_,m,M,underlying,u,QM O,U.len]
end
def vG {ok:Nat→Prop} {w:World} {H:List Ba} {xs ys:List Ac} {vs us:List Value} (h:FH ok w H xs vs) (k:FH ok w H ys us):FH ok w H (xs++ys) (vs++us):=by
 refine⟨by rw[Dx,Dx,h.1,k.1],fun i hi=>?_⟩;by_cases f:i<xs.length
 ·have j:(xs++ys).getD i .junk=xs.getD i .junk:=by simp[List.getD,Fr f]
  have m:(vs++us).getD i undef=vs.getD i undef:=by simp[List.getD,Fr (by rw[h.1];exact f:i<vs.length)]
  rw[j,m];exact h.2 i f
 have q:i-xs.length<ys.length:=aEU
 have j:(xs++ys).getD i .junk=ys.getD (i-xs.length) .junk:=by simp[List.getD,Ir (RI f)]
 have m:(vs++us).getD i undef=us.getD (i-xs.length) undef:=by simp[List.getD,Ir (by rw[h.1];omega:vs.length≤i),h.1]
 rw[j,m];exact k.2 _ q
def CW.awP {C:Dv} {ok:Nat→Prop} {H:List Ba} {es:List BH} {w w':World} (f:CW C ok H es w) {v':Value} {size:Nat} {e:BH} (s:w.grownBy w' none) (u:∀g,DC v'=some g→w.heap.size≤g∧g<w'.heap.size)
 (he:Dz ok w ok w'→EW ok w' (H++[⟨v',size⟩]) ⟨v',size⟩ e):CW C ok (H++[⟨v',size⟩]) (es++[e]) w'∧Dz ok w ok w':=by
 have g0:Dz ok w ok w':=fun b u=>⟨u,s.block b (f.jF b u) BK⟩
 refine f.change (fun _=>False) s.os s.tape s.output s.size (fun b u _=>s.block b u BK) (fun _ h=>h.elim) (fun _ h=>h) (fun _ h=>.inl h) (Names.push _ _) (by simp[f.hlen]) ?_;intro k e' h' J m;rcases Uh J with I|⟨I,h2⟩
 ·left;refine⟨I,?_,fun _ _ _ h=>h⟩;have L:k<H.length:=by rw[f.hlen];exact(FC.1 I).1
  rwa [Fr L]at m
 subst h2;have L:k=H.length:=by rw[f.hlen];exact I
 subst L;simp at m;subst m;refine .inr ⟨he g0,fun _ b M=>?_⟩;obtain⟨q1,q2⟩:=u b M;refine⟨fun q=>absurd (f.jF _ q) AL,q2,.inl (Dn f.fr.size q1),fun k' O U Y Z hl j z=>?_⟩;rcases Uh Z with q|⟨q,_⟩
 ·have hk2:k'<H.length:=by rw[f.hlen];exact(FC.1 q).1
  rw[Fr hk2]at j;exact absurd (f.blk k' O U _ q hl j z).2.1 AL
 rw[←f.hlen]at q;exact Y q
section
variable {P : Program} {o : Oper} {es es' : List BH}
def Bc.thaw {ns:List (Operand×Ac)} {k e s:Nat} {xs:List D} (h:Bc P o ns es (.aS k) es') (z:es'[k]? =some (.arr e s xs)):Bc P o ns es (.d (.sl xs)) (es'.set k .dead):=by
 intro C ok H a w Q I J;refine Oper.wp_mono ?_ (h C ok H a w Q I J);rintro a' w' ⟨v,ok',H',rfl,L,j,f,M⟩
 have m:Holds (Dv.now w' ok' es' H') ok' H' ⟨[.aS k],es',H'.length⟩ { tmps:= #[v],defers:=[] } w':=⟨f.inner,rfl,.nil _ _ _,rfl,fun t O=>by
  match t,O with
  |0,_=>exact M⟩
 obtain⟨q,u⟩:=LH k z _ _ _ _ _ m;obtain⟨U,_,Y⟩:=f.outer u.mem;refine⟨v,q,H',rfl,L.trans U,j,Y,?_⟩;have :=u.slot 0 (by simp[Ar.thaw]);simpa[Ar.thaw,Ac.thaw]using this
def DT.awQ {ok:Nat→Prop} {w:World} {xs:List D} {ad:Option Addr} {n cap f:Nat} (h:DT ok w (.sl xs) (.slice ad n cap)) (s:xs.length≤f):DT ok w (.sl xs) (.slice ad n f):=by
 cases h with
 |sl0 _ _=>exact .sl0 _ _
 |sl _ b off _ size q m u z I j=>exact .sl xs b off f size s m u z I j
def aaV {t e:TypeId} {agg:Bool} {size n cap m:Nat} {ad:Option Addr} {w:World} (j:P.underlying t=some (.slice e)) (q:Dc P e agg size) (f:m≤cap):
 (Instr.slice t (.slice ad n cap) none (some (.int .i64 m)) (some (.int .i64 m))).run P w=.ok (.slice (if m=0 then ad else ad.map (·.add 0)) m m) w:=by
 have s:(underlying t).run P w=.ok (.slice e) w:=uQ
 have u:((m:Int)≤(cap:Int)):=Int.ofNat_le.2 f;simp[Instr.slice,s,Instr.sliceBounds,Instr.sliceBound,asIntOf,u,f,q.size]
def aaT {α:Type} {t e:TypeId} {agg:Bool} {size:Nat} {x y z:Operand} {h:Int} (enc:α→D) {xs r:List α} (hr:MS xs 0 h=some r) (Y:P.underlying t=some (.slice e)) (hT:Dc P e agg size) (hc:∀a,(enc a).cells.length=size)
 (ho:o.op=.slice t x none (some y) (some z)):Bc P o [(x,.d (Ai enc xs)),(y,.d (AY h)),(z,.d (AY h))] es (.clip (r.map enc)) es:=
 .pure fun ok H a w _ _ L=>by
  obtain⟨⟨_,h1,h2⟩,rfl⟩:=aKB hr;have M:=L (x,.d (Ai enc xs)) BK;have J:=(L (y,.d (AY h)) BK).lit;have Z:=(L (z,.d (AY h)) BK).lit;simp only at M J Z;generalize hv:a.eval x=v at M;have s:DT ok w (.sl (xs.map enc)) v:=by cases M with |d _ _ h=>exact h
  have u:∃ad cap,v=.slice ad (xs.map enc).length cap∧(xs.map enc).length≤cap:=by
   generalize hys:xs.map enc=ys at s;cases s with
   |sl0 ad cap=>exact⟨ad,cap,rfl,EF _⟩
   |sl _ b off cap size f=>exact⟨_,cap,rfl,f⟩
  obtain⟨ad,cap,rfl,f⟩:=u
  have hlen:(List.map enc ((xs.drop 0).take (h.toNat-0))).length=h.toNat:=by
   rw[Ch,Gx,jY];omega
  have q:=aaV (P:=P) (n:=xs.length) (ad:=ad) (w:=w) Y hT (m:=h.toNat) (cap:=cap) (by rw[Ch]at f;omega);have O:((h.toNat:Nat):Int)=h:=AL
  rw[O]at q;refine⟨.slice (if h.toNat=0 then ad else ad.map (·.add 0)) h.toNat h.toNat,?_,?_⟩
  ·rw[Ch]at hv;simp only[execOp,ho,Option.map_none,HY,hv,J,Z,Instr.sliceAt];have hu:(underlying t).run P w=.ok (.slice e) w:=by simp[underlying,Y]
   simp only[Ei,mW,FT,hu,q,Ep]
  have hD:DT ok w (.sl (List.map enc ((xs.drop 0).take (h.toNat-0)))) (.slice (if h.toNat=0 then ad else ad.map (·.add 0)) (List.map enc ((xs.drop 0).take (h.toNat-0))).length (List.map enc ((xs.drop 0).take (h.toNat-0))).length):=by
   by_cases I:h.toNat=0
   ·have e0:List.map enc ((xs.drop 0).take (h.toNat-0))=[]:=GY (by rw[hlen,I]);rw[e0];exact .sl0 _ _
   have j:=aMf (l:=0) (h:=h.toNat) s (size:=size) (fun y J=>by obtain⟨b,_,rfl⟩:=F7.1 J;exact hc b) (EF _) E8;have U:cap≠0:=by rw[Ch]at f;omega
   rw[D9 U]at j;rw[D9 I,hlen];rw[←Y6,←WY]at j;simp only[Nat.zero_mul,Nat.sub_zero]at j ⊢;exact j.awQ (by rw[Ch,Gx,jY];omega)
  have :=R.clip (H:=H) _ _ hD;rw[hlen]at this;exact this
def aKW {t e e':TypeId} {agg:Bool} {size k s:Nat} {x y z:Operand} {xs:List D} {h:Int} (Z:h=(xs.length:Int)) (hk:es[k]? =some (.arr e' s xs)) (O:P.underlying t=some (.slice e)) (hT:Dc P e agg size)
 (ho:o.op=.slice t x none (some y) (some z)):Bc P o [(x,.aS k),(y,.d (AY h)),(z,.d (AY h))] es (.uo k) es:=
 .pure fun ok H a w q hl J=>by
  obtain⟨hd,u,L⟩:=FV q hl hk;have M:=O8 (J (x,.aS k) BK) u;have U:=(J (y,.d (AY h)) BK).lit;have Y:=(J (z,.d (AY h)) BK).lit;simp only at M U Y;obtain⟨_,_,zs,⟨_,f⟩,_⟩:=L;obtain⟨v,BZ⟩:=hd;simp only at f M;subst Z
  have key:∃ad cap,v=.slice ad xs.length cap∧xs.length≤cap∧ad.map (·.add 0)=ad:=by
   rcases f with⟨rfl,I⟩|⟨g,cap,_,rfl,_,_,I,_⟩
   ·exact⟨none,0,by rw[I],AL,rfl⟩
   exact⟨_,cap,rfl,I,by simp[Addr.add]⟩
  obtain⟨ad,cap,rfl,I,h2⟩:=key;have j:=aaV (P:=P) (n:=xs.length) (ad:=ad) (w:=w) O hT (m:=xs.length) (cap:=cap) I;have hi:(if xs.length=0 then ad else ad.map (·.add 0))=ad:=by split<;>simp[h2]
  rw[hi]at j;refine⟨.slice ad xs.length xs.length,?_,.uo k ad _ cap BZ u⟩;simp only[execOp,ho,Option.map_none,HY,M,U,Y,Instr.sliceAt];have hu:(underlying t).run P w=.ok (.slice e) w:=by simp[underlying,O]
  simp only[Ei,mW,FT,hu,j,Ep]
def alF {C:Dv} {ok:Nat→Prop} {H:List Ba} {w:World} (hm:CW C ok H es w) {t ty e:TypeId} {size j k:Nat} {xs ys:List D} (hE:Fg P t e size j) (hk:es[k]? =some (.arr e size xs))
 {v x:Value} (hv:R ok w H (.uo k) v) {m:List Value} (I:VK w x ys.length size m) (u:FH ok w H (flat ys) m) (hys:∀y∈ys,y.cells.length=size) (hb:(xs.length+ys.length)*j≤140737488355328) (hn:xs.length+ys.length≤maxLen):
 ∃v' w' H',(Builtin.append_ #[t,t] ty #[v,x]).run P w=.ok v' w'∧Dz ok w ok w'∧Names H H'∧CW C ok H' (es.set k .dead++[.arr e size (xs++ys)]) w'∧R ok w' H' (.aS es.length) v':=by
 obtain⟨h,hh,hok⟩:=FV hm.ent hm.hlen hk;obtain⟨h1,h2,zs,f,hrs⟩:=hok
 have key:lG w e size v xs.length zs∧DC v=DC h.v:=by
  cases hv with
  |uo _ ad n cap s J=>
   rw[hh]at J;obtain rfl:=CO J;rcases f.2 with⟨L,q2⟩|⟨g,cap',cur,L,q2,q3,q4,q5,q6,q7⟩
   ·simp only[fU]at L;obtain⟨rfl,rfl,rfl⟩:=L;exact⟨⟨f.1,.inl ⟨rfl,q2⟩⟩,rfl⟩
   simp only[fU]at L;obtain⟨rfl,rfl,rfl⟩:=L;exact⟨⟨f.1,.inr ⟨g,xs.length,cur,rfl,q2,q3,Dw _,Dn q4 q5,Dn (Iu _ q4) q6,q7⟩⟩,rfl⟩
 obtain⟨q,M⟩:=key;obtain⟨v',w',hr,z,O,U⟩:=aEQ (P:=P) (ty:=ty) hE q I hb hn
 obtain⟨h3,h4⟩:=hm.turn (h':=⟨v',size⟩) (e:=.arr e size (xs++ys)) hk rfl hh O.os O.tape O.output O.size (fun c hc hne=>O.block c hc (by rw[aHe q,M];exact fun e=>hne e.symm)) (fun g Y=>⟨qG z Y,(U g Y).imp (fun h=>M▸h) id⟩) (fun Z=>by
  refine⟨rfl,fun y hy=>?_,zs++m,Qw,?_⟩
  ·rcases Gf.1 hy with h|h
   ·exact h2 y h
   exact hys y h
  have a1:=hrs.mono Z (Names.push H [⟨v',size⟩]);have a2:=u.mono Z (Names.push H [⟨v',size⟩]);rw[cD]
  exact vG a1 a2)
 refine⟨v',w',_,hr,h4,Names.push _ _,h3,?_⟩;have J:(H++[(⟨v',size⟩:Ba)])[es.length]? =some ⟨v',size⟩:=by rw[←hm.hlen];simp
 rcases z.2 with⟨rfl,_⟩|⟨g',c',_,rfl,_⟩
 ·exact .aS _ _ _ _ size J
 exact .aS _ _ _ _ size J
def abo {α:Type} {s x:Operand} {t e:TypeId} {size f k:Nat} (enc:α→D) {l m r:List α} (h:DU f l m=some r) (hE:Fg P t e size f) (Y:es[k]? =some (.arr e size (l.map enc))) (Z:∀a,(enc a).cells.length=size) (hb:0<f)
 (ho:o.op=.call { callee:=.builtin .append,args:= #[s,x],argTypes:= #[t,t] }):
 Bc P o [(s,.uo k),(x,.d (Ai enc m))] es (.aS es.length) (es.set k .dead++[.arr e size (r.map enc)]):=by
 obtain⟨rfl,J⟩:=aBK h;refine .eff fun C ok H a w hm j=>?_;have L:=(EN j).1;have M:=(EN j).2;simp only at L M;have z:DT ok w (.sl (m.map enc)) (a.eval x):=by cases M with |d _ _ h=>exact h
 have q:∀y∈m.map enc,y.cells.length=size:=fun y hy=>by obtain⟨a,_,rfl⟩:=F7.1 hy;exact Z a
 obtain⟨O,u,I⟩:=aK H z q;obtain⟨v',w',H',hr,r1,r2,U,r4⟩:=alF (ty:=o.type) hm hE Y L u I q gX (by simpa using aG8 hb J);rw[←I9]at U;refine⟨v',w',ok,H',.inl ?_,r1,r2,U,r4⟩;simp[execOp,ho,resolve,invoke,builtin,hr]
def ajp {ok:Nat→Prop} {w:World} {H:List Ba} {t ty e:TypeId} {size j:Nat} (hE:Fg P t e size j) {xs ys:List D} {v x:Value} (hv:R ok w H (.clip xs) v) (U:∀y∈xs,y.cells.length=size) {m:List Value} (q:VK w x ys.length size m) (hpos:0<ys.length)
 (Y:(xs.length+ys.length)*j≤140737488355328) (Z:xs.length+ys.length≤maxLen):
 ∃f v' w',FH ok w H (flat xs) f∧(Builtin.append_ #[t,t] ty #[v,x]).run P w=.ok v' w'∧w'.ownsRow w.heap.size e size v' (xs.length+ys.length) (f++m)∧w.grownBy w' none:=by
 obtain⟨i,z,hi,hz,hs,u,I⟩:=hE.info;cases hv with
 |clip _ ad hD=>
  obtain⟨f,ho,J⟩:=aK H hD U;rcases q.at_ with⟨L,c,rfl,s⟩|⟨c,rfl,h0⟩
  ·rcases ho.at_ with⟨ad2,c2,M,O⟩|⟨c2,M,O⟩
   ·simp only[fU]at M;obtain⟨rfl,_,rfl⟩:=M;obtain⟨v',w',r1,r2,r3⟩:=run_append_arg_grows (P:=P) w t ty e i z size j hE.und hi hz hs u I hE.pos ad2 xs.length xs.length f ho.len O L ys.length c m q.len s AL Z Y;exact⟨f,v',w',J,r1,r2,r3⟩
   simp only[fU]at M;obtain⟨rfl,_,_⟩:=M;have hx:f=[]:=GY (by rw[ho.len,O];simp);subst hx;rw[O]at Z Y ⊢;obtain⟨v',w',r1,r2,r3,_⟩:=run_append_own (P:=P) w w.heap.size t ty e i z size j hE.und hi hz hs u I hE.pos _ 0 [] (tZ w w.heap.size e size) L ys.length c m q.len s q.one Z Y (Dw _);exact⟨[],v',w',J,r1,r2,r3⟩
  omega
def alW {ok:Nat→Prop} {w':World} {H:List Ba} {base e size:Nat} {v':Value} {xs ys:List D} {f j:List Value} (h:w'.ownsRow base e size v' (xs.length+ys.length) (f++j)) (s:FH ok w' H (flat xs) f) (u:FH ok w' H (flat ys) j) (m:∀y∈xs,y.cells.length=size) (q:∀y∈ys,y.cells.length=size):
 EW ok w' H ⟨v',size⟩ (.arr e size (xs++ys)):=by
 refine⟨rfl,fun y z=>?_,f++j,?_,?_⟩
 ·rcases Gf.1 z with h|h
  ·exact m y h
  exact q y h
 ·have :=lG.of h;simpa using this
 rw[cD];exact vG s u
def akP {w':World} {base e size n:Nat} {v':Value} {j:List Value} (h:w'.ownsRow base e size v' n j):∀g,DC v'=some g→base≤g∧g<w'.heap.size:=by
 intro g f;rcases h.2 with⟨rfl,_⟩|⟨s,_,_,rfl,m,q,_⟩
 ·simp[DC]at f
 simp[DC]at f;subst f;exact⟨m,(FN.1 q).1⟩
def adK {α:Type} {s x:Operand} {t e:TypeId} {size f:Nat} (enc:α→D) {l m r:List α} (h:DU f l m=some r) (hE:Fg P t e size f) (hc:∀a,(enc a).cells.length=size) (I:0<f)
 (J:o.op=.call { callee:=.builtin .append,args:= #[s,x],argTypes:= #[t,t] }):
 Bc P o [(s,.clip (l.map enc)),(x,.d (Ai enc m))] es (.d (Ai enc r)) es:=by
 obtain⟨rfl,h2⟩:=aBK h;refine .eff fun C ok H a w hm L=>?_;have h1:=(EN L).1;have h3:=(EN L).2;simp only at h1 h3;have h3':DT ok w (.sl (m.map enc)) (a.eval x):=by cases h3 with |d _ _ h=>exact h
 have M:∀y∈l.map enc,y.cells.length=size:=fun y hy=>aJQ
 have O:∀y∈m.map enc,y.cells.length=size:=fun y hy=>aJQ
 obtain⟨U,j,hrs⟩:=aK H h3' O;by_cases Y:m=[]
 ·subst Y;obtain⟨i,z,hi,hz,hs,hby,hzs⟩:=hE.info;have q:U=[]:=GY (by rw[j.len];simp);subst q;generalize hv:a.eval s=v at h1;generalize hu:a.eval x=u at j;cases h1 with
  |clip _ ad hD=>
   refine⟨_,w,ok,H,.inl ?_,.refl _ _,.refl _,hm,.d _ _ (by rw[S9];exact hD)⟩;have hL:∀w:World,((underlying t).run P w=.ok (.slice e) w):=fun w=>aHk
   rcases j.at_ with⟨ad',c,rfl,_⟩|⟨c,rfl,_⟩
   ·cases ad with
    |none=>simp[execOp,J,resolve,invoke,builtin,hv,hu,Builtin.append_,hL,sizeOf,typeInfo,hi,Builtin.lenOf,Builtin.firstCells,loadCells,loadCellsFrom]
    |some ad=>simp[execOp,J,resolve,invoke,builtin,hv,hu,Builtin.append_,hL,sizeOf,typeInfo,hi,Builtin.lenOf,Builtin.firstCells,loadCells,loadCellsFrom,storeCells]
   cases ad with
   |none=>simp[execOp,J,resolve,invoke,builtin,hv,hu,Builtin.append_,hL,sizeOf,typeInfo,hi,Builtin.lenOf,Builtin.firstCells]
   |some ad=>simp[execOp,J,resolve,invoke,builtin,hv,hu,Builtin.append_,hL,sizeOf,typeInfo,hi,Builtin.lenOf,Builtin.firstCells,storeCells]
 obtain⟨olds,v',w',r0,r1,r2,Z⟩:=ajp (P:=P) (ty:=o.type) hE h1 M j (by simpa using aC7.2 Y) SPr (by simpa using aG8 I h2);have hblk:=akP r2;obtain⟨m1,g1⟩:=hm.change (ok':=fun b=>ok b∨DC v'=some b) (H':=H) (es':=es) (w':=w') (fun _=>False) Z.os Z.tape Z.output Z.size (fun b I _=>Z.block b I BK) (fun _ h=>h.elim) (fun _ h=>.inl h) (fun b h=>h.imp id fun h=>hblk b h) (.refl _) hm.hlen (fun k e h he hh=>.inl ⟨he,hh,fun _ _ _ h=>h⟩);have g0:Dz ok w ok w':=fun b I=>⟨I,(g1 b I).2⟩
 have hE':=alW r2 (r0.mono g0 (.refl _)) (hrs.mono g0 (.refl _)) M O;refine⟨v',w',_,H,.inl (by simp[execOp,J,resolve,invoke,builtin,r1]),g1,.refl _,m1,.d _ _ ?_⟩;have :=dV hE' (ok':=fun b=>ok b∨DC v'=some b) (fun _ h=>.inl h) (fun _ h=>.inr h)
 rwa [←I9]at this
end
def D.plain:D→Bool
 | .lit _=>true
 | .agg cs=>cs.all fun c=>match c with | .lit _=>true|_=>false
 |_=>false
def alN {ok ok':Nat→Prop} {w w':World} {H H':List Ba} {xs:List D} {vs:List Value} (z:∀x∈xs,x.plain=true) (h:FH ok w H (flat xs) vs):FH ok' w' H' (flat xs) vs:=by
 refine⟨h.1,fun i hi=>⟨(h.2 i hi).1,?_⟩⟩;have s:=(h.2 i hi).2;have m:(flat xs).getD i .junk∈flat xs:=Ky
 generalize(flat xs).getD i .junk=y at s m;unfold flat at m;simp only[Qj,F7]at m;obtain⟨x,I,c,q,rfl⟩:=m;have f:=z x I
 have j:∃u,c=.lit u:=by
  cases x with
  |lit u=>simp[D.cells]at q;exact⟨u,q⟩
  |agg cs=>
   simp only[D.cells]at q;simp only[D.plain,Dk]at f;have :=f c q;cases c with
   |lit u=>exact⟨u,rfl⟩
   |_=>simp at this
  |_=>cases f
 obtain⟨u,rfl⟩:=j;rw[s.lit];exact .d _ _ (.lit u)
def aeV {P:Program} {o:Oper} {es:List BH} {f:FuncId} {ops:Array Operand} {dO eH:List Ac} {e s:Nat} {xs:List D} (hr:Am P f eH [] (.aS 0) [.arr e s xs]) (hp:∀x∈xs,x.plain=true) (ha:Yz es dO eH) (hl:ops.toList.length=dO.length)
 {C:Dv} {ok:Nat→Prop} {H:List Ba} {a:Act} {w:World} (L:CW C ok H es w) (hn:∀n∈Ef ops.toList dO,R ok w H n.2 (a.eval n.1)):
 Calls P f (ops.toList.map a.eval).toArray w fun e' w'=>∃v,e'=.returned v∧w.grownBy w' none∧(∀g,DC v=some g→w.heap.size≤g∧g<w'.heap.size)∧Value.isSlice v=true∧∀M H2,EW M w' H2 ⟨v,s⟩ (.arr e s xs):=by
 let z:Nat→Prop:=fun b=>b<w.heap.size
 have Z:CW ⟨w,z,[],[]⟩ z [] [] w:=
  ⟨.refl _ _,fun _ h=>h,fun _ h=>.inl h,fun _ h=>h,.refl _,rfl,fun k e h O _=>by simp at O,fun k e h b O=>by simp at O,fun k k' e e' h h' b O=>by simp at O⟩
 refine(hr z [] [] w _ Z (by simp[hl,aGz ha]) (fun i hi=>?_)).mono ?_
 ·obtain⟨op,x,ho',U,m⟩:=adv hl ha i hi;have J:=hn _ U
  have e1:(ops.toList.map a.eval).toArray.getD i undef=a.eval op:=by
   obtain⟨h1,h2⟩:=FC.1 ho';have h3:i<ops.size:=by simpa using h1
   have h4:ops[i]=op:=SPr
   simp[Array.getD,h3,h4]
  rw[e1];simp only at J;generalize eH.getD i .junk=y at m;generalize a.eval op=u at J;cases x with
  |d x=>
   obtain rfl:=m;cases J with |d _ _ h=>exact .d _ _ (h.mono (fun b q=>⟨L.jF b q,rfl⟩))
  |aS k=>
   obtain⟨e',s,xs,hk,rfl⟩:=m;obtain⟨h,hh,I⟩:=FV L.ent L.hlen hk;obtain rfl:=O8 J hh;exact .d _ _ (dV I (fun b q=>L.jF b q) (fun b q=>(L.blk k _ h b hk rfl hh q).2.1))
  |_=>exact m.elim
 rintro e' w' ⟨v,ok',H',rfl,j,J⟩;have hg:w.grownBy w' none:=⟨j.fr.os,j.fr.tape,j.fr.output,j.fr.size,fun b q _=>j.fr.block b q BK⟩
 have hl':H'.length=1:=j.hlen
 match H',hl' with
 | [hd],_=>
   obtain rfl:=O8 J (h:=hd) rfl;have I:=j.ent 0 _ hd rfl rfl;have q:=fun b q=>j.blk 0 _ hd b rfl rfl rfl q;obtain⟨q1,q2,zs,q3,q4⟩:=I;obtain⟨v,BZ⟩:=hd;simp only at q1 q q3;subst q1;refine⟨v,rfl,hg,fun g hg'=>?_,?_,fun M H2=>⟨rfl,q2,zs,q3,alN hp q4⟩⟩
   ·obtain⟨_,r2,Y⟩:=q g hg';rcases Y with Y|Y
    ·exact⟨Y,r2⟩
    simp at Y
   rcases q3.2 with⟨rfl,_⟩|⟨g',c',_,rfl,_⟩<;>rfl
def IZ {P:Program} {o:Oper} {es:List BH} {f:FuncId} {ops:Array Operand} {ats:Array TypeId} {dO eH:List Ac} {e s:Nat} {xs:List D} (q:Am P f eH [] (.aS 0) [.arr e s xs]) (u:∀x∈xs,x.plain=true) (z:DX P f=true) (ha:Yz es dO eH) (hl:ops.toList.length=dO.length)
 (I:o.op=.call { callee:=.value (.func f),args:=ops,argTypes:=ats }):Bc P o (Ef ops.toList dO) es (.aS es.length) (es++[.arr e s xs]):=by
 intro C ok H a w Q j J;unfold Oper.wp;rw[iR I,Qq z,YR];have L:ops.map a.eval=(ops.toList.map a.eval).toArray:=tq
 rw[L];refine(aeV (o:=o) q u ha hl j J).mono ?_;rintro e' w' ⟨v,rfl,M,O,m,hE⟩;obtain⟨U,Y⟩:=j.awP (v':=v) (size:=s) (e:=.arr e s xs) M O (fun _=>hE _ _);refine⟨v,ok,_,rfl,Y,Names.push _ _,U,?_⟩;have Z:(H++[(⟨v,s⟩:Ba)])[es.length]? =some ⟨v,s⟩:=iG
 cases v with
 |slice ad n c=>exact .aS _ _ _ _ s Z
 |_=>cases m
def aJ2 {P:Program} {o:Oper} {es:List BH} {f:FuncId} {ops:Array Operand} {ats:Array TypeId} {dO eH:List Ac} {e s:Nat} {xs:List D} (u:Am P f eH [] (.aS 0) [.arr e s xs]) (z:∀x∈xs,x.plain=true) (I:DX P f=true) (ha:Yz es dO eH) (hl:ops.toList.length=dO.length)
 (J:o.op=.call { callee:=.value (.func f),args:=ops,argTypes:=ats }):Bc P o (Ef ops.toList dO) es (.d (.sl xs)) es:=by
 intro C ok H a w Q m L;unfold Oper.wp;rw[iR J,Qq I,YR];have M:ops.map a.eval=(ops.toList.map a.eval).toArray:=tq
 rw[M];refine(aeV (o:=o) u z ha hl m L).mono ?_;rintro e' w' ⟨v,rfl,j,O,U,hE⟩;obtain⟨Y,Z⟩:=m.change (ok':=fun b=>ok b∨DC v=some b) (H':=H) (es':=es) (w':=w') (fun _=>False) j.os j.tape j.output j.size (fun b q _=>j.block b q BK) (fun _ h=>h.elim) (fun _ h=>.inl h) (fun b h=>h.imp id fun h=>O b h) (.refl _) m.hlen (fun k e h he hh=>.inl ⟨he,hh,fun _ _ _ h=>h⟩);exact⟨v,_,H,rfl,Z,.refl _,Y,.d _ _ (dV (hE ok H) (fun _ h=>.inl h) (fun _ h=>.inr h))⟩
def aov {F:Fence} {n:Nat} {P:Program} {Q:Exit→Act→World→Prop} {a:Act} {w:World} {c:Code} (h:c.wpIn F n P (Exit.noGoto Q) a w):(Code.scope c).wpIn F n P Q a w:=by
 intro b k cs u z I;have f:(lone (b.atR a (.code (.scope c)::k)) cs w).fenced P F:=fenced_calm z I rfl;have j:step P (lone (b.atR a (.code (.scope c)::k)) cs w)=.next (lone (b.atR a (.code c::.inScope c::k)) cs w):=step_lone_go abD;obtain⟨e,q,s,m,harr⟩:=h b (.inScope c::k) cs u z I;cases e with
 |normal=>exact⟨.normal,q,s,m,.head f j (StepsIn.trans harr (.one (fenced_calm z I rfl) (step_lone_go abD)))⟩
 |exit id=>
  have M:exitTo id (.inScope c::k)=exitTo id k:=by simp[exitTo]
  exact⟨.exit id,q,s,m,fun k' J=>.head f j (harr.1 k' (by rw[M];exact J)),fun L J=>let⟨O,U,Y⟩:=harr.2 L (by rw[M];exact J);⟨O,U,.head f j Y⟩⟩
 |goto l=>exact m.elim
 |ret=>exact⟨_,q,s,m,.of_steps (.one f j) harr⟩
 |panic ch=>exact⟨_,q,s,m,.of_steps (.one f j) harr⟩
 |outgrown=>exact⟨_,q,s,m,.of_steps (.one f j) harr⟩
def amE (Q:Exit→Ar→Prop):Exit→Ar→Prop
 | .goto _,_=>False
 |e,σ=>Q e σ
def AO.scope {P:Program} {σ:Ar} {Q:Exit→Ar→Prop} {c:Code} (h:AO P c σ (amE Q)):AO P (.scope c) σ Q:=⟨fun ro j C ok H a w m=>
 aov (Rx (h.run ro (j.imp id fun h=>h) C ok H a w m) (by
  rintro e a' w' ⟨ok',H',σ',q,f⟩;cases e with
  |goto l=>exact f.elim
  |_=>exact⟨ok',H',σ',q,f⟩))⟩
def aMA (P:Program) (f:FuncId) (args:List Ac) (u:Value):Prop:=
 ∀(ok:Nat→Prop) (X:List Nat) (H:List Ba) (w:World) (j:Array Value),CW ⟨w,ok,X,H⟩ ok H [] w→j.size=args.length→(∀i,i<args.length→R ok w H (args.getD i .junk) (j.getD i undef))→
  Calls P f j w fun e w'=>∃ok' H',e=.panicked [{ v:=u,recovered:=false }]∧CW ⟨w,ok,X,H⟩ ok' H' [] w'
def Nv {Rr:Type} (P:Program) (f:FuncId) (args:List Ac) (r:Except Value Rr) (j:Rr→Ac):Prop:=(∀x,r=.ok x→Am P f args [] (j x) [])∧∀u,r=.error u→aMA P f args u
def ara {Rr:Type} (P:Program) (fn:Func) (r:Except Value Rr) (f:Rr→Ac) (e:Exit) (σ:Ar):Prop:=
 (∃x,r=.ok x∧aeW P fn (f x) [] e σ)∨∃u,r=.error u∧e=pR u∧σ.base=0
def aKy {P:Program} {fn:Func} {Rr:Ending→World→Prop} {C:Dv} {ch:List PanicEntry} (m:∀b,C.ok0 b→b<C.w0.heap.size) {H:List Ba} {σ:Ar}
 (q:∀ok a w,Holds C ok H σ a w→Rr (.panicked ch) w) {tmps:Array Value}:∀(Ds:List Nat) {ok:Nat→Prop} {a:Act} {w:World},Holds C ok H σ a w→(∀d∈Ds,ok d∧C.w0.heap.size≤d∧w.heap[d]? =some (.deferred (some [])))→Ds.Nodup→
  LeavesInM (Hq none) 0 P fn tmps Rr (Ds.map fun D=>{ target:=.collected D,args:= #[] }) (.panicking ch) w
 | [],ok,a,w,h,_,_=>q ok a w h
 |D::Ds,ok,a,w,h,hd,s=>by
  obtain⟨ok',h',f⟩:=h.take m (fun d j=>hd d (G9 _ j)) (hd D (FB ..)) s;have u:=aKy (P:=P) (fn:=fn) (tmps:=tmps) m q Ds h' f (Jr.1 s).2;exact⟨BK,.inl ⟨D,_,rfl,run_takeDeferred (hd D (FB ..)).2.2,u⟩⟩
def CW.none {C:Dv} {ok:Nat→Prop} {H:List Ba} {es:List BH} {w:World} (j:CW C ok H es w) (m:C.H0=[]):CW C ok [] [] w:=
 ⟨j.fr,j.vY,j.vZ,j.jF,by rw[m];exact .refl _,rfl,fun k e h f=>SH,fun k e h b f=>SH,fun k k' e e' h h' b f=>SH⟩
def Nv.aH {Rr:Type} {P:Program} {f:FuncId} {fn:Func} {c:Code} {args:List Ac} {r:Except Value Rr} {q:Rr→Ac} (Y:P.funcs[f]? =some fn) (Z:fn.body=some c)
 (h:AO P c (.enter args fn.ntmps []) (ara P fn r q)):Nv P f args r q:=by
 refine⟨fun x hx=>Am.aH Y Z (h.mono fun e σ hq=>?_),fun u hu=>?_⟩
 ·rcases hq with⟨x',m,I⟩|⟨u,m,_⟩
  ·rw[hx]at m;cases m;exact I
  rw[hx]at m;cases m
 intro ok X H w j z hs ha;have hH:H=[]:=GY z.hlen;refine(zG (ro:=none) (n:=0)).1 (aFH Y Z trivial (Rx (h.run none (.inl rfl) ⟨w,ok,X,H⟩ ok H _ w ?_) ?_) rfl)
 ·refine⟨z,by simp[Ar.enter,hs],.nil _ _ _,z.hlen,fun t ht=>?_⟩;simp only[Ar.enter];by_cases e:t<args.length
  ·have J:(args++List.replicate (fn.ntmps-args.length) Ac.junk).getD t .junk=args.getD t .junk:=aFV
   have e2:(j++Array.replicate (fn.ntmps-j.size) undef).getD t undef=j.getD t undef:=by
    simp[GU,WG (show t<j.size by omega)]
   rw[J,e2];exact ha t e
  have J:(args++List.replicate (fn.ntmps-args.length) Ac.junk).getD t .junk=.junk:=by
   simp only[List.getD,Ir (RI e),aI7];split<;>rfl
  rw[J];exact .junk _
 rintro e a' w' ⟨ok',H',σ',m,I⟩;rcases I with⟨x,s,_⟩|⟨u',s,rfl,_⟩
 ·rw[hu]at s;cases s
 rw[hu]at s;cases s;obtain⟨Ds,L,M,O⟩:=m.defers;show LeavesInM (Hq none) 0 P fn a'.tmps _ a'.defers (.panicking _) w';rw[L];exact aKy (P:=P) (C:=⟨w,ok,X,H⟩) z.jF (fun U a2 w2 h4=>⟨U,[],rfl,h4.mem.none hH⟩) Ds m O M
section
variable {P : Program} {ops : Array Oper} {o : Oper} {rest l : List Oper} {σ : Ar} {K : Exit → Ar → Prop}
def D5.panic {x:Operand} {t:TypeId} {u:Value} (j:o.op=.panic x) (m:σ.get x=.d (.lit (.iface t u))) (q:JH ops σ o.guard=some true) (h:K (pR (.iface t u)) σ):D5 P ops (o::rest) σ K:=by
 refine⟨fun ro s Q C ok H a w f z=>?_⟩;show wpListIn (Hq ro) 0 P ops Q (o::(rest++s)) a w;unfold wpListIn;rw[Cb (Np f (Kw q))];have I:=(m▸f.get x).lit;unfold Oper.wpIn;rw[ZN _ _ _ (by rw[j];intro c h;cases h)];have J:(execOp a.eval o).run P w=.halt (.panic (.iface t u)) w:=by simp[execOp,j,I,Instr.panic,goPanic]
 rw[J];exact⟨fun _ _=>trivial,z.2 _ _ _ _ _ _ h f⟩
end
section
variable {P : Program} {ops : Array Oper}
def El.avI (N:Nat) {l:List Oper} {σ σ':Ar} {rs:List Ac} {ess:List (List BH)} {bs:List Bool} (h:El P ops l σ rs ess bs σ') (σ0:Ar) (r:Nat→Ac) (ev:Nat→List BH) (bar:Nat→Bool):∀i,(∀k:Nat,k<l.length→l[k]? =ops[i+k]?)→i+l.length=N→σ=EJ ops σ0 r ev i→
 (∀(k:Nat) y,rs[k]? =some y→r (i+k)=y)→(∀(k:Nat) y,ess[k]? =some y→ev (i+k)=y)→(∀(k:Nat) y,bs[k]? =some y→bar (i+k)=y)→
 (∀j (o:Oper),i≤j→j<N→ops[j]? =some o→Py P ops (EJ ops σ0 r ev j) (r j) (ev j) (bar j) o)∧σ'=EJ ops σ0 r ev N:=by
 induction h with
 |nil σ=>
  intro i hl u s I _ _;have :i=N:=Md
  subst this;exact⟨fun j o O z ho=>AL,s⟩
 | @op o rest σ σ' ns x rs ess bs d ho hn hg hd ht k Y=>
   intro i hl u s I J U;subst hd;have L:ops[i]? =some o:=mX
   have M:r i=x:=aAF
   have m:ev i=σ.ents:=aFx
   obtain⟨Z,h2⟩:=Y (i+1) (fun k hk=>jU) Qb (by
    rw[Ar.Uc];simp only[EJ,L,M,m];rw[←s]) (fun k y q=>Rt)
    (fun k y q=>nM) (fun k y q=>qY)
   refine⟨fun j o' O z f=>?_,h2⟩;by_cases e:i=j
   ·subst e;rw[L]at f;obtain rfl:=CO f;exact⟨.inl ⟨ns,by rw[M,m,←s];exact ho,s▸hn,ht,s▸hg⟩,fun _=>X4⟩
   exact Z j o' AL z f
 | @oe o rest σ σ' ns x es' rs ess bs d E ho hE hn hg hd ht k Y=>
   intro i hl u s I J U;subst hd;subst hE;have L:ops[i]? =some o:=mX
   have M:r i=x:=aAF
   have m:ev i=es':=by simpa using J 0 es' BK
   have hbr:bar i=true:=by simpa using U 0 true BK
   obtain⟨Z,h2⟩:=Y (i+1) (fun k hk=>jU) Qb (by
    simp only[EJ,L,M,m];rw[←s]) (fun k y q=>Rt)
    (fun k y q=>nM) (fun k y q=>qY)
   refine⟨fun j o' O z f=>?_,h2⟩;by_cases e:i=j
   ·subst e;rw[L]at f;obtain rfl:=CO f;exact⟨.inl ⟨ns,by rw[M,m,←s];exact ho,s▸hn,ht,s▸hg⟩,fun hf=>by rw[hbr]at hf;cases hf⟩
   exact Z j o' AL z f
 | @any o rest σ σ' x rs ess bs d hs hd k Y=>
   intro i hl u s I J U;subst hd;have L:ops[i]? =some o:=mX
   have M:r i=x:=aAF
   have m:ev i=σ.ents:=aFx
   obtain⟨Z,h2⟩:=Y (i+1) (fun k hk=>jU) Qb (by
    rw[Ar.Uc];simp only[EJ,L,M,m];rw[←s]) (fun k y q=>Rt)
    (fun k y q=>nM) (fun k y q=>qY)
   refine⟨fun j o' O z f=>?_,h2⟩;by_cases e:i=j
   ·subst e;rw[L]at f;obtain rfl:=CO f;refine⟨?_,fun _=>X4⟩;rw[M,m,←s];exact hs.1
   exact Z j o' AL z f
 | @ZE o rest σ σ' x E br rs ess bs d hs hd k Y=>
   intro i hl u s I J U;subst hd;have L:ops[i]? =some o:=mX
   have M:r i=x:=aAF
   have m:ev i=E:=by simpa using J 0 E BK
   have hbr:bar i=br:=by simpa using U 0 br BK
   obtain⟨Z,h2⟩:=Y (i+1) (fun k hk=>jU) Qb (by
    simp only[EJ,L,M,m];rw[←s]) (fun k y q=>Rt)
    (fun k y q=>nM) (fun k y q=>qY)
   refine⟨fun j o' O z f=>?_,h2⟩;by_cases e:i=j
   ·subst e;rw[L]at f;obtain rfl:=CO f;rw[M,m,hbr,←s];exact hs
   exact Z j o' AL z f
 | @skip o rest σ σ' rs ess bs d hg hd k Y=>
   intro i hl u s I J U;subst hd;have L:ops[i]? =some o:=mX
   have M:r i=.d (.lit undef):=by simpa using I 0 (.d (.lit undef)) BK
   have m:ev i=σ.ents:=aFx
   obtain⟨Z,h2⟩:=Y (i+1) (fun k hk=>jU) Qb (by
    rw[Ar.Uc];simp only[EJ,L,M,m];rw[←s]) (fun k y q=>Rt)
    (fun k y q=>nM) (fun k y q=>qY)
   refine⟨fun j o' O z f=>?_,h2⟩;by_cases e:i=j
   ·subst e;rw[L]at f;obtain rfl:=CO f;exact⟨.inr ⟨M,X4,s▸hg⟩,fun _=>X4⟩
   exact Z j o' AL z f
def AO.awR {id:Nat} {σ σ':Ar} {Q:Exit→Ar→Prop} {rs:List Ac} {ess:List (List BH)} {bs:List Bool} (N:Nat) (hNs:N+1=ops.size) (hm:P.follows .mixedOrders=true) (Z:(Tq ops&&Tv ops&&TG ops σ.slots.length&&UJ ops)=true) (hbl:bs.length=N) (J:VT ops (bs++[true])=true)
 (h:El P ops (ops.toList.take N) σ rs ess bs σ') (hL:∀(ro:Option Nat) (C:Dv) (ok:Nat→Prop) (H:List Ba) (a:Act) (w:World),Holds C ok H σ' a w→wpOpIn (Hq ro) 0 P ops (fun e a' w'=>∃ok' H' σ',Holds C ok' H' σ' a' w'∧Q e σ') N (fun a' w'=>∃ok' H' σ',Holds C ok' H' σ' a' w'∧Q .normal σ') a w):AO P (.region id ops true) σ Q:=by
 refine⟨fun ro _ C ok H a w hh=>?_⟩;simp only[CP]at Z;obtain⟨⟨⟨he,hd⟩,hs⟩,hc⟩:=Z;have LK:=aFL he;have hinj:=aGi hd;have Z:=aHt hc
 have ET:∀(i:Nat) (o:Oper) (d:Tmp),ops[i]? =some o→o.dst=some d→d<σ.slots.length:=by
  intro i o d h1 h2;unfold TG at hs;rw[Dk]at hs;simpa using hs d (aDz h1 h2)
 let r:Nat→Ac:=fun i=>rs.getD i .junk
 let ev:Nat→List BH:=fun i=>ess.getD i []
 let bar:Nat→Bool:=fun i=>(bs++[true]).getD i false
 have hbN:bar N=true:=by simp[bar,List.getD,←hbl]
 obtain⟨Fv,hend⟩:=h.avI N σ r ev bar 0 (fun k hk=>by
  simp only[Gx]at hk
  rw[LZ AL];simp) E8 rfl (fun k y hy=>aHa) (fun k y hy=>aEE) (fun k y hy=>by have :=(FC.1 hy).1;simp only[bar,List.getD,Ie,Fr this,hy];rfl)
 let U:Nat→Ar:=EJ ops σ r ev
 have hU:∀i,i<ops.size→(U (i+1)).ents=ev i:=by
  intro i hi;have L:ops[i]? =some ops[i]:=Oo
  show(EJ ops σ r ev (i+1)).ents=_;simp only[EJ,L];rfl
 have hconst:∀n lo,(∀b,lo≤b→b<lo+n→bar b=false)→lo+n≤N→(U (lo+n)).ents=(U lo).ents:=by
  intro n
  induction n with
  |zero=>intro lo _ _;rfl
  |succ n ih=>
   intro lo u hle;have h1:=ih lo (fun b h1 h2=>u b h1 AL) AL;have hi:lo+n<ops.size:=AL
   have L:ops[lo+n]? =some ops[lo+n]:=Oo
   have h2:=(Fv (lo+n) _ AL AL L).2 (u (lo+n) AL AL);rw[←MH,hU _ hi,h2];exact h1
 have Y:∀lo hi,lo≤hi→hi≤N→(∀b,lo≤b→b<hi→bar b=false)→(U hi).ents=(U lo).ents:=by
  intro lo hi h1 h2 h3;obtain⟨n,rfl⟩:=aCJ h1;exact hconst n lo h3 h2
 refine Mem hm ?_
 let I:Array Bool→Act→World→Prop:=fun l a w=>l.size=ops.size∧l.getD N false=false∧∃ok H m,m≤N∧(∀b,bar b=true→b<ops.size→(l.getD b false=true↔b<m))∧CW C ok H (U m).ents w∧a.tmps.size=σ.slots.length∧Marks C ok w a.defers∧
  (∀t,t<σ.slots.length→(∀(j:Nat) (o:Oper),ops[j]? =some o→o.dst=some t→l.getD j false=false)→R ok w H (σ.slots.getD t .junk) (a.tmps.getD t undef))∧
  (∀(i:Nat) (o:Oper) (d:Tmp),ops[i]? =some o→o.dst=some d→l.getD i false=true→R ok w H (r i) (a.tmps.getD d undef))∧
  (∀(j:Nat) (o:Oper),ops[j]? =some o→l.getD j false=true→∀i,Fe o i=true→l.getD i false=true)
 let I2:Array Bool→Act→World→Prop:=fun l a w=>I l a w∨(l.size=ops.size∧(Region.ready .any ops l=[]∧∃ok' H' σ',Holds C ok' H' σ' a w∧Q .normal σ'))
 refine wX I2 (fun l a w h=>h.elim (fun h=>h.1) (fun h=>h.1)) ?_ ?_ ops.size _ _ _ ?_ ?_
 ·rintro l a w (⟨h1,hlN,ok,H,m,IQ,YN,hmem0,hsz,hdf,h5,h6,h7⟩|⟨h1,h2,_⟩) i hi
  rotate_left
  ·rw[h2]at hi;simp at hi
  unfold Region.ready at hi;rw[G7]at hi;obtain⟨hi1,hi2⟩:=hi;have hi':i<ops.size:=xg
  have L:ops[i]? =some ops[i]:=by simp[hi']
  simp only[CP]at hi2;have LM:=hi2.2;rw[L]at LM;simp only[HY,Lc]at LM;have abA:=fun e he=>(OX.1 LM) e he
  have M:∀j,Fe ops[i] j=true→l.getD j false=true∧j<i:=by
   intro j s;unfold Fe at s;rw[Gm]at s;obtain⟨e,hee,s⟩:=s;simp only[CP,Fl]at s;have :=abA e aEh;simp only[s.2,ES,KU]at this;rw[s.1]at this;exact⟨this,s.1▸LK i _ L e hee s.2⟩
  have O:l.getD i false=false:=by
   have h8:=hi2.1;have hil:i<l.size:=AL
   simp[Array.getD,hil]at h8 ⊢;exact h8
  have z:∀(j:Nat) (o:Oper),ops[j]? =some o→l.getD j false=true→∀m,Fe o m=true→l.getD m false=true:=fun j o s hl m hm=>h7 j o s hl m hm
  have hmem:CW C ok H (U i).ents w:=by
   have hE:(U i).ents=(U m).ents:=by
    by_cases him:i≤m
    ·refine(Y i m him IQ (fun b h2 h3=>?_)).symm;rw[←Jb];intro u;have hbl:=(YN b u AL).2 h3;by_cases e:b=i
     ·subst e;rw[O]at hbl;cases hbl
     have hob:ops[b]? =some (ops[b]' AL):=by simp[show b<ops.size by omega]
     have :=U2 J (show b<ops.size by omega) u (D:=fun j=>l.getD j false=true) z (fun o L m hm=>z b o L hbl m hm) i AL;rw[O]at this;cases this
    refine Y m i AL AL (fun b h2 h3=>?_);rw[←Jb];intro u;have :=Fn1 J (show b<ops.size by omega) u (D:=fun j=>l.getD j false=true) z i h3 _ L (fun m hm=>(M m hm).1);exact absurd ((YN b u AL).1 this) AL
   rw[hE];exact hmem0
  by_cases hiN:i=N
  ·subst hiN;have atq:∀j,j<i→l.getD j false=true:=fun j s=>U2 J hi' hbN (D:=fun j=>l.getD j false=true) z (fun o ho' m hm=>aJp) j s
   have hH:Holds C ok H σ' a w:=by
    subst hend;refine⟨hmem,by rw[SI];exact hsz,hdf,aDs,fun t ht=>?_⟩;rw[SI]at ht;by_cases hw:∃(j:Nat) (o:Oper),ops[j]? =some o∧o.dst=some t
    ·obtain⟨j,o,s,q⟩:=hw;have hjn:j<ops.size:=(FN.1 s).1;by_cases hji:j<i
     ·rw[TM hinj s q ht i hji];exact h6 j o t s q (atq j hji)
     have hje:j=i:=AL
     subst hje;rw[Rj j (fun j' o' hj' ho' hd'=>yu)];exact h5 t ht (fun j' o' ho' hd'=>by have :=hinj j j' o o' t s ho' q hd';subst this;exact hlN)
    have hw':∀(j:Nat) (o:Oper),ops[j]? =some o→o.dst≠some t:=fun j o h1 h2=>hw ⟨j,o,h1,h2⟩;rw[Rj i (fun j o _ s=>hw' j o s)];exact h5 t ht (fun j o s q=>absurd q (hw' j o s))
   refine wpOpIn_mono (fun a' w' hx=>.inr ⟨by simp[h1],?_,hx⟩) (hL ro C ok H a w hH);unfold Region.ready;rw[aIC];intro j s;have hjn:j<ops.size:=VJ
   have hdn:(l.setIfInBounds i true).getD j true=true:=by
    by_cases hji:j=i
    ·subst hji;simp[Array.getD,h1,hi']
    have :=atq j AL;simp only[GU,JB (Ne.symm hji)];have hjl:j<l.size:=AL
    simp[Array.getD,hjl]at this;simp[hjl,this]
   rw[hdn];simp
  have hiN:i<N:=AL
  have hread:∀t,t∈tmpsOf ops[i]→R ok w H ((EJ ops σ r ev i).slots.getD t .junk) (a.tmps.getD t undef):=by
   intro t ht;by_cases hw:∃(j:Nat) (o:Oper),ops[j]? =some o∧o.dst=some t
   ·obtain⟨j,o,s,q⟩:=hw;rcases(Z i _ L).1 j o t s q ht with hce|hce
    ·obtain⟨hdj,hji⟩:=M j hce;rw[TM hinj s q (ET j o t s q) i hji];exact h6 j o t s q hdj
    have hij:i<j:=by
     unfold Fe at hce;rw[Gm]at hce;obtain⟨e,hee,hce⟩:=hce;simp only[CP,Fl]at hce;exact hce.1▸LK j _ s e hee hce.2
    rw[Rj i (fun j' o' hj' ho' hd'=>yu)];refine h5 t (ET j o t s q) (fun j' o' ho' hd'=>?_);have hjj:=hinj j j' o o' t s ho' q hd';subst hjj;rw[←Jb];intro hd;rw[h7 j o s hd i hce]at O;cases O
   have hw':∀(j:Nat) (o:Oper),ops[j]? =some o→o.dst≠some t:=fun j o h1 h2=>hw ⟨j,o,h1,h2⟩;rw[Rj i (fun j o _ s=>hw' j o s)];by_cases htn:t<σ.slots.length
   ·exact h5 t htn (fun j o s q=>absurd q (hw' j o s))
   rw[dI htn];exact .junk _
  have Qs:∀j d v,Fe ops[i] j=true→(ops[j]?).bind (·.dst)=some d→(EJ ops σ r ev i).slots.getD d .junk=.d (.lit v)→yielded ops a.tmps j=(match v with | .bool b=>some b|_=>none):=by
   intro j d v s q u;cases hoj:ops[j]? with
   |none=>rw[hoj]at q;simp at q
   |some oj=>
    rw[hoj]at q;simp only[Af]at q;obtain⟨hdj,hji⟩:=M j s;have hdn:=ET j oj d hoj q;rw[TM hinj hoj q hdn i hji]at u;have hv:=(u▸h6 j oj d hoj q hdj).bool
    have hs:a.tmps[d]? =some v:=by
     have :d<a.tmps.size:=by rw[hsz];exact hdn
     simp[Array.getD,this]at hv;simp[this,hv]
    unfold yielded;rw[hoj];simp only[Af,q,hs];cases v<;>rfl
  have hput:∀(x:Ac) (v:Value) (ok':Nat→Prop) (H':List Ba) (w':World),x=r i→Dz ok w ok' w'→Names H H'→CW C ok' H' (ev i) w'→R ok' w' H' x v→I2 (l.setIfInBounds i true) (a.put ops[i].dst v) w':=by
   intro x v ok' H' w' hx hgr hnm hmem' hR;subst hx
   have hother:∀(d t:Nat),ops[i].dst=some d→d≠t→(a.put ops[i].dst v).tmps.getD t undef=a.tmps.getD t undef:=by
    intro d t hd hne;rw[hd];exact aGY hne
   obtain⟨m',afR,YD,afS⟩:∃m',m'≤N∧(∀b,bar b=true→b<ops.size→((l.setIfInBounds i true).getD b false=true↔b<m'))∧CW C ok' H' (U m').ents w':=by
    have hget:∀b,b≠i→(l.setIfInBounds i true).getD b false=l.getD b false:=fun b u=>by
     simp only[GU,JB (Ne.symm u)]
    have afT:(l.setIfInBounds i true).getD i false=true:=aGF
    cases hbi:bar i with
    |false=>
     refine⟨m,IQ,fun b u hbs=>?_,?_⟩
     ·have hne:b≠i:=fun e=>by subst e;rw[hbi]at u;cases u
      rw[hget b hne];exact YN b u hbs
     have h2:=(Fv i _ AL hiN L).2 hbi;rw[h2]at hmem'
     have hE:(U i).ents=(U m).ents:=by
      by_cases him:i≤m
      ·refine(Y i m him IQ (fun b h2 h3=>?_)).symm;rw[←Jb];intro u;have hbl:=(YN b u AL).2 h3;by_cases e:b=i
       ·subst e;rw[O]at hbl;cases hbl
       have :=U2 J (show b<ops.size by omega) u (D:=fun j=>l.getD j false=true) z (fun o L m hm=>z b o L hbl m hm) i AL;rw[O]at this;cases this
      refine Y m i AL AL (fun b h2 h3=>?_);rw[←Jb];intro u;have :=Fn1 J (show b<ops.size by omega) u (D:=fun j=>l.getD j false=true) z i h3 _ L (fun m hm=>(M m hm).1);exact absurd ((YN b u AL).1 this) AL
     rw[←hE];exact hmem'
    |true=>
     refine⟨i+1,AL,fun b u hbs=>?_,by rw[hU i hi'];exact hmem'⟩;by_cases e:b=i
     ·subst e;rw[afT];simp
     rw[hget b e];constructor
     ·intro hbl;apply UN;intro hn;have :=U2 J hbs u (D:=fun j=>l.getD j false=true) z (fun o L m hm=>z b o L hbl m hm) i AL;rw[O]at this;cases this
     intro hlt;exact U2 J hi' hbi (D:=fun j=>l.getD j false=true) z (fun o ho' m hm=>aJp) b AL
   refine .inl ⟨by simp[h1],by simpa only[GU,JB (show i≠N by omega)]using hlN,ok',H',m',afR,YD,afS,aDU,aID,?_,?_,?_⟩
   ·intro t ht hno
    have hne:ops[i].dst≠some t:=by
     intro e;have :=hno i _ L e;simp[Array.getD,h1,hi']at this
    have hold:(a.put ops[i].dst v).tmps.getD t undef=a.tmps.getD t undef:=by
     cases hdi:ops[i].dst with
     |none=>rfl
     |some d=>exact hdi▸hother d t hdi (fun e=>hne (by rw[hdi,e]))
    rw[hold];refine(h5 t ht (fun j o s q=>?_)).mono hgr hnm;have hij:i≠j:=fun e=>by subst e;rw[L]at s;obtain rfl:=CO s;exact hne q
    have :=hno j o s q;simpa only[GU,JB hij]using this
   ·intro k o d hk hkd hl;by_cases hik:i=k
    ·subst hik;rw[L]at hk;obtain rfl:=CO hk;rw[hkd,aIP (by rw[hsz];exact ET i _ d L hkd)];exact hR
    have hl':l.getD k false=true:=by
     simp only[GU,JB hik]at hl ⊢;exact hl
    have :=(h6 k o d hk hkd hl').mono hgr hnm;cases hdst:ops[i].dst with
    |none=>exact this
    |some d'=>
     have hne:d'≠d:=fun e=>hik (hinj i k _ _ d' L hk hdst (e▸hkd));rw[←hdst,hother d' d hdst hne];exact this
   intro j o s hl k hk;have hil:i<l.size:=AL
   by_cases hik:i=k
   ·subst hik;simp[Array.getD,hil]
   have hkk:l.getD k false=true:=by
    by_cases hij:i=j
    ·subst hij;rw[L]at s;obtain rfl:=CO s;exact(M k hk).1
    have hl':l.getD j false=true:=by
     simp only[GU,JB hij]at hl ⊢;exact hl
    exact h7 j o s hl' k hk
   simp only[GU,JB hik]at hkk ⊢;exact hkk
  unfold wpOpIn;rw[L];show if Region.wanted ops[i] (yielded ops a.tmps)=true then _ else _
  rcases(Fv i ops[i] AL hiN L).1 with⟨ns,hop,ZF,hnt,hg⟩|⟨hx,hev,hg⟩
  ·have hwant:Region.wanted ops[i] (yielded ops a.tmps)=true:=by
    unfold Region.wanted;rcases hg with hg|⟨j,want,d,b,hg,s,u,rfl⟩
    ·rw[hg]
    rw[hg];show(yielded ops a.tmps j==some b)=true;rw[Qs j d _ ((Z i _ L).2 j b hg) s u];simp
   rw[Cb hwant];refine P5 ?_ (hop.YC ro C ok H a w _ hmem (fun n hn=>?_))
   ·rintro a' w' ⟨v,ok',H',rfl,hgr,hnn,hm',hx⟩;exact hput _ v ok' H' w' rfl hgr hnn hm' hx
   have hnv:=NY ZF n hn;obtain⟨x,y⟩:=n;simp only at hnv ⊢;subst hnv;cases x with
   |tmp t=>
    refine hread t ?_;rw[Dk]at hnt
    have :t∈LP ns:=by
     unfold LP;rw[Qi];exact⟨_,hn,rfl⟩
    simpa using hnt t this
   |const v=>exact .d _ _ (.lit v)
   |global g=>exact .d _ _ (.lit _)
   |func f=>exact .d _ _ (.fn (.func f) [] [] #[] #[] rfl rfl (fun i hi=>MN) (fun i hi=>MN))
  have hwant:Region.wanted ops[i] (yielded ops a.tmps)=false:=by
   unfold Region.wanted;obtain⟨j,want,d,v,hg,s,u,hv⟩:=hg;rw[hg];show(yielded ops a.tmps j==some want)=false;rw[Qs j d _ ((Z i _ L).2 j want hg) s u];rcases hv with rfl|rfl
   ·simp
   rfl
  rw[D9 (by rw[hwant];simp)];exact⟨fun _ _=>trivial,hput _ _ ok H w hx.symm (.refl _ _) (.refl _) aCK (.d _ _ (.lit _))⟩
 ·rintro l a w (⟨h1,hlN,ok,H,m,IQ,YN,hmem,hsz,hdf,h5,h6,h7⟩|⟨h1,_,h2⟩) hr
  rotate_left
  ·exact h2
  have hall:∀n i,i<n→i<ops.size→l.getD i false=true:=by
   intro n
   induction n with
   |zero=>intro i hi;omega
   |succ n ih=>
    intro i hi hi2;by_cases hn:i<n
    ·exact ih i hn hi2
    have hin:i=n:=AL
    subst hin;rw[←aCr];intro hf;have L:ops[i]? =some ops[i]:=by simp[hi2]
    have hmem:i∈Region.ready .any ops l:=by
     unfold Region.ready;rw[G7];refine⟨by simpa using hi2,?_⟩;have hil:i<l.size:=AL
     have hf':l.getD i true=false:=um
     rw[hf',L];simp only[Jm,G8,HY,Lc];rw[OX];intro e he;cases hbe:Region.binds .any e with
     |false=>simp
     |true=>
      have hlt:=LK i _ L e oC hbe;rw[ih e.on AL AL];simp
    rw[hr]at hmem;simp at hmem
  have :=hall (N+1) N AL AL;rw[hlN]at this;cases this
 ·unfold toCome;simp
 refine .inl ⟨BK,yH,ok,H,0,EF _,fun b u _=>yH,?_,hh.size,hh.defers.mono (fun b u=>⟨u,rfl⟩),fun t ht _=>?_,fun i o d _ _ hl=>?_,fun j o _ hl=>?_⟩
 ·exact⟨⟨hh.mem.fr.os,hh.mem.fr.tape,hh.mem.fr.output,hh.mem.fr.size,hh.mem.fr.block⟩,hh.mem.vY,hh.mem.vZ,hh.mem.jF,hh.mem.names,hh.mem.hlen,fun k e h h1 h2=>(hh.mem.ent k e h h1 h2).drew,hh.mem.blk,hh.mem.Cm⟩
 ·exact R.mono (w:=w) (ok:=ok) (w':={ w with drawn:=w.drawn+1 }) (fun b u=>⟨u,rfl⟩) (.refl _) (hh.slot t ht)
 ·simp[Array.getD]at hl
 simp[Array.getD]at hl
def AO.atr {id:Nat} {σ σ':Ar} {Q:Exit→Ar→Prop} {rs:List Ac} {ess:List (List BH)} {bs:List Bool} (N:Nat) (h:El P ops (ops.toList.take N) σ rs ess bs σ') (hl:D5 P ops (ops.toList.drop N) σ' Q) (q:N+1=ops.size:=by kernel_rfl) (J:P.follows .mixedOrders=true:=by kernel_rfl) (f:(Tq ops&&Tv ops&&TG ops σ.slots.length&&UJ ops)=true:=by kernel_rfl) (s:bs.length=N:=by kernel_rfl) (j:VT ops (bs++[true])=true:=by kernel_rfl):AO P (.region id ops true) σ Q:=by
 refine AO.awR N q J f s j h fun ro C ok H a w L=>?_;have z:N<ops.size:=AL
 have hd:ops.toList.drop N=[ops[N]]:=by
  rw[NI Qw];simp[←q]
 rw[hd]at hl;have I:=hl.run ro [] (fun e a' w'=>∃ok' H' σ',Holds C ok' H' σ' a' w'∧Q e σ') C ok H a w L ⟨fun σ' ok' H' a' w' u m=>⟨ok',H',σ',m,u⟩,fun v σ' ok' H' a' w' u m=>⟨ok',H',σ',m,u⟩⟩;unfold wpOpIn;have M:ops[N]? =some ops[N]:=by simp[z]
 rw[M];simp only[Y3,J4,wpListIn]at I;exact I
end
section
variable {P : Program} {o : Oper} {es : List BH}
def aBU {t:TypeId} (e s:Nat) (z:(P.info? t).bind (·.zero)=some (.slice none 0 0)) (I:o.op=.alloc t):Bc P o [] es (.ptr (es.length+1) 0) (es++[.arr e s [],.box [.aS es.length]]):=
 .eff fun C ok H a w j Y=>by
  obtain⟨u,Z⟩:=aEO j e s;have f:(H++[(⟨.slice none 0 0,s⟩:Ba)]).length=(es++[BH.arr e s []]).length:=u.hlen;have J:(H++[(⟨.slice none 0 0,s⟩:Ba)])[es.length]? =some ⟨.slice none 0 0,s⟩:=iG
  have L:EW ok (w.alloc (.cells #[.slice none 0 0] t)) ((H++[⟨.slice none 0 0,s⟩])++[⟨.pointer (some ⟨w.heap.size,0,none⟩),0⟩]) ⟨.pointer (some ⟨w.heap.size,0,none⟩),0⟩ (.box [.aS es.length]):=by
   refine⟨w.heap.size, #[.slice none 0 0],t,rfl,Vo w _,rfl,fun i hi=>?_⟩
   match i,hi with
   |0,_=>exact⟨rfl,.aS _ none 0 0 s (by rw[Fr (by simp[j.hlen])];exact J)⟩
  obtain⟨M,O⟩:=u.push (.cells #[.slice none 0 0] t) ⟨.pointer (some ⟨w.heap.size,0,none⟩),0⟩ _ (aBH w) L;have m:CW C ok ((H++[⟨.slice none 0 0,s⟩])++[⟨.pointer (some ⟨w.heap.size,0,none⟩),0⟩]) (es++[.arr e s [],.box [.aS es.length]]) (w.alloc (.cells #[.slice none 0 0] t)):=by simpa[Gu]using M
  refine⟨.pointer (some ⟨w.heap.size,0,none⟩),_,ok,_,.inl ?_,O,(Names.push _ _).trans (Names.push _ _),m,.ptr _ _ w.heap.size 0 ?_⟩
  ·obtain⟨i,hi,q⟩:=eu.1 z;have U:Value.cells (.slice none 0 0)= #[.slice none 0 0]:=rfl;simp[execOp,I,Instr.alloc,zeroValue,typeInfo,hi,q,newVar,newRow,U]
  rw[Ir (by rw[f];simp),f];simp
def aBf {α:Type} {x y:Operand} {t e:TypeId} {k n:Nat} {kd:IntKind} {i:Int} (enc:α→D) {l:List α} {a:α} (h:BJ l i=some a) (hl:l.length=n) (I:P.underlying t=some (.array n e)) (J:Dc P e false 1) (L:es[k]? =some (.box (Ag (KE enc l)))) (M:o.op=.indexAddr t x y):
 Bc P o [(x,.ptr k 0),(y,.d (.lit (.int kd i)))] es (.ptr k i.toNat) es:=
 .pure fun ok H O w f m u=>by
  obtain⟨U,Y⟩:=IV h;obtain⟨hd,hh,_⟩:=FV f m L;have q:=(EN u).1;have z:=(EN u).2.lit;simp only at q z;have Z:=(FC.1 Y).1;have hu:(underlying t).run P w=.ok (.array n e) w:=by simp[underlying,I]
  generalize hv:O.eval x=v at q;cases q with
  |ptr _ _ b s hH=>
   have hb:0≤i∧i<n:=⟨U,AL⟩
   refine⟨.pointer (some ⟨b,i.toNat,none⟩),?_,.ptr k _ b s hH⟩;have j:(⟨b,0,none⟩:Addr).add i.toNat=⟨b,i.toNat,none⟩:=by rw[addr_add,Ie]
   simp[execOp,M,hv,z,Instr.indexAt,asIntOf,hu,Instr.sureAddr,hb,J.size w,j]
def ahY {α:Type} {i:Int} {enc:α→D} {l:List α} {a:α} (h:BJ l i=some a):(Ag (KE enc l))[i.toNat]? =some (.d (enc a)):=by
 have f:=(IV h).2;simp[Ag,KE,D.cells,f]
def aCB {α:Type} {x:Operand} {t:TypeId} {k:Nat} {i:Int} (enc:α→D) {l:List α} {a:α} (h:BJ l i=some a) (f:es[k]? =some (.box (Ag (KE enc l)))) (j:Dc P t false 1) (m:o.op=.load t x):Bc P o [(x,.ptr k i.toNat)] es (.d (enc a)) es:=aIx f (ahY h) j m
def aKn {t:TypeId} {x:Operand} {y:D} (f:match P.underlying t with |some (.interface _)=>false|some _=>true|none=>false) (m:o.op=.makeInterface t x):Bc P o [(x,.d y)] es (.d (.LG t y)) es:=
 .pure fun ok H a w _ _ q=>by
  have s:DT ok w y (a.eval x):=by have :=q (x,.d y) BK;cases this with |d _ _ h=>exact h
  refine⟨.iface t (a.eval x),?_,.d _ _ (.LG t y _ s)⟩;cases j:P.underlying t with
  |none=>rw[j]at f;cases f
  |some d=>
   rw[j]at f;have u:(underlying t).run P w=.ok d w:=uQ
   cases d<;>first|(cases f;done)|simp[execOp,m,Instr.makeInterface,u]
def aam {t:TypeId} {x:Operand} (us:List Value) (f:match P.underlying t with |some (.interface _)=>false|some _=>true|none=>false) (q:o.op=.makeInterface t x):Bc P o [(x,.d (.agg (us.map .lit)))] es (.d (.lit (.iface t (.agg us.toArray)))) es:=
 .pure fun ok H a w _ _ s=>by
  have m:=(s (x,.d (.agg (us.map .lit))) BK).abG;simp only at m;refine⟨.iface t (.agg us.toArray),?_,.d _ _ (.lit _)⟩;cases j:P.underlying t with
  |none=>rw[j]at f;cases f
  |some d=>
   rw[j]at f;have u:(underlying t).run P w=.ok d w:=uQ
   cases d<;>first|(cases f;done)|simp[execOp,q,Instr.makeInterface,u,m]
def qZ (P:Program) (t:TypeId) (j:String) (f:FuncId):Bool:=
 match P.info? t with
 |some i=>(match i.methods.find? (·.name==j)with
  |some m=>m.path.toList.isEmpty&&(match m.func with |some (g,p)=>decide (g=f)&& !p|none=>false)
  |none=>false)&&(match P.underlying t with |some (.pointer _)=>false|some _=>true|none=>false)
 |none=>false
def apZ {t:TypeId} {j:String} {f:FuncId} (h:qZ P t j f=true) (n:Nat) (v:Value) (w:World):(method (n+1) t v j).run P w=.ok (f,v) w:=by
 unfold qZ at h;split at h
 ·rename_i i hi;rw[CP]at h;obtain⟨q,s⟩:=h;split at q
  ·rename_i m I;rw[CP]at q;obtain⟨J,u⟩:=q;split at u
   ·rename_i g p L;simp only[CP,Fl,Qp]at u;obtain⟨rfl,rfl⟩:=u;have M:m.path.toList=[]:=List.isEmpty_iff.1 J;cases z:P.underlying t with
    |none=>rw[z]at s;cases s
    |some d=>
     rw[z]at s;have O:∀w,(underlying t).run P w=.ok d w:=fun w=>by simp[underlying,z]
     cases d<;>first|(cases s;done)|simp[method,typeInfo,hi,I,M,follow,L,receiverAt,O,Place.get]
   cases u
  cases q
 cases h
def aLe {f:FuncId} {j:Operand} {s:String} {ops:Array Operand} {ats:Array TypeId} {t:TypeId} (x:D) (m:List D) {q:Ac} (hr:Am P f ((x::m).map .d) [] q []) (hf:DX P f=true) (z:qZ P t s f=true) (hl:ops.toList.length=m.length) (L:q.up [] es.length=q)
 (ho:o.op=.call { callee:=.invoke j s,args:=ops,argTypes:=ats }):Bc P o ((j,.d (.LG t x))::Ef ops.toList (m.map .d)) es q es:=by
 intro C ok H a w Q hm hn;have U:=hn (j,.d (.LG t x)) BK;simp only at U;have I:=kZ (xs:=ops.toList) (vs:=m.map .d) KX (fun n Y=>hn n (G9 _ Y));generalize hv:a.eval j=v at U;cases U with
 |d _ _ h=>
  cases h with
  |LG _ _ u h1=>
   unfold Oper.wp
   have he:(execOp a.eval o).run P w=.ok (.enter f (#[u]++ops.map a.eval)) w:=by
    have h2:=Qq hf (#[u]++ops.map a.eval) w;have J:=apZ z (P.types.size+99) u w;have Z:(#[Value.iface t u]++ops.map a.eval)[0]? =some (.iface t u):=by rw[WG BK];rfl
    have h5:(#[Value.iface t u]++ops.map a.eval).extract 1 (#[Value.iface t u]++ops.map a.eval).size=ops.map a.eval:=by
     apply aH0;rw[Array.toList_extract];simp only[Array.size_append,Array.size_map,List.extract_eq_take_drop,Array.toList_append,Zk,PE];simp;exact Ns BK
    simp only[execOp,ho,resolve,hv,Ei,FT,Ep,invoke,Z,h5,callMethod];have h6:(program).run P w=.ok P w:=rfl;simp only[h6,Ep];have h7:P.types.size+Made.depth=P.types.size+99+1:=rfl;rw[h7,J];exact h2
   rw[he,YR];have M:(ops.map a.eval).size=m.length:=KX
   refine(aML hm hr _ (by simp at M;simp[M];omega) (fun i hi=>?_) L).mono ?_
   ·cases i with
    |zero=>
     have e0:(#[u]++ops.map a.eval).getD 0 undef=u:=by simp[GU,WG]
     rw[e0];exact h1
    |succ i=>
     have O:i<m.length:=FX
     have J:=I i (by simpa using O);have e1:(m.map Ac.d).getD i .junk=.d (m.getD i DR):=by simp[List.getD,O]
     have hi2:i<ops.size:=adI
     have e2:(#[u]++ops.map a.eval).getD (i+1) undef=(ops.toList.map a.eval).getD i undef:=by
      simp only[GU,List.getD];rw[aGr BK];simp[hi2]
     rw[e2];rw[e1]at J;have e3:(x::m).getD (i+1) DR=m.getD i DR:=BK
     rw[e3];cases J with |d _ _ h=>exact h
   rintro e w' ⟨v,ok',H',rfl,J,Z,h5,h6⟩;exact⟨v,ok',H',rfl,J,Z,h5,h6⟩
end
section
variable {P : Program} {ops : Array Oper} {o : Oper} {rest l : List Oper} {σ : Ar} {K : Exit → Ar → Prop}
def D5.AB {f:FuncId} {dO:List Ac} {u:Value} (Y:aMA P f dO u) (Z:DX P f=true) (h:K (pR u) σ) (z:TI σ o=some (f,dO):=by kernel_rfl) (hd:dO.all Ac.yF=true:=by kernel_rfl) (hg:JH ops σ o.guard=some true:=by kernel_rfl):D5 P ops (o::rest) σ K:=by
 refine⟨fun ro l2 Q C ok H a w j hk=>?_⟩;show wpListIn (Hq ro) 0 P ops Q (o::(rest++l2)) a w;unfold wpListIn;rw[Cb (Np j (Kw hg))];unfold TI at z;split at z
 ·rename_i c L;split at z
  ·rename_i f' s;cases z;obtain⟨callee,args,ats⟩:=c;simp only at s;subst s;have q:(execOp a.eval o).run P w=.ok (.enter f (args.map a.eval)) w:=by rw[iR L,Qq Z]
   unfold Oper.wpIn;rw[ZN _ _ _ (by rw[L];intro c h;cases h),q]
   have J:CW ⟨w,ok,[],[]⟩ ok [] [] w:=
    ⟨.refl _ _,fun _ h=>h,fun _ h=>.inl h,j.mem.jF,.refl _,rfl,fun k e h q=>Vp,fun k e h b q=>Vp,fun k k' e e' h h' b q=>Vp⟩
   have key:Calls P f (args.map a.eval) w fun e w'=>e=.panicked [{ v:=u,recovered:=false }]∧∃ok',Holds C ok' H σ a w':=by
    refine(Y ok [] [] w _ J BK (fun i hi=>?_)).mono ?_
    ·have I:i<args.size:=FX
     have e1:(args.toList.map σ.get).getD i .junk=σ.get args[i]:=by simp[List.getD,I]
     have e2:(args.map a.eval).getD i undef=a.eval args[i]:=by simp[Array.getD,I]
     have M:Ac.yF (σ.get args[i])=true:=by
      rw[Dk]at hd;exact hd _ (F7.2 ⟨args[i],BK,rfl⟩)
     have O:=j.get args[i];rw[e1,e2];generalize σ.get args[i]=y at M O;cases y with
     |d y=>cases O with |d _ _ h=>exact .d _ _ h
     |_=>cases M
    rintro e w' ⟨ok',H',rfl,m⟩;obtain⟨h1,U⟩:=j.mem.change (ok':=ok) (H':=H) (es':=σ.ents) (w':=w') (fun _=>False) m.fr.os m.fr.tape m.fr.output m.fr.size (fun b hb _=>m.fr.block b hb BK) (fun _ h=>h.elim) (fun _ h=>h) (fun _ h=>.inl h) (.refl _) j.mem.hlen (fun k e h q j=>.inl ⟨q,j,fun _ _ _ h=>h⟩);exact⟨rfl,ok,h1,j.size,j.defers.mono U,j.base,fun t ht=>(j.slot t ht).mono U (.refl _)⟩
   refine⟨fun _ _=>trivial,fun h=>Gt,zG.2 (key.mono ?_)⟩;rintro e w' ⟨rfl,ok',h5⟩;exact hk.2 _ _ _ _ _ _ h h5
  cases z
 cases z
end
def JX {α β:Type} (r:Except Value α) (f:α→Option (Except Value β)):Option (Except Value β):=
 match r with
 | .ok a=>f a
 | .error u=>some (.error u)
def apS (p:Addr) (w:World):
 CallsD Tryz.prog 120 #[.pointer (some p)] .returning w fun e f w'=>e=.returned (.tuple #[])∧f=.returning∧w'=w:=by
 refine vg Tryz.func120 rfl fun j cs m=>?_;apply Nu;apply Nb;simp[wpOpsS,go_sem,recoverD,m,Tryz.ntmps120,Exit.thenS];apply Nu;apply Nb;simp[wpOpsS,go_sem,Exit.thenS];refine ZP (t:=false) Zq ?_;simp only[SE,Jl];refine wpS_of_wp (wp_skip ?_);cases j
 simp_all [bodyPostS,results,Tryz.results120]
def ajC (b:Nat) (x:Value) (n:Int) (w:World) (z:w.heap[b]? =some (.cells #[x] 68 (0,0))):
 CallsD Tryz.prog 120 #[.pointer (some ⟨b,0,none⟩)] (.panicking [{ v:=.iface 150 (.agg #[.int .i64 n]),recovered:=false }]) w fun e I w'=>
  e=.returned (.tuple #[])∧I=.panicking [{ v:=.iface 150 (.agg #[.int .i64 n]),recovered:=true }]∧w.grownBy w' (some b)∧w'.heap[b]? =some (.cells #[.int .i64 n] 68 (0,0)):=by
 have j:∀(J:TypeId) (w:World),(Instr.typeAssert (.iface 150 (.agg #[.int .i64 n])) J 150 true).run Tryz.prog w=.ok (.tuple #[.agg #[.int .i64 n],.bool true]) w:=fun _ _=>A8
 have L:∀w:World,(Instr.alloc 150 true (.tuple #[])).run Tryz.prog w=.ok (.pointer (some ⟨w.heap.size,0,none⟩)) (w.alloc (.cells #[.int .i64 0] 150)):=fun w=>by
  simp[Instr.alloc,go_sem]
 have hst:∀w:World,(Instr.storeAt 150 (.pointer (some ⟨w.heap.size,0,none⟩)) (.agg #[.int .i64 n])).run Tryz.prog (w.alloc (.cells #[.int .i64 0] 150))=.ok () (w.alloc (.cells #[.int .i64 n] 150)):=fun w=>by
  simp[Instr.storeAt,go_sem]
 refine vg Tryz.func120 rfl fun U cs M=>?_;apply Nu;apply Nb;simp[wpOpsS,go_sem,recoverD,M,Tryz.ntmps120,Exit.thenS];apply Nu;apply Nb;simp[wpOpsS,go_sem,Exit.thenS];refine ZP (t:=true) Zq ?_;simp only[KD];apply Nu;apply Nb;simp[wpOpsS,execOp,j,L,hst,go_sem,Exit.thenS];apply Nu;apply Nu;apply Nb;simp[wpOpsS,go_sem,Exit.thenS];refine ZP (t:=false) Zq ?_;simp only[SE,Jl];refine wpS_of_wp (wp_skip ?_);simp only[Exit.thenS];have m:b<w.heap.size:=(FN.1 z).1;have f:(w.alloc (.cells #[.int .i64 n] 150)).heap[b]? =some (.cells #[x] 68 (0,0)):=(Io _ _ _ m).trans z;have O:(w.alloc (.cells #[.int .i64 n] 150)).cell? ⟨b,0,none⟩=some x:=wR
 have q:(w.alloc (.cells #[.int .i64 n] 150)).frozen? ⟨b,0,none⟩=false:=by simp[World.frozen?,f]
 apply Nb;simp[wpOpsS,go_sem,Exit.thenS,O,q,bodyPostS,results,Tryz.results120]
 have key:(w.alloc (.cells #[.int .i64 n] 150)).setCell ⟨b,0,none⟩ (.int .i64 n)=(w.alloc (.cells #[.int .i64 n] 150)).putObj b (.cells #[.int .i64 n] 68 (0,0)):=by
  simp only[World.setCell,World.putObj];congr 1;apply kN;intro i;rw[NH,aE5];by_cases e:b=i
  ·subst e;rw[Cb rfl,Cb rfl,f,Cb (FN.1 f).1];rfl
  rw[D9 e,D9 e]
 rw[key];have s:b<(w.alloc (.cells #[.int .i64 n] 150)).heap.size:=(FN.1 f).1;refine⟨⟨rfl,rfl,rfl,BK,fun i hi u=>?_⟩,VB s⟩;rw[X9 (fun e=>u (by rw[e]))];exact Io _ _ _ hi
def Qo {T:Type}:Except Value T→Option Int
 | .ok _=>some 0
 | .error (.iface t (.agg cs))=>bif t==150 then(match cs.toList with | [.int .i64 n]=>some n|_=>none)else none
 | .error _=>none
def aJN (b:Nat) (n:Int) (w:World) (f:w.heap[b]? =some (.cells #[.int .i64 n] 68 (0,0))) (tmps:Array Value) (j:tmps.getD 2 undef=.pointer (some ⟨b,0,none⟩)):(results Tryz.f81 tmps).run Tryz.prog w=.ok (.int .i64 n) w:=by
 have m:w.cell? ⟨b,0,none⟩=some (.int .i64 n):=wR
 have e:results Tryz.f81 tmps=(do let v ←loadVar 68 (←asAddr (tmps.getD 2 undef));pure v):=by simp[results,Tryz.results81]
 rw[e,j];simp[go_sem,m]
def aq1 {g:FuncId} {us:Array Value} {w:World} {n:Int} (he:∀(vs:Array Value) (w:World),(callFunc g vs).run Tryz.prog w=.ok (.enter g vs) w)
 (z:Calls Tryz.prog g us (w.alloc (.cells #[.int .i64 0] 68 (0,0))) fun e s=>(w.alloc (.cells #[.int .i64 0] 68 (0,0))).grownBy s none∧((∃v,e=.returned v∧n=0)∨e=.panicked [{ v:=.iface 150 (.agg #[.int .i64 n]),recovered:=false }])):
 Calls Tryz.prog 81 #[.func (.func g) #[] us] w fun e w'=>e=.returned (.int .i64 n)∧w.grownBy w' none:=by
 have U:∀(fn:Fn) (first cap:Array Value) (w:World),(Instr.makeFunc fn first cap).run Tryz.prog w=.ok (.func fn first cap) w:=fun _ _ _ _=>rfl;have q:w.grownBy (w.alloc (.cells #[.int .i64 0] 68 (0,0))) none:=⟨rfl,rfl,rfl,BK,fun i hi _=>Io _ _ _ hi⟩
 go_enter_defers Tryz.func81,Tryz.ntmps81
 apply wp_seq;apply YM;refine .inl ?_;simp[Oper.wp,go_sem,wpList,Exit.then];apply wp_seq;apply YM;refine .inl ?_;simp[Oper.wp,go_sem,U,wpList,Exit.then];refine .inl ?_;apply wp_seq;apply YM;refine .inl ?_;simp[Oper.wp,go_sem,he,wpList,Exit.then];refine .inl (z.mono ?_);rintro e s ⟨J,h⟩;have L:s.heap[w.heap.size]? =some (.cells #[.int .i64 0] 68 (0,0)):=(J.block w.heap.size BK BK).trans (ZJ _ _);have M:w.heap.size<s.heap.size:=(FN.1 L).1;have j:w.grownBy s none:=⟨J.os.trans q.os,J.tape.trans q.tape,J.output.trans q.output,Dn q.size J.size,fun i hi O=>(J.block i E8 O).trans (q.block i hi O)⟩
 have u:∀(Y:World) (m:Int),s.grownBy Y (some w.heap.size)→w.grownBy Y none:=fun Y m I=>⟨I.os.trans j.os,I.tape.trans j.tape,I.output.trans j.output,Dn j.size I.size,fun i hi O=>(I.block i (by have :=j.size;omega) E8).trans (j.block i hi O)⟩
 rcases h with⟨v,rfl,rfl⟩|rfl
 ·have hc:s.cell? ⟨w.heap.size,0,none⟩=some (.int .i64 0):=by rw[World.cell?,L];rfl
  have Z:s.frozen? ⟨w.heap.size,0,none⟩=false:=by simp[World.frozen?,L]
  apply wp_seq;apply YM;refine .inl ?_;simp[Oper.wp,go_sem,hc,Z,wpList,Exit.then];apply wp_ret
  have key:s.setCell ⟨w.heap.size,0,none⟩ (.int .i64 0)=s.putObj w.heap.size (.cells #[.int .i64 0] 68 (0,0)):=by
   simp only[World.setCell,World.putObj];congr 1;apply kN;intro i;rw[NH,aE5];by_cases e:w.heap.size=i
   ·subst e;rw[Cb rfl,Cb rfl,L,Cb M];rfl
   rw[D9 e,D9 e]
  rw[key];refine leaves_cons (f:=120) (args:= #[.pointer (some ⟨w.heap.size,0,none⟩)]) BK aAi ?_;refine(apS ⟨w.heap.size,0,none⟩ _).mono ?_;rintro e u' w'' ⟨rfl,rfl,rfl⟩;refine⟨.int .i64 0,aJN w.heap.size 0 _ (VB M) _ rfl,rfl,u _ 0 ⟨rfl,rfl,rfl,BK,fun i hi hne=>X9 (fun e=>hne (by rw[e]))⟩⟩
 refine leaves_cons (f:=120) (args:= #[.pointer (some ⟨w.heap.size,0,none⟩)]) BK aAi ?_;refine(ajC w.heap.size (.int .i64 0) n s L).mono ?_;rintro e u' w'' ⟨rfl,rfl,I,h4⟩;exact⟨.int .i64 n,aJN w.heap.size n _ h4 _ rfl,rfl,u _ n I⟩
def aJU {T:Type} {res:T→Ac} (g:FuncId) (f:List D) (r:Except Value T) (hr:Nv Tryz.prog g (f.map .d) r res) (J:DX Tryz.prog g=true) (n:Int) (q:Qo r=some n):
 BF 81 [.d (.fn (.func g) [] f)] [] (.d (AY n)) []:=by
 intro ok X H w z hm hs ha;obtain rfl:H=[]:=GY hm.hlen;have h0:=ha 0 BK
 obtain⟨fv,rfl⟩:∃fv,z= #[fv]:=by
  have h1:z.size=1:=hs;exact⟨z[0],by apply Xd (by simp[h1]);intro i h1 h2;simp at h2;subst h2;rfl⟩
 have h0:R ok w [] (.d (.fn (.func g) [] f)) fv:=h0;cases h0 with
 |d _ _ h0=>
 cases h0 with
 |fn _ _ _ vs us hl1 hl2 h1 h2=>
 obtain rfl:vs= #[]:=XL (by simpa using hl1);obtain⟨s,O⟩:∃s,s=w.alloc (.cells #[.int .i64 0] 68 (0,0)):=⟨_,rfl⟩
 have hg1:Dz ok w ok s:=fun b M=>⟨M,by rw[O];exact Io _ _ _ (hm.jF b M)⟩
 have hmc:CW ⟨s,ok,[],[]⟩ ok [] [] s:=
  ⟨.refl _ _,fun _ h=>h,fun _ h=>.inl h,fun b M=>by rw[O];simp;exact Nat.lt_succ_of_lt (hm.jF b M),.refl _,rfl,fun k e h J=>jP,fun k e h b J=>jP,fun k k' e e' h h' b J=>jP⟩
 have I:∀i,i<(f.map Ac.d).length→R ok s [] ((f.map Ac.d).getD i .junk) (us.getD i undef):=fun i hi=>by
  rw[Ch]at hi;have e1:(f.map Ac.d).getD i .junk=.d (f.getD i DR):=Ky
  rw[e1];exact .d _ _ ((h2 i hi).mono hg1)
 have hgr:∀{U:Nat→Prop} {H2:List Ba} {Z:World},CW ⟨s,ok,[],[]⟩ U H2 [] Z→s.grownBy Z none:=fun j=>⟨j.fr.os,j.fr.tape,j.fr.output,j.fr.size,fun b M _=>j.fr.block b M BK⟩
 have Y:Calls Tryz.prog g us s fun e Z=>s.grownBy Z none∧((∃v,e=.returned v∧n=0)∨e=.panicked [{ v:=.iface 150 (.agg #[.int .i64 n]),recovered:=false }]):=by
  cases L:r with
  |ok x=>
   rw[L]at q;refine(hr.1 x L ok [] [] s us hmc (by simpa using hl2) I).mono ?_;rintro e Z ⟨v,U,H2,rfl,j,_⟩;exact⟨hgr j,.inl ⟨v,rfl,(CO q).symm⟩⟩
  |error u=>
   rw[L]at q
   have hu:u=.iface 150 (.agg #[.int .i64 n]):=by
    unfold Qo at q;split at q
    ·rename_i h;cases h
    ·rename_i t cs h;cases h;cases ht:(t==150)with
     |false=>rw[ht]at q;cases q
     |true=>
      rw[ht]at q;simp only[Bh]at q;obtain rfl:t=150:=by simpa using ht
      split at q
      ·rename_i m hcs;obtain rfl:=CO q;rw[←fH (xs:=cs),hcs]
      cases q
    cases q
   refine(hr.2 u L ok [] [] s us hmc (by simpa using hl2) I).mono ?_;rintro e Z ⟨U,H2,rfl,j⟩;exact⟨hgr j,.inr (by rw[hu])⟩
 subst O;refine(aq1 (fun vs w=>Qq J vs w) Y).mono ?_;rintro e w' ⟨rfl,hg⟩;obtain⟨m1,_⟩:=hm.change (ok':=ok) (H':=[]) (es':=[]) (w':=w') (fun _=>False) hg.os hg.tape hg.output hg.size (fun b M _=>hg.block b M BK) (fun _ h=>h.elim) (fun _ h=>h) (fun _ h=>.inl h) (.refl _) rfl (fun k e h J=>jP);exact⟨_,ok,[],rfl,m1,.d _ _ (.lit _)⟩
def setCell_eq {w:World} {b:Nat} {x y:Value} {t:TypeId} (f:w.heap[b]? =some (.cells #[x] t (0,0))):w.setCell ⟨b,0,none⟩ y=w.putObj b (.cells #[y] t (0,0)):=by
 simp only[World.setCell,World.putObj];congr 1;apply kN;intro i;rw[NH,aE5];by_cases e:b=i
 ·subst e;rw[Cb rfl,Cb rfl,f,Cb (FN.1 f).1];rfl
 rw[D9 e,D9 e]
def aoj (p q:Addr) (w:World):
 CallsD Tryz.prog 369 #[.pointer (some p),.pointer (some q)] .returning w fun e f w'=>e=.returned (.tuple #[])∧f=.returning∧w'=w:=by
 refine vg Tryz.func369 rfl fun j cs m=>?_;apply Nu;apply Nb;simp[wpOpsS,go_sem,recoverD,m,Tryz.ntmps369,Exit.thenS];apply Nu;apply Nb;simp[wpOpsS,go_sem,Exit.thenS];refine ZP (t:=false) Zq ?_;simp only[SE,Jl];refine wpS_of_wp (wp_skip ?_);cases j
 simp_all [bodyPostS,results,Tryz.results369]
def aqo (b c:Nat) (ad:Option Addr) (n cap:Nat) (x:Value) (w:World) (M:w.heap[b]? =some (.cells #[.slice ad n cap] 26 (0,0))) (O:w.heap[c]? =some (.cells #[x] 26 (0,0))):
 CallsD Tryz.prog 369 #[.pointer (some ⟨b,0,none⟩),.pointer (some ⟨c,0,none⟩)] (.panicking [{ v:=.iface 317 (.agg #[]),recovered:=false }]) w fun e U w'=>
  e=.returned (.tuple #[])∧U=.panicking [{ v:=.iface 317 (.agg #[]),recovered:=true }]∧w.grownBy w' (some c)∧w'.heap[c]? =some (.cells #[.slice ad n cap] 26 (0,0)):=by
 have j:∀(Y:TypeId) (w:World),(Instr.typeAssert (.iface 317 (.agg #[])) Y 317 true).run Tryz.prog w=.ok (.tuple #[.agg #[],.bool true]) w:=fun _ _=>A8
 refine vg Tryz.func369 rfl fun c₀ cs Z=>?_;apply Nu;apply Nb;simp[wpOpsS,go_sem,recoverD,Z,Tryz.ntmps369,Exit.thenS];apply Nu;apply Nb;simp[wpOpsS,go_sem,Exit.thenS];refine ZP (t:=true) Zq ?_;simp only[KD];apply Nu;apply Nu;apply Nb;simp[wpOpsS,execOp,j,go_sem,Exit.thenS];apply Nu;apply Nb;simp[wpOpsS,go_sem,Exit.thenS];refine ZP (t:=false) Zq ?_;simp only[SE,Jl];refine wpS_of_wp (wp_skip ?_);simp only[Exit.thenS];have m:b<w.heap.size:=(FN.1 M).1;have q:c<w.heap.size:=(FN.1 O).1;have s:(w.alloc (.cells #[] 317)).heap[b]? =some (.cells #[.slice ad n cap] 26 (0,0)):=(Io _ _ _ m).trans M;have f:(w.alloc (.cells #[] 317)).heap[c]? =some (.cells #[x] 26 (0,0)):=(Io _ _ _ q).trans O;have u:(w.alloc (.cells #[] 317)).cell? ⟨b,0,none⟩=some (.slice ad n cap):=by rw[World.cell?,s];rfl
 have z:(w.alloc (.cells #[] 317)).cell? ⟨c,0,none⟩=some x:=wR
 have I:(w.alloc (.cells #[] 317)).frozen? ⟨c,0,none⟩=false:=by simp[World.frozen?,f]
 apply Nb;simp[wpOpsS,go_sem,Exit.thenS,u,z,I,bodyPostS,results,Tryz.results369];rw[setCell_eq f];have J:c<(w.alloc (.cells #[] 317)).heap.size:=(FN.1 f).1;refine⟨⟨rfl,rfl,rfl,BK,fun i hi L=>?_⟩,VB J⟩;rw[X9 (fun e=>L (by rw[e]))];exact Io _ _ _ hi
def step_fin (b:Nat) (v:Value) (w:World) (f:w.heap[b]? =some (.cells #[v] 26 (0,0))) (tmps:Array Value) (j:tmps.getD 6 undef=.pointer (some ⟨b,0,none⟩)):(results Tryz.f304 tmps).run Tryz.prog w=.ok v w:=by
 have m:w.cell? ⟨b,0,none⟩=some v:=wR
 have e:results Tryz.f304 tmps=(do let v ←loadVar 26 (←asAddr (tmps.getD 6 undef));pure v):=by simp[results,Tryz.results304]
 rw[e,j];simp[go_sem,m]
def akI {l id:Value} {ad:Option Addr} {n cap:Nat} {w:World} {Rv:Value→World→Prop} {bad:Prop}
 (u:Calls Tryz.prog 370 #[l,.slice ad n cap,id] ((w.alloc (.cells #[.slice ad n cap] 26 (0,0))).alloc (.cells #[.slice none 0 0] 26 (0,0))) fun e j=>((w.alloc (.cells #[.slice ad n cap] 26 (0,0))).alloc (.cells #[.slice none 0 0] 26 (0,0))).grownBy j none∧((∃I n' m,e=.returned (.slice I n' m)∧Rv (.slice I n' m) j)∨(e=.panicked [{ v:=.iface 317 (.agg #[]),recovered:=false }]∧bad))):
 Calls Tryz.prog 304 #[l,.slice ad n cap,id] w fun e w'=>w.grownBy w' none∧((∃v j,e=.returned v∧Rv v j∧w.grownBy j none∧w.heap.size+1<j.heap.size∧j.grownBy w' (some (w.heap.size+1)))∨(e=.returned (.slice ad n cap)∧bad)):=by
 have hmf:∀(fn:Fn) (first cap:Array Value) (w:World),(Instr.makeFunc fn first cap).run Tryz.prog w=.ok (.func fn first cap) w:=fun _ _ _ _=>rfl;obtain⟨M,q⟩:∃M,M=(w.alloc (.cells #[.slice ad n cap] 26 (0,0))).alloc (.cells #[.slice none 0 0] 26 (0,0)):=⟨_,rfl⟩
 have hs1:M.heap.size=w.heap.size+2:=by rw[q];simp
 have U:M.heap[w.heap.size]? =some (.cells #[.slice ad n cap] 26 (0,0)):=by rw[q];exact(Io _ _ _ BK).trans (ZJ w _)
 have h1c:M.heap[w.heap.size+1]? =some (.cells #[.slice none 0 0] 26 (0,0)):=by
  have :=ZJ (w.alloc (.cells #[.slice ad n cap] 26 (0,0))) (.cells #[.slice none 0 0] 26 (0,0));rw[aGo]at this;rw[q];exact this
 have z:w.grownBy M none:=by
  rw[q];exact⟨rfl,rfl,rfl,E8,fun i hi _=>(Io _ _ _ E8).trans (Io _ _ _ hi)⟩
 have hcb:M.cell? ⟨w.heap.size,0,none⟩=some (.slice ad n cap):=by rw[World.cell?,U];rfl
 rw[←q]at u
 go_enter_defers Tryz.func304,Tryz.ntmps304
 apply wp_seq;apply YM;refine .inl ?_;simp[Oper.wp,go_sem,wpList,Exit.then];rw[←q];have he:∀(vs:Array Value) (w:World),(callFunc 370 vs).run Tryz.prog w=.ok (.enter 370 vs) w:=fun vs w=>Qq (P:=Tryz.prog) (f:=370) A8 vs w;refine .inl ?_;apply wp_seq;apply YM;refine .inl ?_;simp[Oper.wp,go_sem,hmf,wpList,Exit.then];refine .inl ?_;apply wp_seq;apply YM;refine .inl ?_;simp[Oper.wp,go_sem,wpList,Exit.then,hcb,he];refine .inl (.inl (.inl (u.mono ?_)));rintro e j ⟨O,h⟩;have hb:j.heap[w.heap.size]? =some (.cells #[.slice ad n cap] 26 (0,0)):=(O.block _ AL BK).trans U;have Y:j.heap[w.heap.size+1]? =some (.cells #[.slice none 0 0] 26 (0,0)):=(O.block _ AL BK).trans h1c;have Z:w.heap.size+1<j.heap.size:=(FN.1 Y).1;have s:w.grownBy j none:=⟨O.os.trans z.os,O.tape.trans z.tape,O.output.trans z.output,Dn z.size O.size,fun i hi hn=>(O.block i AL hn).trans (z.block i hi hn)⟩
 have L:∀(w3:World),j.grownBy w3 (some (w.heap.size+1))→w.grownBy w3 none:=fun w3 J=>⟨J.os.trans s.os,J.tape.trans s.tape,J.output.trans s.output,Dn s.size J.size,fun i hi hn=>(J.block i AL E8).trans (s.block i hi hn)⟩
 rcases h with⟨I,n',m,rfl,hv⟩|⟨rfl,hbad⟩
 ·have hcc:j.cell? ⟨w.heap.size+1,0,none⟩=some (.slice none 0 0):=by rw[World.cell?,Y];rfl
  have hfz:j.frozen? ⟨w.heap.size+1,0,none⟩=false:=by simp[World.frozen?,Y]
  simp[hcc,hfz,go_sem,wpList,Exit.then];refine .inl (wp_ret ?_);rw[setCell_eq Y];refine leaves_cons (f:=369) (args:= #[.pointer (some ⟨w.heap.size,0,none⟩),.pointer (some ⟨w.heap.size+1,0,none⟩)]) BK aAi ?_;refine(aoj ⟨w.heap.size,0,none⟩ ⟨w.heap.size+1,0,none⟩ _).mono ?_;rintro e u' w'' ⟨rfl,rfl,rfl⟩;have J:j.grownBy (j.putObj (w.heap.size+1) (.cells #[.slice I n' m] 26 (0,0))) (some (w.heap.size+1)):=⟨rfl,rfl,rfl,BK,fun i hi hne=>X9 (fun e=>hne (by rw[e]))⟩
  exact⟨.slice I n' m,step_fin (w.heap.size+1) _ _ (VB Z) _ rfl,L _ J,.inl ⟨_,rfl,j,hv,s,Z,J⟩⟩
 refine leaves_cons (f:=369) (args:= #[.pointer (some ⟨w.heap.size,0,none⟩),.pointer (some ⟨w.heap.size+1,0,none⟩)]) BK aAi ?_;refine(aqo w.heap.size (w.heap.size+1) ad n cap (.slice none 0 0) j hb Y).mono ?_;rintro e u' w'' ⟨rfl,rfl,J,h4⟩;exact⟨.slice ad n cap,step_fin (w.heap.size+1) _ _ h4 _ rfl,L _ J,.inr ⟨rfl,hbad⟩⟩
def aAW {T:Type} (s:T):Except Value T→Option T
 | .ok x=>some x
 | .error (.iface t (.agg cs))=>bif t==317&&cs.toList.isEmpty then some s else none
 | .error _=>none
def agy {T:Type} (enc:T→List D) (dl di:D) (s:T) (r:Except Value T) (hr:Nv Tryz.prog 370 [.d dl,.d (.sl (enc s)),.d di] r (fun x=>.d (.sl (enc x)))) (L:T) (U:aAW s r=some L):
 BF 304 [.d dl,.d (.sl (enc s)),.d di] [] (.d (.sl (enc L))) []:=by
 intro ok X H w q hm hs ha;obtain rfl:H=[]:=GY hm.hlen;have hsz:q.size=3:=hs
 obtain⟨l,sv,id,rfl⟩:∃l sv id,q= #[l,sv,id]:=⟨q[0],q[1],q[2],by
  apply Xd (by simp[hsz]);intro i h1 h2
  match i,h2 with
  |0,_=>rfl
  |1,_=>rfl
  |2,_=>rfl⟩
 have a0:R ok w [] (.d dl) l:=ha 0 BK;have a1:R ok w [] (.d (.sl (enc s))) sv:=ha 1 BK;have a2:R ok w [] (.d di) id:=ha 2 BK
 have slv:∀{ok:Nat→Prop} {w:World} {H:List Ba} {xs:List D} {v:Value},R ok w H (.d (.sl xs)) v→∃ad n cap,v=.slice ad n cap:=fun h=>by
  cases h with
  |d _ _ h=>cases h with
   |sl0 ad cap=>exact⟨_,_,_,rfl⟩
   |sl=>exact⟨_,_,_,rfl⟩
 obtain⟨ad,n,cap,rfl⟩:=slv a1;obtain⟨z,Y⟩:∃z,z=(w.alloc (.cells #[.slice ad n cap] 26 (0,0))).alloc (.cells #[.slice none 0 0] 26 (0,0)):=⟨_,rfl⟩
 have hs1:z.heap.size=w.heap.size+2:=by rw[Y];simp
 have hg1:Dz ok w ok z:=fun b m=>⟨m,by rw[Y];exact(Io _ _ _ (by have h:=hm.jF b m;rw[aGo];omega)).trans (Io _ _ _ (hm.jF b m))⟩
 have hmc:CW ⟨z,ok,[],[]⟩ ok [] [] z:=
  ⟨.refl _ _,fun _ h=>h,fun _ h=>.inl h,fun b m=>by have h:=hm.jF b m;rw[hs1];omega,.refl _,rfl,fun k e h he=>by simp at he,fun k e h b he=>by simp at he,fun k k' e e' h h' b he=>by simp at he⟩
 have M:∀i,i<3→R ok z [] ([Ac.d dl,.d (.sl (enc s)),.d di].getD i .junk) ((#[l,.slice ad n cap,id]:Array Value).getD i undef):=fun i hi=>by
  match i,hi with
  |0,_=>exact a0.mono hg1 (.refl _)
  |1,_=>exact a1.mono hg1 (.refl _)
  |2,_=>exact a2.mono hg1 (.refl _)
 have hgr:∀{f:Nat→Prop} {H2:List Ba} {J:World},CW ⟨z,ok,[],[]⟩ f H2 [] J→z.grownBy J none:=fun j=>⟨j.fr.os,j.fr.tape,j.fr.output,j.fr.size,fun b m _=>j.fr.block b m BK⟩
 have O:Calls Tryz.prog 370 #[l,.slice ad n cap,id] z fun e J=>z.grownBy J none∧((∃Z n' I,e=.returned (.slice Z n' I)∧∃x f,r=.ok x∧CW ⟨z,ok,[],[]⟩ f [] [] J∧DT f J (.sl (enc x)) (.slice Z n' I))∨(e=.panicked [{ v:=.iface 317 (.agg #[]),recovered:=false }]∧L=s)):=by
  cases hrr:r with
  |ok x=>
   refine(hr.1 x hrr ok [] [] z _ hmc rfl M).mono ?_;rintro e J ⟨v,f,H2,rfl,j,hR⟩;obtain⟨Z,n',I,rfl⟩:=slv hR;obtain rfl:H2=[]:=GY j.hlen;exact⟨hgr j,.inl ⟨Z,n',I,rfl,x,f,rfl,j,by cases hR with |d _ _ h=>exact h⟩⟩
  |error u=>
   rw[hrr]at U
   have hu:u=.iface 317 (.agg #[])∧L=s:=by
    unfold aAW at U;split at U
    ·rename_i h;cases h
    ·rename_i t cs h;cases h;cases ht:(t==317&&cs.toList.isEmpty)with
     |false=>rw[ht]at U;cases U
     |true=>
      rw[ht]at U;simp only[CP]at ht;obtain rfl:t=317:=by simpa using ht.1
      have :cs= #[]:=by rw[←fH (xs:=cs),List.isEmpty_iff.1 ht.2]
      subst this;exact⟨rfl,(CO U).symm⟩
    cases U
   refine(hr.2 u hrr ok [] [] z _ hmc rfl M).mono ?_;rintro e J ⟨f,H2,rfl,j⟩;exact⟨hgr j,.inr ⟨by rw[hu.1],hu.2⟩⟩
 rw[Y]at O;refine(akI O (Rv:=fun v J=>∃x f,r=.ok x∧CW ⟨_,ok,[],[]⟩ f [] [] J∧DT f J (.sl (enc x)) v) (bad:=L=s)).mono ?_;rw[←Y];rintro e w' ⟨hg,h⟩
 have mk:∀(f:Nat→Prop),(∀b,ok b→f b)→(∀b,f b→ok b∨(w.heap.size≤b∧b<w'.heap.size))→CW ⟨w,ok,X,[]⟩ f [] [] w':=fun f h1 h2=>
  (hm.change (ok':=f) (H':=[]) (es':=[]) (w':=w') (fun _=>False) hg.os hg.tape hg.output hg.size (fun b m _=>hg.block b m BK) (fun _ h=>h.elim) h1 h2 (.refl _) rfl (fun k e h he=>by simp at he)).1
 rcases h with⟨v,J,rfl,⟨x,f,hx,j,hD⟩,hg2,hlt,h3⟩|⟨rfl,rfl⟩
 ·rw[hx]at U;obtain rfl:=CO U
  have hgg:Dz f J f w':=fun b m=>⟨m,h3.block b (j.jF b m) (fun e=>by
   obtain rfl:=CO e;rcases j.vZ _ m with h|h|h
   ·have :=hm.jF _ h;omega
   ·simp only at h;omega
   simp at h)⟩
  refine⟨v,f,[],rfl,mk f j.vY (fun b m=>?_),.d _ _ (hD.mono hgg)⟩;rcases j.vZ b m with h|h|h
  ·exact .inl h
  ·simp only at h;exact .inr ⟨AL,UM (j.jF b m) h3.size⟩
  simp at h
 have hgg:Dz ok w ok w':=fun b m=>⟨m,hg.block b (hm.jF b m) BK⟩
 exact⟨_,ok,[],rfl,mk ok (fun _ h=>h) (fun _ h=>.inl h),a1.mono hgg (.refl _)⟩
end Go.Proofs.YtolgdkhlelfpoaaGreat
end
section
namespace Go.Proofs
open Go.Proofs.YtolgdkhlelfpoaaGreat
open Go.Shelf
def Tryz.UC:Go.Shelf.Ren:=⟨fun |6=>421|15=>149|14=>425|28=>204|29=>205|20=>426|21=>427|22=>428|23=>429|24=>430|25=>431|26=>432|27=>433|46=>434|47=>257|48=>258|49=>435|50=>436|57=>437|n=>n,fun |22=>349|24=>351|25=>354|3=>3|39=>89|0=>0|53=>226|55=>228|4=>4|46=>220|45=>219|50=>97|5=>5|9=>9|66=>254|70=>258|76=>300|77=>301|n=>n,fun |n=>n⟩
def Tryz.akG:SlLaysF0.n6 Tryz.prog Tryz.UC:={
 mixed:=A8
 f6:=⟨Tryz.f421.name,BX,Tryz.func421.trans (BR some A8)⟩
 f14:=⟨Tryz.f425.name,BX,Tryz.func425.trans (BR some A8)⟩
 f15:=Tryz.func149.trans (BR some A8)
 f20:=⟨Tryz.f426.name,BX,Tryz.func426.trans (BR some A8)⟩
 f21:=⟨Tryz.f427.name,BX,Tryz.func427.trans (BR some A8)⟩
 f22:=⟨Tryz.f428.name,BX,Tryz.func428.trans (BR some A8)⟩
 f23:=⟨Tryz.f429.name,BX,Tryz.func429.trans (BR some A8)⟩
 f24:=⟨Tryz.f430.name,BX,Tryz.func430.trans (BR some A8)⟩
 f25:=⟨Tryz.f431.name,BX,Tryz.func431.trans (BR some A8)⟩
 f26:=⟨Tryz.f432.name,BX,Tryz.func432.trans (BR some A8)⟩
 f27:=⟨Tryz.f433.name,BX,Tryz.func433.trans (BR some A8)⟩
 f28:=Tryz.func204.trans (BR some A8)
 f29:=Tryz.func205.trans (BR some A8)
 f46:=⟨Tryz.f434.name,BX,Tryz.func434.trans (BR some A8)⟩
 f47:=Tryz.func257.trans (BR some A8)
 f48:=Tryz.func258.trans (BR some A8)
 f49:=⟨Tryz.f435.name,BX,Tryz.func435.trans (BR some A8)⟩
 f50:=⟨Tryz.f436.name,BX,Tryz.func436.trans (BR some A8)⟩
 f57:=⟨Tryz.f437.name,BX,Tryz.func437.trans (BR some A8)⟩
 t0:=Tryz.underlying0
 a0:=Tryz.isAgg0
 z0:=Tryz.sizeOf0
 v0:=Tryz.zeroValue0
 t3:=IJ
 a3:=XT
 z3:=Xh
 v3:=ZH
 t4:=U6
 a4:=dz
 z4:=bZ
 v4:=ak
 t5:=iK
 a5:=jr
 z5:=kF
 v5:=mO
 t9:=O6
 a9:=og
 z9:=jJ
 v9:=gq
 t22:=Tryz.underlying349
 a22:=Tryz.isAgg349
 z22:=Tryz.sizeOf349
 v22:=Tryz.zeroValue349
 t25:=Tryz.underlying354
 a25:=Tryz.isAgg354
 z25:=Tryz.sizeOf354
 v25:=Tryz.zeroValue354
 t39:=aBw
 a39:=Tryz.isAgg89
 z39:=Tryz.sizeOf89
 v39:=yx
 t45:=Tryz.underlying219
 a45:=Tryz.isAgg219
 z45:=Tryz.sizeOf219
 v45:=Tryz.zeroValue219
 t46:=Tryz.underlying220
 a46:=Tryz.isAgg220
 z46:=Tryz.sizeOf220
 v46:=Tryz.zeroValue220
 t50:=Tryz.underlying97
 a50:=Tryz.isAgg97
 z50:=Tryz.sizeOf97
 v50:=Tryz.zeroValue97
 t53:=aBR
 a53:=Tryz.isAgg226
 z53:=aAy
 v53:=yA
 t55:=Tryz.underlying228
 a55:=Tryz.isAgg228
 z55:=Tryz.sizeOf228
 v55:=Tryz.zeroValue228
 t66:=Tryz.underlying254
 a66:=Tryz.isAgg254
 z66:=Tryz.sizeOf254
 v66:=Tryz.zeroValue254
 t70:=Tryz.underlying258
 a70:=Tryz.isAgg258
 z70:=Tryz.sizeOf258
 v70:=Tryz.zeroValue258
 t76:=Tryz.underlying300
 a76:=Tryz.isAgg300
 z76:=Tryz.sizeOf300
 v76:=Tryz.zeroValue300
 t77:=Tryz.underlying301
 a77:=Tryz.isAgg301
 z77:=Tryz.sizeOf301
 v77:=Tryz.zeroValue301 }
end Go.Proofs
end
