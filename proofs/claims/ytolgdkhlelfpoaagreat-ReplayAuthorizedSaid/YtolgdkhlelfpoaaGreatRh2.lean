/- Part 2 of what the laws' proofs lean on: states of the walk, typed functions of the program and their laws (short forms written by wip/shrink.py; no condition). -/
import Derived.Test.YtolgdkhlelfpoaaGreatRh1
set_option linter.defProp false
set_option linter.unnecessarySimpa false
set_option linter.unusedVariables false
set_option linter.unusedSimpArgs false
section
namespace Go.Proofs.YtolgdkhlelfpoaaGreat
open Go.RowKit
section
variable {P : Program} {o : Oper} {es : List Au}
def wu {ns:List (Operand×AV)} {v:AV} {es':List Au} (e:TypeId) (size:Nat) (h:BQ P o ((.const (.slice none 0 0),.aP es.length)::ns) (es++[.arr e size []]) v es'):BQ P o ns es v es':=by
 intro C ok H a w Q q s;obtain⟨u,z⟩:=aEy q e size;refine Oper.wp_mono ?_ (h C ok _ a w Q u (fun n f=>?_))
 ·rintro a' w' ⟨v',ok',H',I,J,j,m,L⟩;exact⟨v',ok',H',I,J,(Names.push _ _).trans j,m,L⟩
 rcases Em.1 f with rfl|f
 ·exact z
 exact(s n f).mono (.refl _ _) (Names.push _ _)
def R.ZP {ok:Nat→Prop} {w:World} {H:List BN} {us:List Value} {v:Value} (h:R ok w H (.d (.agg (us.map .lit))) v):v=.agg us.toArray:=by
 cases h with
 |d _ _ h=>
  cases h with
  |agg _ vs m _ h=>
   congr 1;apply XE
   ·simpa using m
   intro i n z;have hi:i<(us.map D.lit).length:=AA
   have f:=h i hi;have j:i<us.length:=Ey
   have q:(us.map D.lit).getD i Cb=.lit (us[i]):=lg
   have s:vs.getD i undef=vs[i]:=by simp[Array.getD,n]
   rw[q,s]at f;generalize vs[i]=u at f;cases f;simp
structure Zk (P:Program) (n:Nat) (t:TypeId) (us vs:List Value) (b:Bool):Prop where
 run:∀(d:Nat) (w:World),(Op.equalIn (d+n) t (.agg us.toArray) (.agg vs.toArray)).run P w=.ok b w
def JE {t:TypeId} {cs:Array Value} {off:Nat} {v:Value} {size:Nat} (f:DI P t false size) (h:cs[off]? =some v) (w:World):(part t cs off).run P w=.ok v w:=by
 simp[part,f.agg,h]
def Ti (d:Nat) (xs ys:Array Value):List (TypeId×Nat)→Sem Bool
 | []=>pure true
 |f::h=>do
  let a ←part f.1 xs f.2
  let b ←part f.1 ys f.2
  let r ←Op.equalIn d f.1 a b
  if(!r)=true then pure false else Ti d xs ys h
def acR (d:Nat) (xs ys:Array Value):∀(j:List Field),j.all (fun f=>f.name != "_")=true→Op.eqFields d xs ys j=Ti d xs ys (j.map fun f=>(f.type,f.offset))
 | [],_=>rfl
 |f::j,h=>by
  simp only[List.all_cons,Bv,bne_iff_ne,ne_eq]at h;simp only[Op.eqFields,J5,Ti,ne_eq,h.1,not_false_eq_true,Iu,acR d xs ys j h.2]
def aA9 {d:Nat} {t:TypeId} {xs ys:Array Value} {l:List (TypeId×Nat)} {b:Bool} {w:World} (j:P.underlying t=some (.struct (P.fieldsOf t))) (m:P.stoodInHeld t=false) (n:(P.fieldsOf t).toList.all (fun f=>f.name != "_")=true)
 (q:(P.fieldsOf t).toList.map (fun f=>(f.type,f.offset))=l) (h:(Ti d xs ys l).run P w=.ok b w):(Op.equalIn (d+1) t (.agg xs) (.agg ys)).run P w=.ok b w:=by
 rw[run_equalIn_struct w d t xs ys j m,acR _ _ _ _ n,q,h]
def aAk (d:Nat) (xs ys:Array Value) (w:World):(Ti d xs ys []).run P w=.ok true w:=by simp[Ti]
def UG {d:Nat} {xs ys:Array Value} {t:TypeId} {off:Nat} {f:List (TypeId×Nat)} {a b:Value} {r rs:Bool} {w:World} (ha:(part t xs off).run P w=.ok a w) (h:(part t ys off).run P w=.ok b w)
 (j:(Op.equalIn d t a b).run P w=.ok r w) (m:(Ti d xs ys f).run P w=.ok rs w):(Ti d xs ys ((t,off)::f)).run P w=.ok (r&&rs) w:=by
 unfold Ti;simp only[ER,ha,h,j,EX];cases r<;>simp[m]
def agc {t t':TypeId} {x y:Operand} {n:Nat} (us vs:List Value) {b:Bool} (h:Zk P n t us vs b) (hd:n≤10000) (s:P.eqGuardType P.depth t=false) (u:o.op=.binOp .eql t x y t'):
 BQ P o [(x,.d (.agg (us.map .lit))),(y,.d (.agg (vs.map .lit)))] es (.d (CM b)) es:=
 .pure fun _ _ a w _ _ j=>⟨.bool b,by
  have m:=(Dt j).1.ZP;have q:=(Dt j).2.ZP;simp only at m q;have f:(eqGuard .eql t x y (.agg us.toArray) (.agg vs.toArray)).run P w=.ok () w:=by simp[eqGuard,s]
  simp only[execOp,u,m,q,ER,f,EX,Ep,run_eql_struct,(by have :=h.run (10000-n) w;rwa [Nat.sub_add_cancel hd]at this:(Op.equalIn 10000 t (.agg us.toArray) (.agg vs.toArray)).run P w=.ok b w)],.d _ _ (.lit _)⟩
def aBe {t t':TypeId} {x y:Operand} {n:Nat} (us vs:List Value) {b:Bool} (h:Zk P n t us vs b) (hd:n≤10000) (s:P.eqGuardType P.depth t=false) (u:o.op=.binOp .neq t x y t'):
 BQ P o [(x,.d (.agg (us.map .lit))),(y,.d (.agg (vs.map .lit)))] es (.d (CM (!b))) es:=
 .pure fun _ _ a w _ _ j=>⟨.bool (!b),by
  have m:=(Dt j).1.ZP;have q:=(Dt j).2.ZP;simp only at m q;have f:(eqGuard .neq t x y (.agg us.toArray) (.agg vs.toArray)).run P w=.ok () w:=by simp[eqGuard,s]
  simp only[execOp,u,m,q,ER,f,EX,Ep,run_neq_struct,(by have :=h.run (10000-n) w;rwa [Nat.sub_add_cancel hd]at this:(Op.equalIn 10000 t (.agg us.toArray) (.agg vs.toArray)).run P w=.ok b w)],.d _ _ (.lit _)⟩
def O1 (l:List Int):ByteArray:=l.foldl (fun r n=>r.push (UInt8.ofNat n.toNat)) ByteArray.empty
def arn {ok:Nat→Prop} {w:World} {H:List BN} {l:List Int} {f:List Value} (h:Ed ok w H (flat (l.map ED)) f):f=l.map (.int .u8):=by
 rw[zD]at h;apply jd
 ·simpa using h.1
 intro i q s;have hi:i<(l.map fun n=>AV.d (ED n)).length:=MS
 have m:=(h.2 i hi).2;have j:i<l.length:=Ey
 have u:(l.map fun n=>AV.d (ED n)).getD i .junk=.d (ED l[i]):=lg
 have z:f.getD i undef=f[i]:=aAW
 rw[u,z]at m;have :=m.lit;simpa using this
def ark {w:World} {v:Value} {m:Nat} {l:List Int} (h:SQ w v m 1 (l.map (.int .u8))):(Conv.bytesToString v).run P w=.ok (.string (O1 l)) w:=by
 rcases h.at_ with⟨ad,c,rfl,j⟩|⟨c,rfl,n⟩
 ·refine run_bytesToString w ad m c l ?_;have f:=h.len;have :=azK (P:=P) w ad (l.map (Value.int .u8)) j;rw[CB,YU]at f;rw[CB,f]at this;exact this
 have f:=h.len;rw[n,Nat.zero_mul,CB]at f;rw[Fj f];simp[Conv.bytesToString,O1]
def Value.isSlice:Value→Bool
 | .slice _ _ _=>true
 |_=>false
def ah1 {w:World} {v:Value} {m size:Nat} {f:List Value} (h:SQ w v m size f):Value.isSlice v=true:=by
 rcases h.at_ with⟨_,_,rfl,_⟩|⟨_,rfl,_⟩<;>rfl
def aj2 {s t e:TypeId} {v:Value} {w:World} {r:ByteArray} (f:P.underlying s=some (.slice e)) (j:P.underlying e=some (.int .u8)) (m:P.underlying t=some .string) (n:Value.isSlice v=true)
 (h:(Conv.bytesToString v).run P w=.ok (.string r) w):(convert s t v).run P w=.ok (.string r) w:=by
 cases v<;>simp[Value.isSlice]at n
 simp[convert,underlying,f,j,m,h]
def apE {s t e:TypeId} {x:Operand} {l:List Int} (z:P.underlying s=some (.slice e)) (I:P.underlying e=some (.int .u8)) (J:P.underlying t=some .string) (L:o.op=.convert s t x):
 BQ P o [(x,.d (Af ED l))] es (.d (DT (O1 l))) es:=
 .pure fun ok H a w _ _ M=>by
  have j:=Ib M;simp only at j;generalize O:a.eval x=v at j;refine⟨.string (O1 l),?_,.d _ _ (.lit _)⟩;cases j with
  |d _ _ h=>
   obtain⟨u,f,m⟩:=Yf H h (size:=1) (fun y S=>by obtain⟨n,_,rfl⟩:=FM.1 S;rfl);obtain rfl:=arn m;have q:=ah1 f;simp[execOp,L,O,aj2 z I J q (ark f)]
def N7 {fn:Fn} {firsts f:Array Operand} {fi ca:List AV} (j:firsts.toList.length=fi.length) (s:f.toList.length=ca.length) (z:o.op=.makeFunc fn firsts f):
 BQ P o (EM firsts.toList fi++EM f.toList ca) es (.fn fn fi ca) es:=
 .pure fun ok H a w _ _ m=>by
  have key:∀(xs:Array Operand) (vs:List AV),xs.toList.length=vs.length→(∀n∈EM xs.toList vs,R ok w H n.2 (a.eval n.1))→∀i,i<vs.length→R ok w H (vs.getD i .junk) ((xs.map a.eval).getD i undef):=by
   intro xs vs j m i hi;have u:=dB j m i hi
   have q:i<xs.size:=by have :xs.size=vs.length:=NI
                        omega
   have I:(xs.toList.map a.eval).getD i undef=(xs.map a.eval).getD i undef:=by simp[List.getD,Array.getD,q]
   rw[I]at u;exact u
  refine⟨.func fn (firsts.map a.eval) (f.map a.eval),by simp[execOp,z,Instr.makeFunc],.fn fn fi ca _ _ NI MS (key _ _ j fun n h=>m n Ye) (key _ _ s fun n h=>m n Ye)⟩
def aBC :∀{xs:List Operand} {vs:List AV} {ys:List Operand} {us:List AV},xs.length=vs.length→EM (xs++ys) (vs++us)=EM xs vs++EM ys us
 | [],[],_,_,_=>rfl
 | [],_::_,_,_,h=>Fq
 |_::_,[],_,_,h=>Fq
 |x::xs,v::vs,ys,us,h=>by simp[EM,aBC (xs:=xs) (vs:=vs) Hf]
def aBR {ok:Nat→Prop} {w:World} {H:List BN} {a:Act}:∀{us:List Value} {vs:List AV},us.length=vs.length→(∀i,i<vs.length→R ok w H (vs.getD i .junk) (us.getD i undef))→∀n∈EM (us.map Operand.const) vs,R ok w H n.2 (a.eval n.1)
 | [],[],_,_,n,f=>by simp[EM]at f
 | [],_::_,h,_,_,_=>Fq
 |_::_,[],h,_,_,_=>Fq
 |u::us,v::vs,j,h,n,f=>by
  simp only[J5,EM,Em]at f;rcases f with rfl|f
  ·have :=h 0 BG;simp at this;exact this
  exact aBR (us:=us) (vs:=vs) NI (fun i hi=>by simpa using h (i+1) Ey) n f
def aIC {f:FuncId} {x:Operand} {ops:Array Operand} {ats:Array TypeId} (srcs:List Cj) {fi ca dH fG:List AV} {E E':List Au} {m:AV} (I:Aw P f fG E m E') (J:DC P f=true) (L:Oj srcs es E E'=true) (hE:jf srcs es E)
 (ha:Jh srcs (fi++dH++ca) fG) (s:ops.toList.length=dH.length) (M:o.op=.call { callee:=.value x,args:=ops,argTypes:=ats }):
 BQ P o ((x,.fn (.func f) fi ca)::EM ops.toList dH) es (m.up srcs es.length) (Iq srcs es E'):=by
 intro C ok H a w Q O z;have u:=z (x,.fn (.func f) fi ca) BG;simp only at u;generalize S:a.eval x=v at u;cases u with
 |fn _ _ _ vs us j q U Y=>
  unfold Oper.wp
  have Z:(execOp a.eval o).run P w=.ok (.enter f ((vs++ops.map a.eval)++us)) w:=by
   have :=Py J (vs++ops.map a.eval++us) w;rw[Array.append_assoc]at this;simp[execOp,M,resolve,S,Deferred.ofValue,invoke,this]
  rw[Z,WY]
  have e:vs++ops.map a.eval++us=((vs.toList.map Operand.const++ops.toList++us.toList.map Operand.const).map a.eval).toArray:=by
   apply aE9;simp[iG,Act.eval]
  rw[e];have l1:(vs.toList.map Operand.const).length=fi.length:=NI
  refine(aHu O srcs I L hE ha (by simp at s;simp[j,q,s]) (a:=a) ?_).mono ?_
  ·rw[aBC (by simp at s;simp[j,s]),aBC l1];intro n h;simp only[Fe]at h;rcases h with(h|h)|h
   ·exact aBR NI (fun i hi=>by have :=U i hi;simpa[List.getD,FU]using this) n h
   ·exact z n (Gq _ h)
   exact aBR Qw (fun i hi=>by have :=Y i hi;simpa[List.getD,FU]using this) n h
  rintro e w' ⟨v,ok',H',rfl,h3,h4,h5,h6⟩;exact⟨v,ok',H',rfl,h3,h4,h5,h6⟩
def R.dfn {ok:Nat→Prop} {w:World} {H:List BN} {f:Fn} {fi ca:List D} {v:Value} (h:R ok w H (.d (.fn f fi ca)) v):R ok w H (.fn f (fi.map .d) (ca.map .d)) v:=by
 cases h with
 |d _ _ h=>
  cases h with
  |fn _ _ _ vs us n q s u=>
   refine .fn f _ _ vs us NQ Qw (fun i hi=>?_) (fun i hi=>?_)
   ·have j:i<fi.length:=Ey
    have m:(fi.map AV.d).getD i .junk=.d (fi.getD i Cb):=lg
    rw[m];exact .d _ _ (s i j)
   have j:i<ca.length:=Ey
   have m:(ca.map AV.d).getD i .junk=.d (ca.getD i Cb):=lg
   rw[m];exact .d _ _ (u i j)
def agW {f:FuncId} {x:Operand} {ops:Array Operand} {ats:Array TypeId} (srcs:List Cj) {fi ca:List D} {dH fG:List AV} {E E':List Au} {j:AV} (q:Aw P f fG E j E') (s:DC P f=true) (u:Oj srcs es E E'=true) (hE:jf srcs es E)
 (ha:Jh srcs (fi.map .d++dH++ca.map .d) fG) (z:ops.toList.length=dH.length) (I:o.op=.call { callee:=.value x,args:=ops,argTypes:=ats }):
 BQ P o ((x,.d (.fn (.func f) fi ca))::EM ops.toList dH) es (j.up srcs es.length) (Iq srcs es E'):=by
 intro C ok H a w Q J m;refine aIC (fi:=fi.map .d) (ca:=ca.map .d) srcs q s u hE ha z I C ok H a w Q J (fun n h=>?_);rcases Em.1 h with rfl|h
 ·exact R.dfn (m (x,.d (.fn (.func f) fi ca)) BG)
 exact m n (Gq _ h)
def PI (S:List Cj) (es:List Au):List Cj→List Au→Prop
 |s::srcs,e::E=>(match s with | .ent k=>es[k]? =some (e.up S es.length)| .nil sz=>∃t,e=.arr t sz [])∧PI S es srcs E
 | [],_=>True
 |_::_,[]=>False
def JA {S:List Cj} {es:List Au} {k:Nat} {e:Au} {srcs:List Cj} {E:List Au} (h:es[k]? =some (e.up S es.length)) (f:PI S es srcs E):PI S es (.ent k::srcs) (e::E):=⟨h,f⟩
def aJA {S:List Cj} {es:List Au}:∀{srcs:List Cj} {E:List Au},PI S es srcs E→∀(i:Nat) (s:Cj),srcs[i]? =some s→match s with | .ent k=>(E[i]?).map (Au.up S es.length)=es[k]? | .nil sz=>∃e,E[i]? =some (.arr e sz [])
 | [],_,_,i,s,f=>Qk
 |_::_,[],h,_,_,_=>h.elim
 |s::srcs,e::E,h,0,j,f=>by
  simp at f;subst f;have m:=h.1;cases s with
  |ent k=>simp only at m;simp[m]
  |nil sz=>obtain⟨t,rfl⟩:=m;exact⟨t,rfl⟩
 |s::srcs,e::E,h,i+1,j,f=>by
  have :=aJA h.2 i j L9;cases j with
  |ent k=>simpa using this
  |nil sz=>simpa using this
def aD4 {es:List Au} {srcs:List Cj} {E:List Au} (h:PI srcs es srcs E):jf srcs es E:=aJA h
def aJJ {f:FuncId} {ops:Array Operand} {ats:Array TypeId} (srcs:List Cj) {dH fG:List AV} {E E':List Au} {h res':AV} (j:Aw P f fG E h E') (m:DC P f=true) (n:Oj srcs es E E'=true) (hE:PI srcs es srcs E) (ha:Jh srcs dH fG) (q:ops.toList.length=dH.length)
 (s:res'=h.up srcs es.length) (u:o.op=.call { callee:=.value (.func f),args:=ops,argTypes:=ats }):BQ P o (EM ops.toList dH) es res' (Iq srcs es E'):=s▸aIW srcs j m n (aD4 hE) ha q u
def ags {f:FuncId} {x:Operand} {ops:Array Operand} {ats:Array TypeId} (srcs:List Cj) (fi ca:List AV) {dH fG:List AV} {E E':List Au} {h res':AV} (j:Aw P f fG E h E') (m:DC P f=true) (n:Oj srcs es E E'=true) (hE:PI srcs es srcs E)
 (ha:Jh srcs (fi++dH++ca) fG) (q:ops.toList.length=dH.length) (s:res'=h.up srcs es.length) (u:o.op=.call { callee:=.value x,args:=ops,argTypes:=ats }):
 BQ P o ((x,.fn (.func f) fi ca)::EM ops.toList dH) es res' (Iq srcs es E'):=s▸aIC srcs j m n (aD4 hE) ha q u
def aoK {f:FuncId} {x:Operand} {ops:Array Operand} {ats:Array TypeId} (srcs:List Cj) (fi ca:List D) {dH fG:List AV} {E E':List Au} {h res':AV} (j:Aw P f fG E h E') (m:DC P f=true) (n:Oj srcs es E E'=true) (hE:PI srcs es srcs E)
 (ha:Jh srcs (fi.map .d++dH++ca.map .d) fG) (q:ops.toList.length=dH.length) (s:res'=h.up srcs es.length) (u:o.op=.call { callee:=.value x,args:=ops,argTypes:=ats }):
 BQ P o ((x,.d (.fn (.func f) fi ca))::EM ops.toList dH) es res' (Iq srcs es E'):=s▸agW srcs j m n (aD4 hE) ha q u
end
structure Turns (v:Value) (w w':World):Prop where
 os:w'.os=w.os
 tape:w'.tape=w.tape
 output:w'.output=w.output
 size:w.heap.size≤w'.heap.size
 block:∀c,c<w.heap.size→CQ v≠some c→w'.heap[c]? =w.heap[c]?
def Turns.refl (v:Value) (w:World):Turns v w w:=⟨rfl,rfl,rfl,Dn _,fun _ _ _=>rfl⟩
def Turns.aov {g o n c:Nat} {s:Option Nat} {w w':World} (h:w.grownBy w' (some g)):Turns (.slice (some ⟨g,o,s⟩) n c) w w':=
 ⟨h.os,h.tape,h.output,h.size,fun k j f=>h.block k j (fun e=>f (by cases e;rfl))⟩
def Cm.ZQ {ok:Nat→Prop} {w:World} {u v:Value} (h:Cm ok w (.lit u) v):v=u:=by cases h;rfl
def aBb :∀(l:List Int),flat (l.map AP)=l.map fun n=>.d (AP n)
 | []=>rfl
 |n::l=>by rw[J5,SL,aBb l];rfl
def wL {ok:Nat→Prop} {w:World} {H:List BN} {h:BN} {e:TypeId} {l:List Int}:Dy ok w H h (.arr e 1 (List.map AP l))↔h.size=1∧kG w e 1 h.v l.length (l.map (.int .i64)):=by
 constructor
 ·rintro⟨m,_,xs,j,q,s⟩;refine⟨m,?_⟩;rw[CB]at j
  have :xs=l.map (.int .i64):=by
   rw[aBb]at q s;rw[CB]at q;refine jd (by simp[q]) fun i hi I=>?_;have f:i<l.length:=AA
   have u:=(s i L9).2;simp only[List.getD,Gt,DX f,GN,KF,DX hi]at u;cases u with |d _ _ h=>rw[Cm.ZQ h];simp
  rw[←this];exact j
 rintro⟨m,j⟩;refine⟨m,fun x z=>?_,l.map (.int .i64),by rw[CB];exact j,?_⟩
 ·obtain⟨n,_,rfl⟩:=FM.1 z;rfl
 rw[aBb];refine⟨BG,fun i hi=>?_⟩;have f:i<l.length:=Ey
 simp only[List.getD,Gt,DX f,GN,KF];exact⟨rfl,.d _ _ (.lit _)⟩
def aHS {f:Array Value} (h:f.size=1):f= #[f.getD 0 undef]:=by
 refine XE Ye fun i m j=>?_;simp at j;subst j;simp[Array.getD,h]
def Aw.aqH {P:Program} {f:FuncId} {e:TypeId} {l r:List Int}
 (h:∀(v:Value) (w:World),kG w e 1 v l.length (l.map (.int .i64))→Calls P f #[v] w fun x w'=>x=.returned (.tuple #[])∧kG w' e 1 v r.length (r.map (.int .i64))∧Turns v w w'):
 Aw P f [.aP 0] [.arr e 1 (List.map AP l)] (.dO []) [.arr e 1 (List.map AP r)]:=by
 intro ok X H w S s Y ha;have Z:=ha 0 BP;rw[aHS Y];obtain⟨hd,J,L⟩:=Et s.ent s.hlen (k:=0) rfl;obtain hv:=Me Z J;rw[hv];obtain⟨hz,M⟩:=wL.1 L;refine(h hd.v w M).mono ?_;rintro x w' ⟨rfl,u,q⟩;have m:=fun b z=>s.blk 0 _ hd b rfl rfl J z
 have hg:=s.change (ok':=ok) (H':=H) (w':=w') (es':=[.arr e 1 (List.map AP r)]) (fun c=>CQ hd.v=some c) q.os q.tape q.output q.size q.block (fun c U _=>⟨(m c U).1,(m c U).2.2⟩) (fun _ h=>h) (fun _ h=>.inl h) (.refl _) s.hlen (by
  intro k e' h' j I
  match k,j with
  |0,j=>
   simp at j;subst j;rw[J]at I;obtain rfl:=Bl I;refine .inr ⟨wL.2 ⟨hz,u⟩,fun _ b z=>⟨(m b z).1,U7 (m b z).2.1 q.size,(m b z).2.2,fun k' e'' h'' O n=>?_⟩⟩
   match k',n with
   |0,_=>exact absurd rfl O
   |k'+1,n=>simp at n
  |k+1,j=>simp at j)
 exact⟨_,ok,H,rfl,hg.1,.dO [] #[] rfl (fun i hi=>KP)⟩
def Aw.turned {P:Program} {f:FuncId} {e:TypeId} {l r:List Int}
 (h:∀(v:Value) (w:World),kG w e 1 v l.length (l.map (.int .i64))→Calls P f #[v] w fun x w'=>∃v',x=.returned v'∧kG w' e 1 v' r.length (r.map (.int .i64))∧Turns v w w'∧∀g,CQ v'=some g→CQ v=some g∨w.heap.size≤g):
 Aw P f [.aP 0] [.arr e 1 (List.map AP l)] (.aP 1) [.dead,.arr e 1 (List.map AP r)]:=by
 intro ok X H w I q M ha;have O:=ha 0 BP;rw[aHS M];obtain⟨hd,J,u⟩:=Et q.ent q.hlen (k:=0) rfl;obtain S:=Me O J;rw[S];obtain⟨Z,z⟩:=wL.1 u;refine(h hd.v w z).mono ?_;rintro x w' ⟨v',rfl,j,m,n⟩;have s:=q.turn (e:=.arr e 1 (List.map AP r)) (h':=⟨v',1⟩) (w':=w') (k:=0) rfl rfl J m.os m.tape m.output m.size m.block (fun g s=>⟨ku j s,n g s⟩) (fun _=>wL.2 ⟨rfl,j⟩);refine⟨v',ok,H++[⟨v',1⟩],rfl,s.1,?_⟩;have U:H.length=1:=q.hlen;have L:(H++[(⟨v',1⟩:BN)])[1]? =some ⟨v',1⟩:=by rw[←U];simp
 rcases j.2 with⟨rfl,_⟩|⟨g,cap,Y,rfl,_⟩
 ·exact .aP 1 _ _ _ 1 L
 exact .aP 1 _ _ _ 1 L
def Aw.plain {P:Program} {f:FuncId} {vs:List Value} {j:AV} {v:Value} (J:∀ok w H,R ok w H j v)
 (h:∀w,Calls P f vs.toArray w fun x w'=>x=.returned v∧Below w.heap.size w w'):Aw P f (vs.map fun u=>.d (.lit u)) [] j []:=by
 intro ok X H w m z L ha
 have e:m=vs.toArray:=by
  refine XE pU fun i M O=>?_;have n:i<vs.length:=sW
  have I:=ha i NQ;simp only[List.getD,Gt,DX n,GN,KF]at I;cases I with |d _ _ h=>have :=Cm.ZQ h;simpa[Array.getD,M]using this
 rw[e];refine(h w).mono ?_;rintro x w' ⟨rfl,q⟩
 have S:=z.change (ok':=ok) (H':=H) (w':=w') (es':=[]) (fun _=>False) q.os q.tape q.output q.size (fun c U _=>q.block c U) (fun _ h=>h.elim) (fun _ h=>h) (fun _ h=>.inl h) (.refl _) z.hlen (by
  intro k e' h' s Y
  simp at s)
 exact⟨v,ok,H,rfl,S.1,J _ _ _⟩
def Chain.am6 {P:Program} {ops:Array Oper} {l J:List Oper} {σ σ':Ai} (h:Chain P ops l σ σ') {ro:Option Nat} {C:DZ} {H0:List BN} {Q:Exit→Act→World→Prop}:
 ∀{ok:Nat→Prop} {H:List BN} {a:Act} {w:World},Holds C ok H σ a w→Names H0 H→(∀ok' H' a' w',Holds C ok' H' σ' a' w'→Names H0 H'→wpListIn (Gg ro) 0 P ops Q J a' w')→wpListIn (Gg ro) 0 P ops Q (l++J) a w:=by
 induction h with
 |nil σ=>intro ok H a w f L q;exact q ok H a w f L
 | @op o rest σ σ' ns x d M L z hd k I=>
   intro ok H a w f j q;subst hd;rw[WZ];unfold wpListIn;rw[CG (NS f z)];refine Nr ?_ (M.WW ro C ok H a w Q f.mem (fun n s=>MR L n s▸f.get n.1));rintro a' w' ⟨v,ok',H',rfl,u,m,O,S⟩;exact I (f.put o.dst u m O S) (j.trans m) q
 | @oe o rest σ σ' ns x es' d E M Z L z hd k I=>
   intro ok H a w f j q;subst hd;subst Z;rw[WZ];unfold wpListIn;rw[CG (NS f z)];refine Nr ?_ (M.WW ro C ok H a w Q f.mem (fun n s=>MR L n s▸f.get n.1));rintro a' w' ⟨v,ok',H',rfl,u,m,O,S⟩;exact I (f.put o.dst u m O S) (j.trans m) q
 | @skip o rest σ σ' d z hd k I=>
   intro ok H a w f j q;subst hd;rw[WZ];unfold wpListIn;rw[CV Yx];exact⟨fun _ _=>trivial,I (f.put o.dst (.refl _ _) (.refl _) f.mem (.d _ _ (.lit _))) j q⟩
 | @any o rest σ σ' x d U hd k I=>
   intro ok H a w f j q;subst hd;rw[WZ];unfold wpListIn;rcases U.1 with⟨ns,M,L,_,z⟩|⟨rfl,_,z⟩
   ·rw[CG (NS f z)];refine Nr ?_ (M.WW ro C ok H a w Q f.mem (fun n s=>MR L n s▸f.get n.1));rintro a' w' ⟨v,ok',H',rfl,u,m,O,S⟩;exact I (f.put o.dst u m O S) (j.trans m) q
   rw[CV Yx];exact⟨fun _ _=>trivial,I (f.put o.dst (.refl _ _) (.refl _) f.mem (.d _ _ (.lit _))) j q⟩
 | @Ya o rest σ σ' x E bar d U hd k I=>
   intro ok H a w f j q;subst hd;rw[WZ];unfold wpListIn;rcases U.1 with⟨ns,M,L,_,z⟩|⟨rfl,rfl,z⟩
   ·rw[CG (NS f z)];refine Nr ?_ (M.WW ro C ok H a w Q f.mem (fun n s=>MR L n s▸f.get n.1));rintro a' w' ⟨v,ok',H',rfl,u,m,O,S⟩;exact I (f.put o.dst u m O S) (j.trans m) q
   rw[CV Yx];exact⟨fun _ _=>trivial,I (f.put o.dst (.refl _ _) (.refl _) f.mem (.d _ _ (.lit _))) j q⟩
 |conv σ2 hc k I=>
  intro ok H a w f j q;obtain⟨ok',Y⟩:=hc C ok H a w f;exact I Y j q
def AB.alr {P:Program} {σ s:Ai} {Q:Exit→Ai→Prop} {id:Nat} {ops:Array Oper} {q:Oper} {x:Operand} {t t' e d:Nat} {es:List D} (k:Nat) (f:ops.toList.drop k=[q]) (h:Chain P ops (ops.toList.take k) σ s)
 (J:q.op=.binOp .eql t x (.const (.slice none 0 0)) t') (hd:q.dst=some d) (L:q.guard=none) (M:P.underlying t=some (.slice e)) (O:s.get x=.d (.sl es)) (S:∀b,(es≠[]→b=false)→Q .normal (s.oG (some d) (.d (.lit (.bool b))))):AB P (.region id ops false) σ Q:=by
 refine⟨fun ro _ C ok H a w U=>az4 ?_⟩;rw[←iT k ops.toList,f];refine h.am6 U (.refl H) fun ok' H' a' w' u _=>?_;have m:=O▸u.get x
 obtain⟨b,Y,Z⟩:∃b,(es≠[]→b=false)∧(execOp a'.eval q).run P w'=.ok (.value (.bool b)) w':=by
  cases m with
  |d _ _ m=>
   generalize j:a'.eval x=v at m
   have key:∀(ad:Option Addr) (n c:Nat),v=.slice ad n c→(execOp a'.eval q).run P w'=.ok (.value (.bool ad.isNone)) w':=fun ad n c z=>by
    have I:(eqGuard .eql t x (.const (.slice none 0 0)) (.slice ad n c) (.slice none 0 0)).run P w'=.ok () w':=by simp[eqGuard]
    have e0:a'.eval (.const (.slice none 0 0))=.slice none 0 0:=rfl;rw[z]at j;simp only[execOp,J,j,e0,ER,I,EX,Lib.run_eql_slice_nil w' t e ad n c 0 0 M,Ep]
   cases m with
   |sl0 ad cap=>exact⟨ad.isNone,fun h=>absurd rfl h,key _ _ _ rfl⟩
   |sl es b off cap size=>exact⟨false,fun _=>rfl,key _ _ _ rfl⟩
 unfold wpListIn;rw[CG (by unfold Region.wanted;rw[L])];unfold Oper.wpIn;rw[Zr _ _ _ (by rw[J];intro c h;cases h),Z,Oper.uponIn_value];refine⟨fun _ _=>trivial,?_⟩;unfold wpListIn;exact⟨ok',H',_,by rw[hd];exact u.put (some d) (.refl _ _) (.refl _) u.mem (.d _ _ (.lit _)),S b Y⟩
def jo {P:Program} {σ j:Ai} {Q:Exit→Ai→Prop} {id:Nat} {ops:Array Oper} {y:Code} {q:Oper} {x:Operand} {t t' e d:Nat} {es:List D} (k:Nat) (f:ops.toList.drop k=[q]) (h:Chain P ops (ops.toList.take k) σ j)
 (n:q.op=.binOp .eql t x (.const (.slice none 0 0)) t') (hd:q.dst=some d) (u:q.guard=none) (z:P.underlying t=some (.slice e)) (I:j.get x=.d (.sl es)) (J:∀b,(es≠[]→b=false)→AB P y (j.oG (some d) (.d (.lit (.bool b)))) Q):AB P (.seq (.region id ops false) y) σ Q:=
 AB.seq (fun s=>∃b,(es≠[]→b=false)∧s=j.oG (some d) (.d (.lit (.bool b)))) (AB.alr k f h n hd u z I fun b m=>⟨b,m,rfl⟩) (by rintro _ ⟨b,m,rfl⟩;exact J b m)
def kU {α:Type} {l:List α} {e:α→D} (h:List.map e l≠[]→true=false):l=[]:=by
 cases l with
 |nil=>rfl
 |cons a l=>exact absurd (h BG) BP
def aat {α:Type} {p:Nat→α→Prop}:∀n,(∀i,i<n→∃x,p i x)→∃l:List α,l.length=n∧∀i (h:i<l.length),p i l[i]
 |0,_=>⟨[],rfl,fun i h=>Fq⟩
 |n+1,h=>by
  obtain⟨l,f,j⟩:=aat n (fun i hi=>h i AA);obtain⟨x,m⟩:=h n AA;refine⟨l++[x],U0,fun i hi=>?_⟩;simp at hi;by_cases e:i<l.length
  ·rw[List.getElem_append_left e];exact j i e
  have :i=n:=AA
  subst this;rw[List.getElem_append_right AA];simpa[f]using m
def pieces :List Nat→Nat→List Value→List Value
 | [],_,_=>[]
 |n::r,o,cs=>(cs.drop o).take n++pieces r (o+n) cs
def pieces_eq :∀(ns:List Nat) (o:Nat) (cs:List Value),cs.length=o+ns.sum→pieces ns o cs=cs.drop o
 | [],o,cs,h=>by simp at h;simp[pieces,h]
 |n::r,o,cs,h=>by
  simp only[List.sum_cons]at h;unfold pieces;rw[pieces_eq r (o+n) cs AA,←aEm,iT]
def Dj (w:World) (f:List D) (cs:List Value):Prop:=cs.length=f.length∧∀j,j<f.length→(f.getD j Cb).leaf=true∧Cm (fun b=>b<w.heap.size) w (f.getD j Cb) (cs.getD j undef)
def Dj.nil (w:World):Dj w [] []:=⟨rfl,fun j h=>Fq⟩
def Dj.append {w:World} {f es:List D} {cs us:List Value} (h:Dj w f cs) (k:Dj w es us):Dj w (f++es) (cs++us):=by
 refine⟨by simp[h.1,k.1],fun j s=>?_⟩;by_cases e:j<f.length
 ·have m:(f++es).getD j Cb=f.getD j Cb:=aGb
  have n:(cs++us).getD j undef=cs.getD j undef:=by simp[List.getD,FD (show j<cs.length by rw[h.1];exact e)]
  rw[m,n];exact h.2 j e
 have q:j-f.length<es.length:=PG
 have m:(f++es).getD j Cb=es.getD (j-f.length) Cb:=by simp[List.getD,Ho (RZ e)]
 have n:(cs++us).getD j undef=us.getD (j-f.length) undef:=by
  have u:=h.1;simp only[List.getD,Ho (show cs.length≤j by omega),u]
 rw[m,n];exact k.2 _ q
section
variable {H : Type} {enc : TypeId × Value → H} {w : World} {base : Nat} {spare : Nat → Bool} {held : Bool} {P : Program} {t : TypeId}
def Oz {α:Type} (enc:TypeId×Value→H) (P:Program) (w:World) (base:Nat) (spare:Nat→Bool) (held:Bool) (t:TypeId) (e:α→D) (V:α→Prop):Prop:=
 ∀Ar cs x,DataW.trod enc P w base spare held Ar t cs=some x→∃a:α,V a∧Dj w (e a).cells cs
def Dj.one {w:World} {x:D} {v:Value} (f:x.cells=[x]) (m:x.leaf=true) (h:Cm (fun b=>b<w.heap.size) w x v):Dj w x.cells [v]:=by
 rw[f];refine⟨rfl,fun j n=>?_⟩
 match j,n with
 |0,_=>exact⟨m,h⟩
def YE {α:Type} {e:TypeId} {sz:Nat} {O:α→D} {V:α→Prop} (ht:P.underlying t=some (.slice e)) (hc:P.cellsOf e=sz) (U:0<sz) (hsz:∀a,(O a).cells.length=sz) (hR:Oz enc P w base spare held e O V):
 Oz enc P w base spare held t (Af O) (fun l=>l.length≤maxLen∧∀x∈l,V x):=by
 intro Ar cs x h;rcases Go.Deep.open_slice ht h with⟨rfl, -⟩|⟨a,len,cap,m,n,D,Pl,rfl, -,hl,hm,hmm, -,hx⟩
 ·exact⟨[],⟨Dx _,fun x h=>Fq⟩,.one rfl rfl (.sl0 none 0)⟩
 have hlm:len≤m:=by rw[hmm];split<;>omega
 rw[hc]at hx
 have hex:∀i,i<len→∃y:α,V y∧∃q:List Value,w.cells? base (a.add (i*sz)) sz=some q∧Dj w (O y).cells q:=by
  intro i hi;obtain⟨q,S,h2⟩:=hx i AA;obtain⟨y,h3,z⟩:=hR _ _ _ h2;exact⟨y,h3,q,S,z⟩
 obtain⟨l,hlen,Y⟩:=aat len hex;subst hlen;refine⟨l,⟨AA,fun x hx=>?_⟩,?_⟩
 ·obtain⟨i,hi,rfl⟩:=Gv hx;exact(Y i hi).1
 rcases Xr l.length with h0|hlp
 ·have :l=[]:=Fj h0;subst this;exact .one rfl rfl (.sl0 _ _)
 have f:∀i,(hi:i<l.length)→∀j,j<sz→∃u,w.cell? ((a.add (i*sz)).add j)=some u∧((O l[i]).cells.getD j Cb).leaf=true∧Cm (fun b=>b<w.heap.size) w ((O l[i]).cells.getD j Cb) u:=by
  intro i hi j Z;obtain⟨-,q,S,h2⟩:=Y i hi;obtain⟨-,h6,h5⟩:=World.cells?_some S;have hcl:q.length=sz:=by rw[h2.1,hsz]
  have h7:=h5 j Z;rw[DX AA]at h7;refine⟨_,h7,?_⟩;have h8:=h2.2 j (by rw[hsz];exact Z);simpa[List.getD,show j<q.length by omega]using h8
 have J:a.spot=none:=by
  obtain⟨u,z, -⟩:=f 0 hlp 0 U;have e0:(a.add (0*sz)).add 0=a:=by simp[Addr.add]
  rw[e0]at z;unfold World.cell? at z;cases hsp:a.spot with
  |none=>rfl
  |some s=>
   rw[hsp]at z;cases hh:w.heap[a.block]? with
   |none=>rw[hh]at z;simp at z
   |some o=>rw[hh]at z;cases o<;>simp at z
 have hblk:a.block<w.heap.size:=by
  obtain⟨u,z, -⟩:=f 0 hlp 0 U;have e0:(a.add (0*sz)).add 0=a:=by simp[Addr.add]
  rw[e0]at z;unfold World.cell? at z;apply UQ;intro hn;rw[Array.getElem?_eq_none (RZ hn)]at z;simp at z
 obtain⟨b,o,s⟩:=a;simp only at J hblk;subst J;have I:(List.map O l).length=l.length:=CB _;have L:∀i,(hi:i<l.length)→(List.map O l).getD i Cb=O l[i]:=fun i hi=>Jc
 have M:∀i j,((⟨b,o,none⟩:Addr).add (i*sz)).add j=⟨b,o+(i*sz+j),none⟩:=fun i j=>by simp only[Addr.add];split<;>split<;>simp_all<;>omega
 refine .one rfl rfl ?_
 have :=Cm.sl (ok:=fun b=>b<w.heap.size) (w:=w) (List.map O l) b o cap sz (by rw[I];exact hl) (fun _ _=>hblk) (fun i hi=>by rw[I]at hi;rw[L i hi];exact hsz _)
  (fun i hi j Z=>by rw[I]at hi;obtain⟨u,_,h2,_⟩:=f i hi j Z;rw[L i hi];exact h2)
  (fun i hi j Z=>by rw[I]at hi;obtain⟨u,S,_,_⟩:=f i hi j Z;rw[M]at S;rw[S];rfl)
  (fun i hi j Z=>by rw[I]at hi;obtain⟨u,S,_,h3⟩:=f i hi j Z;rw[M]at S;rw[L i hi];unfold cellAt;rw[S];exact h3)
 rw[I]at this;exact this
def IW {k:IntKind} (f:P.underlying t=some (.int k)):Oz enc P w base spare held t (fun n=>D.lit (.int k n)) (fun n:Int=>k.min≤n∧n≤k.max):=by
 intro Ar cs x h;obtain⟨n,rfl, -,j⟩:=DataW.trod_int f h;exact⟨n,by simpa[Lit.wf]using j,.one rfl rfl (.lit _)⟩
def Sm (f:P.underlying t=some .string):Oz enc P w base spare held t DT (fun s=>s.size≤maxLen):=by
 intro Ar cs x h;obtain⟨n,rfl, -,j⟩:=DataW.trod_string f h;exact⟨n,j,.one rfl rfl (.lit _)⟩
def adK (f:P.underlying t=some .bool):Oz enc P w base spare held t CM (fun _=>True):=by
 intro Ar cs x h;obtain⟨n,rfl, -⟩:=DataW.trod_bool f h;exact⟨n,trivial,.one rfl rfl (.lit _)⟩
def F5 {α:Type} {s:Array Field} {Ar:Nat} {cs:List Value} {x:DataW H×List MemPlace} (J:P.underlying t=some (.struct s)) (h:DataW.trod enc P w base spare held Ar t cs=some x) (i:Nat) (u o n:Nat) (m:(s[i]?).map (fun f=>(f.type,f.offset,P.cellsOf f.type))=some (u,o,n))
 {z:α→D} {V:α→Prop} (L:Oz enc P w base spare held u z V):∃a:α,V a∧Dj w (z a).cells ((cs.drop o).take n):=by
 obtain⟨xs,k, -, -, -,hlen,q⟩:=DataW.trod_struct J h;cases j:s[i]? with
 |none=>rw[j]at m;simp at m
 |some f=>
  rw[j]at m;simp only[GN,Io,Q5]at m;obtain⟨rfl,rfl,rfl⟩:=m;have I:=q i f j;have hi:i<s.size:=(Ei.1 j).1;rw[DX AA]at I;exact L _ _ _ I
def YQ {f:Array Field} {Ar:Nat} {cs:List Value} {x:DataW H×List MemPlace} (j:P.underlying t=some (.struct f)) (h:DataW.trod enc P w base spare held Ar t cs=some x) (n:Nat) (m:P.cellsOf t=n):cs.length=n:=by
 obtain⟨xs,k, -, -,hlen, -⟩:=DataW.trod_struct j h;rw[hlen,m]
def ZT {cs:List Value} {f:List D} (ns:List Nat) (j:cs.length=ns.sum) (h:Dj w f (pieces ns 0 cs)):Dj w f cs:=by
 rw[pieces_eq ns 0 cs AA]at h;simpa using h
end
def arG {w:World} {x:D} {v:Value} (f:x.cells=[x]) (j:v.cells= #[v]) (h:Dj w x.cells v.cells.toList):Cm (fun b=>b<w.heap.size) w x v:=by
 rw[f,j]at h;exact(h.2 0 BG).2
def Aw.start {P:Program} {f:FuncId} {xs:List D} {j:Array Value} {W:World} {x:D} (h:Aw P f (xs.map .d) [] (.d x) []) (s:j.size=xs.length) (ha:∀i,i<xs.length→Cm (fun b=>b<W.heap.size) W (xs.getD i Cb) (j.getD i undef)):
 Calls P f j W fun e W'=>∃v ok,e=.returned v∧Cm ok W' x v∧Below W.heap.size W W':=by
 refine(h (fun b=>b<W.heap.size) [] [] W j ⟨.refl _ _,fun _ h=>h,fun _ h=>.inl h,fun _ h=>h,.refl _,rfl,fun k e h m=>by simp at m,fun k e h b m=>by simp at m,fun k k' e e' h h' b m=>by simp at m⟩ MS (fun i hi=>?_)).mono ?_
 ·have n:i<xs.length:=Ey
  have :(xs.map AV.d).getD i .junk=.d (xs.getD i Cb):=by simp[List.getD,n]
  rw[this];exact .d _ _ (ha i n)
 rintro e W' ⟨v,ok',H',rfl,u,q⟩;cases q with
 |d _ _ q=>exact⟨v,ok',rfl,q,u.fr.below⟩
def Aw.law {P:Program} {f:FuncId} {xs:List D} {j:Array Value} {W:World} (h:Aw P f (xs.map .d) [] (.d (CM true)) []) (m:j.size=xs.length) (ha:∀i,i<xs.length→Cm (fun b=>b<W.heap.size) W (xs.getD i Cb) (j.getD i undef)):
 Calls P f j W fun e W'=>e=.returned (.bool true)∧Below W.heap.size W W':=by
 refine(h.start m ha).mono ?_;rintro e W' ⟨v,ok,rfl,n,q⟩;exact⟨by rw[Cm.ZQ n],q⟩
end Go.Proofs.YtolgdkhlelfpoaaGreat
end
section
namespace Go.Proofs.YtolgdkhlelfpoaaGreat
def Dv (l:List Int) (x:Int):Bool:=l.contains x
def KA {l:List Int} {x:Int}:Dv l x=true↔x∈l:=by unfold Dv;simp
def Pq {l:List Int} {x:Int}:Dv l x=false↔x∉l:=by unfold Dv;simp
def put (l:List Int) (x:Int):List Int:=if Dv l x then l else l.takeWhile (decide<| · <x)++x::l.dropWhile (decide<| · <x)
def El (l:List Int):List Int:=l.foldl put []
def Gh (a b:List Int):List Int:=b.foldl put (El a)
def Ql (a b:List Int):List Int:=(El a).filter (fun x=> !Dv b x)
abbrev Inc (l:List Int):Prop:=l.Pairwise (· < ·)
def ajA {l:List Int} {x:Int}:∀y∈l.takeWhile (decide<| · <x),y<x:=by
 intro y f;have :=List.all_takeWhile (l:=l) (p:=(decide<| · <x));rw[DV]at this;simpa using this y f
def aHD :∀{l:List Int} {x:Int},Inc l→∀y∈l.dropWhile (decide<| · <x),x≤y
 | [],x,_,y,f=>Qk
 |a::l,x,h,y,f=>by
  have h':=Ns.1 h;by_cases ha:a<x
  ·rw[aIz (by simpa using ha)]at f;exact aHD h'.2 y f
  rw[aIK (by simpa using ha)]at f;rcases Em.1 f with rfl|f
  ·omega
  have :=h'.1 y f;omega
def aaE {l:List Int} {x y:Int}:y∈put l x↔y∈l∨y=x:=by
 unfold put;split
 ·rename_i h;have f:x∈l:=KA.1 h;constructor
  ·exact .inl
  rintro(h|rfl)
  ·exact h
  exact f
 have e:l.takeWhile (decide<| · <x)++l.dropWhile (decide<| · <x)=l:=je
 have :y∈l↔y∈l.takeWhile (decide<| · <x)∨y∈l.dropWhile (decide<| · <x):=by
  conv=>lhs;rw[←e]
  exact Fe
 rw[this,Fe,Em];constructor
 ·rintro(h|h|h)
  ·exact .inl (.inl h)
  ·exact .inr h
  exact .inl (.inr h)
 rintro((h|h)|h)
 ·exact .inl h
 ·exact .inr (.inr h)
 exact .inr (.inl h)
def ae8 {l:List Int} {x:Int} (h:Inc l):Inc (put l x):=by
 unfold put;split
 ·exact h
 rename_i q;have f:x∉l:=fun h=>q (KA.2 h)
 have hd:∀y∈l.dropWhile (decide<| · <x),x<y:=by
  intro y m;have n:=aHD h y m;have s:y∈l:=(aGM _).mem m;have :y≠x:=fun e=>f (e▸s);omega
 refine aJ.2 ⟨h.sublist (List.takeWhile_sublist _),Ns.2 ⟨hd,h.sublist (aGM _)⟩,?_⟩;intro a ha b j;have n:=ajA a ha;rcases Em.1 j with rfl|j
 ·exact n
 have :=hd b j;omega
def aod {l:List Int}:∀{f:List Int} {y:Int},y∈l.foldl put f↔y∈f∨y∈l:=by
 induction l with
 |nil=>intro f y;simp
 |cons a l h=>intro f y;rw[GI,h,aaE,Em,or_assoc]
def ao1 {l:List Int}:∀{f:List Int},Inc f→Inc (l.foldl put f):=by
 induction l with
 |nil=>intro f h;exact h
 |cons a l j=>intro f h;exact j (ae8 h)
def KN {l:List Int} {y:Int}:y∈El l↔y∈l:=by unfold El;rw[aod];simp
def LH (l:List Int):Inc (El l):=ao1 List.Pairwise.nil
def ML :∀{a b:List Int},Inc a→Inc b→(∀x,x∈a↔x∈b)→a=b
 | [],[],_,_,_=>rfl
 | [],b::bs,_,_,h=>by have :=(h b).2 BG;simp at this
 |a::avx,[],_,_,h=>by have :=(h a).1 BG;simp at this
 |a::avx,b::bs,ha,s,h=>by
  have j:=Ns.1 ha;have m:=Ns.1 s
  have e:a=b:=by
   rcases Em.1 ((h a).1 BG)with f|f
   ·exact f
   rcases Em.1 ((h b).2 BG)with n|n
   ·exact n.symm
   have :=j.1 b n;have :=m.1 a f;omega
  subst e;congr 1;refine ML j.2 m.2 fun x=>?_;have q:=h x;rw[Em,Em]at q;constructor
  ·intro f;rcases q.1 (.inr f)with rfl|n
   ·exact absurd (j.1 x f) AA
   exact n
  intro f;rcases q.2 (.inr f)with rfl|n
  ·exact absurd (m.1 x f) AA
  exact n
def eM (a b:List Int):Gh a b=El (a++b):=by unfold Gh El;rw[cZ]
def VB {a b:List Int} {x:Int}:x∈Gh a b↔x∈a∨x∈b:=by rw[eM,KN,Fe]
def rE (a b:List Int):Inc (Gh a b):=by rw[eM];exact LH _
def aie {a b:List Int} {x:Int}:x∈Ql a b↔x∈a∧x∉b:=by unfold Ql;rw[Fl,KN];simp[Dv]
def at6 (a b:List Int):Inc (Ql a b):=(LH a).sublist Qy
def anH (f:List Int):∀m,m≤f.length→∀x,x∈Lib.compactUpTo f.toArray m↔x∈f.take m:=by
 intro m
 induction m with
 |zero=>intro _ x;simp[Lib.compactUpTo]
 |succ m q=>
  intro I x;rw[Lib.compactUpTo_succ,Fe,q AA,Xl AA,Fe];have s:f.toArray[m]! =f[m]' AA:=by simp[show m<f.length by omega]
  by_cases n:Lib.keeps f.toArray m=true
  ·rw[CG n,s]
  rw[CV n];have j:Lib.keeps f.toArray m=false:=NQ
  have u:m≠0:=by intro e;subst e;simp[Lib.keeps]at j
  have z:f[m]' AA=f[m-1]' AA:=by
   simp[Lib.keeps,u]at j;simpa[show m<f.length by omega,show m-1<f.length by omega]using j
  constructor
  ·intro h;rcases h with h|h
   ·exact .inl h
   simp at h
  rintro(h|h)
  ·exact .inl h
  refine .inl ?_;simp at h;subst h;rw[z];rw[aaG];exact⟨m-1,AA,rfl⟩
def ak0 (f:List Int) (z:f.Pairwise (· ≤ ·)):∀m,m≤f.length→Inc (Lib.compactUpTo f.toArray m)∧∀x∈Lib.compactUpTo f.toArray m,∃i,∃_:i<m,∃n:i<f.length,x=f[i]:=by
 intro m
 induction m with
 |zero=>intro _;refine⟨by simp[Lib.compactUpTo],fun x h=>by simp[Lib.compactUpTo]at h⟩
 |succ m L=>
  intro U;obtain⟨I,n⟩:=L AA;have M:f.toArray[m]! =f[m]' AA:=by simp[show m<f.length by omega]
  rw[Lib.compactUpTo_succ];by_cases q:Lib.keeps f.toArray m=true
  ·rw[CG q,M];refine⟨aJ.2 ⟨I,BG,?_⟩,?_⟩
   ·intro a ha b J;simp at J;subst J;obtain⟨i,hi,O,rfl⟩:=n a ha
    have s:∀j,(S:j<m)→f[j]' AA≤f[m-1]' AA:=by
     intro j S;by_cases e:j=m-1
     ·subst e;omega
     exact Jt.1 z j (m-1) AA AA AA
    have Y:=s i hi;have Z:=Jt.1 z (m-1) m AA AA AA
    have h5:f[m]' AA≠f[m-1]' AA:=by
     have u:m≠0:=AA
     simp[Lib.keeps,u]at q;simpa[show m<f.length by omega,show m-1<f.length by omega]using q
    omega
   intro x h;rcases Fe.1 h with h|h
   ·obtain⟨i,a,b,c⟩:=n x h;exact⟨i,AA,b,c⟩
   simp at h;exact⟨m,AA,AA,h⟩
  rw[CV q,QW];refine⟨I,fun x h=>?_⟩;obtain⟨i,a,b,c⟩:=n x h;exact⟨i,AA,b,c⟩
def aC0 (l:List Int):Lib.compact (l.mergeSort fun x y=>decide (x≤y))=El l:=by
 have f:(l.mergeSort fun x y=>decide (x≤y)).Pairwise (· ≤ ·):=by
  have :=List.pairwise_mergeSort (le:=fun x y:Int=>decide (x≤y)) (by intro a b c;simp;omega) (by intro a b;simp;omega) l;exact this.imp (by intro a b h;simpa using h)
 refine ML (ak0 _ f _ (Dn _)).1 (LH l) fun x=>?_;rw[KN];unfold Lib.compact;rw[anH _ _ (Dn _),Hy];exact List.mem_mergeSort
def gW {R:Type} (o:Option R) (Q:R→Prop):Prop:=∃r,o=some r∧Q r
section
variable {R A B α : Type} {Q : R → Prop}
def gW.ret {r:R} (h:Q r):gW (some r) Q:=⟨r,rfl,h⟩
def gW.bind {o:Option A} {f:A→Option R} {P:A→Prop} (h:gW o P) (k:∀x,P x→gW (f x) Q):gW (o.bind f) Q:=by
 obtain⟨x,rfl,j⟩:=h;exact k x j
def gW.mono {o:Option R} {P:R→Prop} (h:gW o P) (k:∀r,P r→Q r):gW o Q:=by
 obtain⟨x,rfl,f⟩:=h;exact⟨x,rfl,k x f⟩
def gW.bif {b:Bool} {x y:Option R} (f:b=true→gW x Q) (h:b=false→gW y Q):gW (bif b then x else y) Q:=by
 cases b with
 |true=>exact f rfl
 |false=>exact h rfl
def gW.eq {o:Option R} {r:R} (h:gW o (· =r)):o=some r:=by obtain⟨x,rfl,rfl⟩:=h;rfl
def gW.of {o:Option R} {r:R} (h:o=some r):gW o (· =r):=⟨r,h,rfl⟩
def rX (l:List α) (i:Nat):BF l (i:Int)=l[i]? :=by unfold BF;rw[CG (aDz i)];simp
def D9 {l:List α} {i:Nat} (h:i<l.length):BF l (i:Int)=some l[i]:=by rw[rX];simp[h]
def ET {b:Nat} {l m:List α} (h:(l.length+m.length)*b≤140737488355328):Ci b l m=some (l++m):=by unfold Ci;rw[CG h]
def yc {l:List α} {lo hi:Nat} (f:lo≤hi) (h:hi≤l.length):KY l (lo:Int) (hi:Int)=some ((l.drop lo).take (hi-lo)):=by
 unfold KY;rw[CG ⟨AA,AA,AA⟩];simp
def wrap_succ (i:Nat) (h:i<9223372036854775807):BD ((i:Int)+1)=((i+1:Nat):Int):=by
 rw[bf];omega
def Nl {x:Int} (f: -9223372036854775808≤x) (h:x≤9223372036854775807):BD x=x:=by
 rw[bf];omega
def af5 {body:(A→Option R)→A→Option R} (I:Nat→A→Prop) (q:∀m a k,I m a→(∀f a',f<m→I f a'→gW (k a') Q)→gW (body k a) Q):
 ∀n m a,m<n→I m a→gW (bF body n a) Q
 |0,m,a,h,_=>AA
 |n+1,m,a,h,hi=>q m a _ hi fun f a' h' j=>af5 I q n f a' AA j
def Xf {body:(A→B→Option R)→A→B→Option R} (I:Nat→A→B→Prop) (s:∀m a b k,I m a b→(∀f a' j,f<m→I f a' j→gW (k a' j) Q)→gW (body k a b) Q):
 ∀n m a b,m<n→I m a b→gW (aX body n a b) Q
 |0,m,a,b,h,_=>AA
 |n+1,m,a,b,h,hi=>s m a b _ hi fun f a' j h' q=>Xf I s n f a' j AA q
def ae7 {body:(Int→Option R)→Int→Option R} (N:Nat) (f:N<Ar) (I:Nat→Prop) (j:I 0)
 (n:∀i k,i<N→I i→(I (i+1)→gW (k ((i+1:Nat):Int)) Q)→gW (body k (i:Int)) Q) (q:∀k,I N→gW (body k (N:Int)) Q):gW (bF body Ar 0) Q:=by
 refine af5 (body:=body) (Q:=Q) (fun m a=>∃i:Nat,a=i∧i+m=N∧I i) ?_ Ar N 0 f ⟨0,rfl,AA,j⟩;rintro m a k ⟨i,rfl,u,hi⟩ s;by_cases e:i<N
 ·exact n i k e hi fun h=>s (m-1) _ AA ⟨i+1,rfl,AA,h⟩
 have :i=N:=AA
 subst this;exact q k hi
def Vr {body:(A→Int→Option R)→A→Int→Option R} (N:Nat) (f:N<Ar) (I:Nat→A→Prop) {a0:A} (j:I 0 a0)
 (n:∀i a k,i<N→I i a→(∀a',I (i+1) a'→gW (k a' ((i+1:Nat):Int)) Q)→gW (body k a (i:Int)) Q) (q:∀a k,I N a→gW (body k a (N:Int)) Q):gW (aX body Ar a0 0) Q:=by
 refine Xf (body:=body) (Q:=Q) (fun m a b=>∃i:Nat,b=i∧i+m=N∧I i a) ?_ Ar N a0 0 f ⟨0,rfl,AA,j⟩;rintro m a b k ⟨i,rfl,u,hi⟩ s;by_cases e:i<N
 ·exact n i a k e hi fun a' h=>s (m-1) _ _ AA ⟨i+1,rfl,AA,h⟩
 have :i=N:=AA
 subst this;exact q a k hi
end
end Go.Proofs.YtolgdkhlelfpoaaGreat
end
section
namespace Go.Proofs
open Go.Proofs.YtolgdkhlelfpoaaGreat
open Go.Shelf
def Tryz.ajD:Go.Shelf.Ren:=⟨fun |137=>171|217=>234|266=>308|n=>n,fun |9=>9|5=>5|3=>3|n=>n,fun |n=>n⟩
def Tryz.lays137:Go.Proofs.Lays.n137 Tryz.prog Tryz.ajD:={
 mixed:=A8
 f137:=Tryz.func171.trans (BX some A8)
 f217:=Tryz.func234.trans (BX some A8)
 f266:=Tryz.func308.trans (BX some A8)
 t3:=Gp
 a3:=XK
 z3:=Y3
 v3:=Wq
 t5:=ng
 a5:=fV
 z5:=dK
 v5:=eI
 t9:=MV
 a9:=jG
 z9:=dA
 v9:=dP }
open Go.RowKit in
def Tryz.strings_IndexByte (s:ByteArray) (c:Int) (w:World):
 Calls Tryz.prog 171 #[.string s,.int .u8 c] w fun e w'=>e=.returned (.int .i64 (Lib.indexByte s.data.toList c.toNat.toUInt8))∧w'=w:=Any.strings_IndexByte Tryz.lays137 s c w
def Tryz.ajE:Go.Shelf.Ren:=⟨fun |215=>261|n=>n,fun |3=>3|4=>4|n=>n,fun |n=>n⟩
def Tryz.lays215:Go.Proofs.Lays.n215 Tryz.prog Tryz.ajE:={
 mixed:=A8
 f215:=Tryz.func261.trans (BX some A8)
 t3:=Gp
 a3:=XK
 z3:=Y3
 v3:=Wq
 t4:=TY
 a4:=Z4
 z4:=aV
 v4:=aC }
open Go.RowKit in
def Tryz.cmp_isNaN_int (x:Int) (w:World):
 Calls Tryz.prog 261 #[.int .i64 x] w fun e w'=>e=.returned (.bool false)∧w'=w:=Any.cmp_isNaN_int Tryz.lays215 x w
def Tryz.ajF:Go.Shelf.Ren:=⟨fun |219=>309|217=>234|225=>371|224=>372|267=>373|266=>308|314=>393|n=>n,fun |9=>9|3=>3|4=>4|5=>5|46=>89|146=>326|51=>226|n=>n,fun |1=>0|n=>n⟩
def Tryz.lays219:Go.Proofs.Lays.n219 Tryz.prog Tryz.ajF:={
 mixed:=A8
 f217:=Tryz.func234.trans (BX some A8)
 f219:=Tryz.func309.trans (BX some A8)
 f224:=Tryz.func372.trans (BX some A8)
 f225:=Tryz.func371.trans (BX some A8)
 f266:=Tryz.func308.trans (BX some A8)
 f267:=Tryz.func373.trans (BX some A8)
 f314:=Tryz.func393.trans (BX some A8)
 t3:=Gp
 a3:=XK
 z3:=Y3
 v3:=Wq
 t4:=TY
 a4:=Z4
 z4:=aV
 v4:=aC
 t5:=ng
 a5:=fV
 z5:=dK
 v5:=eI
 t9:=MV
 a9:=jG
 z9:=dA
 v9:=dP
 t46:=uT
 a46:=Tryz.isAgg89
 z46:=Tryz.sizeOf89
 v46:=xu
 t51:=uo
 a51:=Tryz.isAgg226
 z51:=xF
 v51:=Rep
 t146:=Tryz.underlying326
 a146:=Tryz.isAgg326
 z146:=Tryz.sizeOf326
 v146:=Tryz.zeroValue326
 g1:=by kernel_rfl }
open Go.RowKit Go.Lib in
def Tryz.stringslite_Index_one (s:ByteArray) (c:UInt8) (w:World):
 Calls Tryz.prog 309 #[.string s,.string ⟨#[c]⟩] w fun e w'=>e=.returned (.int .i64 (Lib.indexByte s.data.toList c))∧w'=w:=Any.stringslite_Index_one Tryz.lays219 s c w
def Tryz.ajG:Go.Shelf.Ren:=⟨fun |145=>172|220=>235|219=>309|217=>234|225=>371|224=>372|267=>373|266=>308|314=>393|n=>n,fun |9=>9|4=>4|59=>152|3=>3|5=>5|46=>89|146=>326|51=>226|n=>n,fun |1=>0|n=>n⟩
def Tryz.lays145:Go.Proofs.Lays.n145 Tryz.prog Tryz.ajG:={
 mixed:=A8
 f145:=Tryz.func172.trans (BX some A8)
 f217:=Tryz.func234.trans (BX some A8)
 f219:=Tryz.func309.trans (BX some A8)
 f220:=Tryz.func235.trans (BX some A8)
 f224:=Tryz.func372.trans (BX some A8)
 f225:=Tryz.func371.trans (BX some A8)
 f266:=Tryz.func308.trans (BX some A8)
 f267:=Tryz.func373.trans (BX some A8)
 f314:=Tryz.func393.trans (BX some A8)
 t3:=Gp
 a3:=XK
 z3:=Y3
 v3:=Wq
 t4:=TY
 a4:=Z4
 z4:=aV
 v4:=aC
 t5:=ng
 a5:=fV
 z5:=dK
 v5:=eI
 t9:=MV
 a9:=jG
 z9:=dA
 v9:=dP
 t46:=uT
 a46:=Tryz.isAgg89
 z46:=Tryz.sizeOf89
 v46:=xu
 t51:=uo
 a51:=Tryz.isAgg226
 z51:=xF
 v51:=Rep
 t59:=Tryz.underlying152
 a59:=Tryz.isAgg152
 z59:=Tryz.sizeOf152
 v59:=Tryz.zeroValue152
 t146:=Tryz.underlying326
 a146:=Tryz.isAgg326
 z146:=Tryz.sizeOf326
 v146:=Tryz.zeroValue326
 g1:=by kernel_rfl }
open Go.RowKit Go.Lib in
def Tryz.strings_Cut (s sep:ByteArray) (m:Int) (w:World) (hs:s.size<4294967281) (hm:w.cell? ⟨0,0,none⟩=some (.int .i64 m)):
 Calls Tryz.prog 172 #[.string s,.string sep] w fun e w'=>e=.returned (.tuple #[.string ⟨(Lib.cut s.data.toList sep.data.toList).1.toArray⟩,.string ⟨(Lib.cut s.data.toList sep.data.toList).2.1.toArray⟩,.bool (Lib.cut s.data.toList sep.data.toList).2.2])∧∃n,w'=w.drewN n:=Any.strings_Cut Tryz.lays145 s sep m w hs hm
def Tryz.ajH:Go.Shelf.Ren:=⟨fun |189=>103|125=>149|257=>148|128=>204|129=>205|294=>195|295=>196|296=>197|297=>198|298=>199|299=>200|216=>201|300=>202|301=>203|328=>256|329=>257|330=>258|331=>259|332=>260|215=>261|343=>337|n=>n,fun |28=>24|3=>3|46=>89|0=>0|51=>226|53=>228|4=>4|183=>220|182=>219|131=>97|5=>5|9=>9|218=>254|222=>258|228=>300|229=>301|n=>n,fun |n=>n⟩
def Tryz.lays189:Go.Proofs.Lays.n189 Tryz.prog Tryz.ajH:={
 mixed:=A8
 f125:=Tryz.func149.trans (BX some A8)
 f128:=Tryz.func204.trans (BX some A8)
 f129:=Tryz.func205.trans (BX some A8)
 f189:=Tryz.func103.trans (BX some A8)
 f215:=Tryz.func261.trans (BX some A8)
 f216:=Tryz.func201.trans (BX some A8)
 f257:=Tryz.func148.trans (BX some A8)
 f294:=Tryz.func195.trans (BX some A8)
 f295:=Tryz.func196.trans (BX some A8)
 f296:=Tryz.func197.trans (BX some A8)
 f297:=Tryz.func198.trans (BX some A8)
 f298:=Tryz.func199.trans (BX some A8)
 f299:=Tryz.func200.trans (BX some A8)
 f300:=Tryz.func202.trans (BX some A8)
 f301:=Tryz.func203.trans (BX some A8)
 f328:=Tryz.func256.trans (BX some A8)
 f329:=Tryz.func257.trans (BX some A8)
 f330:=Tryz.func258.trans (BX some A8)
 f331:=Tryz.func259.trans (BX some A8)
 f332:=Tryz.func260.trans (BX some A8)
 f343:=Tryz.func337.trans (BX some A8)
 t0:=Tryz.underlying0
 a0:=Tryz.isAgg0
 z0:=Tryz.sizeOf0
 v0:=Tryz.zeroValue0
 t3:=Gp
 a3:=XK
 z3:=Y3
 v3:=Wq
 t4:=TY
 a4:=Z4
 z4:=aV
 v4:=aC
 t5:=ng
 a5:=fV
 z5:=dK
 v5:=eI
 t9:=MV
 a9:=jG
 z9:=dA
 v9:=dP
 t28:=zA
 a28:=Tryz.isAgg24
 z28:=Tryz.sizeOf24
 v28:=Tryz.zeroValue24
 t46:=uT
 a46:=Tryz.isAgg89
 z46:=Tryz.sizeOf89
 v46:=xu
 t51:=uo
 a51:=Tryz.isAgg226
 z51:=xF
 v51:=Rep
 t53:=Tryz.underlying228
 a53:=Tryz.isAgg228
 z53:=Tryz.sizeOf228
 v53:=Tryz.zeroValue228
 t131:=Tryz.underlying97
 a131:=Tryz.isAgg97
 z131:=Tryz.sizeOf97
 v131:=Tryz.zeroValue97
 t182:=Tryz.underlying219
 a182:=Tryz.isAgg219
 z182:=Tryz.sizeOf219
 v182:=Tryz.zeroValue219
 t183:=Tryz.underlying220
 a183:=Tryz.isAgg220
 z183:=Tryz.sizeOf220
 v183:=Tryz.zeroValue220
 t218:=Tryz.underlying254
 a218:=Tryz.isAgg254
 z218:=Tryz.sizeOf254
 v218:=Tryz.zeroValue254
 t222:=Tryz.underlying258
 a222:=Tryz.isAgg258
 z222:=Tryz.sizeOf258
 v222:=Tryz.zeroValue258
 t228:=Tryz.underlying300
 a228:=Tryz.isAgg300
 z228:=Tryz.sizeOf300
 v228:=Tryz.zeroValue300
 t229:=Tryz.underlying301
 a229:=Tryz.isAgg301
 z229:=Tryz.sizeOf301
 v229:=Tryz.zeroValue301 }
open Go.Sort Go.RowKit in
def Tryz.slices_Sort_int (blk off cap:Nat) (zs:List Int) (w:World) (hH:Holds Aj w blk off zs.toArray) (hblk:blk<w.heap.size) (hsz:zs.length<4611686018427387904):
 Calls Tryz.prog 103 #[.slice (some ⟨blk,off,none⟩) zs.length cap] w fun e w'=>
  e=.returned (.tuple #[])∧∃n os,w'=grow (putRow Aj (Sort.ahead w n) blk off (zs.mergeSort fun x y=>decide (x≤y)).toArray) os:=Any.slices_Sort_int Tryz.lays189 blk off cap zs w hH hblk hsz
def Tryz.agQ:Go.Shelf.Ren:=⟨fun |20=>104|n=>n,fun |22=>24|3=>3|4=>4|0=>0|n=>n,fun |n=>n⟩
def Tryz.af9:Go.Proofs.Lays2.n20 Tryz.prog Tryz.agQ:={
 mixed:=A8
 f20:=Tryz.func104.trans (BX some A8)
 t0:=Tryz.underlying0
 a0:=Tryz.isAgg0
 z0:=Tryz.sizeOf0
 v0:=Tryz.zeroValue0
 t3:=Gp
 a3:=XK
 z3:=Y3
 v3:=Wq
 t4:=TY
 a4:=Z4
 z4:=aV
 v4:=aC
 t22:=zA
 a22:=Tryz.isAgg24
 z22:=Tryz.sizeOf24
 v22:=Tryz.zeroValue24
 i3:=by kernel_rfl }
open Go.RowKit Go.Lib Go.Sort in
def Tryz.slices_Compact_int (blk off cap:Nat) (zs:List Int) (w:World) (hH:Holds Aj w blk off zs.toArray) (hsz:zs.length≤9223372036854775807) (hcap:zs.length≤cap):
 Calls Tryz.prog 104 #[.slice (some ⟨blk,off,none⟩) zs.length cap] w fun e w'=>e=.returned (.slice (some ⟨blk,off,none⟩) (Lib.compact zs).length cap)∧∃q,w'=putRow Aj (Sort.ahead w q) blk off (Lib.compact zs++List.replicate (zs.length-(Lib.compact zs).length) 0).toArray:=Any.slices_Compact_int Tryz.af9 blk off cap zs w hH hsz hcap
open Go.RowKit Go.Lib Go.Sort in
def Tryz.slices_Compact_int_empty (a:Option Addr) (cap:Nat) (w:World):
 Calls Tryz.prog 104 #[.slice a 0 cap] w fun e w'=>e=.returned (.slice a 0 cap)∧w'=w:=Any.slices_Compact_int_empty Tryz.af9 a cap w
open Go.RowKit Go.Sort in
def Tryz.slices_Sort_int_none (p:Option Addr) (cap:Nat) (w:World):
 Calls Tryz.prog 103 #[.slice p 0 cap] w fun e w'=>e=.returned (.tuple #[])∧w'=w:=Any.slices_Sort_int_none Tryz.lays189 p cap w
end Go.Proofs
end
section
namespace Go.Proofs.YtolgdkhlelfpoaaGreat
open Go.RowKit
def Y6 (x:Int):List Int→List Int
 | []=>[x]
 |y::l=>bif decide (x≤y)then x::y::l else y::Y6 x l
def P9 (l:List Int):List Int:=l.foldr Y6 []
def aCw (x:Int):∀l,(Y6 x l).Perm (x::l)
 | []=>.refl _
 |y::l=>by
  unfold Y6;cases h:decide (x≤y)with
  |true=>exact .refl _
  |false=>exact((aCw x l).cons y).trans (.swap x y l)
def Sv :∀l,(P9 l).Perm l
 | []=>.refl _
 |x::l=>(aCw x (P9 l)).trans ((Sv l).cons x)
def aIf (x:Int):∀l,l.Pairwise (· ≤ ·)→(Y6 x l).Pairwise (· ≤ ·)
 | [],_=>by simp[Y6]
 |y::l,h=>by
  have h':=Ns.1 h;unfold Y6;cases m:decide (x≤y)with
  |true=>
   have j:x≤y:=VP m;refine Ns.2 ⟨fun z f=>?_,h⟩;rcases Em.1 f with rfl|f
   ·exact j
   have :=h'.1 z f;omega
  |false=>
   have j:¬x≤y:=IK m;refine Ns.2 ⟨fun z f=>?_,aIf x l h'.2⟩;rcases Em.1 ((aCw x l).mem_iff.1 f)with rfl|f
   ·omega
   exact h'.1 z f
def aAd :∀l,(P9 l).Pairwise (· ≤ ·)
 | []=>.nil
 |x::l=>aIf x _ (aAd l)
def aG7 (l:List Int):P9 l=l.mergeSort fun x y=>decide (x≤y):=by
 have f:(l.mergeSort fun x y=>decide (x≤y)).Pairwise (· ≤ ·):=by
  have :=List.pairwise_mergeSort (le:=fun x y:Int=>decide (x≤y)) (by intro a b c;simp;omega) (by intro a b;simp;omega) l;exact this.imp (by intro a b h;simpa using h)
 exact((Sv l).trans (List.mergeSort_perm l _).symm).eq_of_pairwise (fun a b _ _ h k=>AA) (aAd l) f
abbrev AX:=List Int
def MP (l:List Int):Option AX:=if l.length≤1099511627776 then some (P9 l)else none
def TK (l:List Int):Option AX:=if l.length≤1099511627776 then some (Lib.compact l)else none
def kG.nil (w:World) (e size:Nat):kG w e size (.slice none 0 0) 0 []:=.of (zK w 0 e size)
def ag5 {w:World} {g cap n:Nat} {e:TypeId} {os:Array Obj} {f:Array Value} {h j:List Int} (m:j.length=h.length) (q:w.heap[g]? =some (.cells f e (0,0)))
 (s:h.length≤cap) (u:cap≤maxLen) (z:cap*1≤f.size):
 kG (Go.Sort.grow (Go.Sort.putRow Aj (Go.Sort.ahead w n) g 0 j.toArray) os) e 1 (.slice (some ⟨g,0,none⟩) h.length cap) h.length (j.map Aj):=
 ⟨by simp[m],.inr ⟨g,cap,_,rfl,Dx _,heap_sortedI _ q,s,u,by simpa[Go.Sort.putCells]using z,by rw[YU,←m];exact take_putCellsI f j AA⟩⟩
def alD {w:World} {e:TypeId} {g n cap q k:Nat} {s ys:List Int} (h:kG w e 1 (.slice (some ⟨g,0,none⟩) n cap) n (s.map Aj)) (L:ys.length=n) (M:k≤n):
 kG (Go.Sort.putRow Aj (Go.Sort.ahead w q) g 0 ys.toArray) e 1 (.slice (some ⟨g,0,none⟩) k cap) k ((ys.take k).map Aj):=by
 rcases h.2 with⟨j,_⟩|⟨O,m,f,j,u,z,S,I,J,U⟩
 ·cases j
 injection j with e1 _ e3
 injection e1 with e1
 injection e1 with e1
 subst e1;subst e3;refine⟨Dp,.inr ⟨g,cap,Go.Sort.putCells Aj 0 ys.toArray f,rfl,u,?_,AA,I,by simpa[Go.Sort.putCells]using J,?_⟩⟩
 ·simp[Go.Sort.putRow,Go.Sort.mapBlock,Go.Sort.ahead,Lm,z,Go.Sort.onCells]
 have :=take_putCellsI f ys AA;rw[YU,V3,←this,aBY,tH AA]
def ag0 {l m:List Int} (h:l.Perm m):P9 l=P9 m:=by
 have f:∀(l:List Int),(P9 l).Pairwise (· ≤ ·):=aAd;exact((Sv l).trans (h.trans (Sv m).symm)).eq_of_pairwise (fun a b _ _ j n=>AA) (f l) (f m)
def amH {l m:List Int} (h:l.Perm m):MP l=MP m:=by
 unfold MP;rw[h.length_eq,ag0 h]
abbrev BI:=Aw Tryz.prog
def Fin (l r:List Int) (h:MP l=some r):BI 103 [.aP 0] [.arr 3 1 (List.map AP l)] (.dO []) [.arr 3 1 (List.map AP r)]:=by
 unfold MP at h;split at h
 ·rename_i O;obtain rfl:=Bl h;refine Aw.aqH fun v w j=>?_;rcases j.2 with⟨rfl,J⟩|⟨g,cap,L,rfl,m,q,s,u,z,f⟩
  ·have M:l=[]:=Fj J;subst M;refine(Tryz.slices_Sort_int_none _ _ _).mono ?_;rintro e w' ⟨rfl,h⟩;subst h;exact⟨rfl,kG.nil _ _ _,Turns.refl _ _⟩
  have I:(l.mergeSort fun x y=>decide (x≤y)).length=l.length:=List.length_mergeSort _;refine(Tryz.slices_Sort_int g 0 cap l w (holds_of_blockI q L9) (Ei.1 q).1 AA).mono ?_;rintro e w' ⟨rfl,n,os,rfl⟩;rw[aG7];refine⟨rfl,?_,Turns.aov (grownBy_sortedI _)⟩;rw[I];exact ag5 (os:=os) (n:=n) I q s u z
 cases h
def aCc (l r:List Int) (h:TK l=some r):BI 104 [.aP 0] [.arr 3 1 (List.map AP l)] (.aP 1) [.dead,.arr 3 1 (List.map AP r)]:=by
 unfold TK at h;split at h
 ·rename_i U;obtain rfl:=Bl h;refine Aw.turned fun v w j=>?_;rcases j.2 with⟨rfl,I⟩|⟨g,cap,J,rfl,n,m,s,L,M,f⟩
  ·have O:l=[]:=Fj I;subst O;refine(Tryz.slices_Compact_int_empty _ _ _).mono ?_;rintro e w' ⟨rfl,h⟩;subst h;exact⟨_,rfl,kG.nil _ _ _,Turns.refl _ _,fun g m=>by simp[CQ]at m⟩
  refine(Tryz.slices_Compact_int g 0 cap l w (holds_of_blockI m L9) AA s).mono ?_;rintro e w' ⟨rfl,q,rfl⟩;have u:=Lib.compact_length_le l;have S:(Lib.compact l++List.replicate (l.length-(Lib.compact l).length) 0).length=l.length:=Dp
  refine⟨_,rfl,?_,?_,fun g m=>.inl m⟩
  ·have :=alD (q:=q) j S u;rw[fD rfl]at this;exact this
  exact⟨rfl,rfl,rfl,by simp[Sort.putRow,Sort.mapBlock,Sort.ahead],fun k Y z=>by
   have :g≠k:=fun e=>z mO
   simp[Sort.putRow,Sort.mapBlock,Sort.ahead,Lm,this]⟩
 cases h
def strings_IndexByte (s:ByteArray) (c:Int):Option Int:=some (Lib.indexByte s.data.toList c.toNat.toUInt8)
def ahZ (s:ByteArray) (c:Int) (r:Int) (h:strings_IndexByte s c=some r):BI 171 [.d (DT s),.d (ED c)] [] (.d (AP r)) []:=by
 rw[←Bl h];exact Aw.plain (vs:=[.string s,.int .u8 c]) (v:=.int .i64 (Lib.indexByte s.data.toList c.toNat.toUInt8)) (fun _ _ _=>.d _ _ (.lit _)) fun w=>(Tryz.strings_IndexByte s c w).mono fun e w' ⟨f,j⟩=>⟨f,by rw[j];exact⟨rfl,rfl,rfl,Dn _,fun _ _=>rfl⟩⟩
def aAj (s t:ByteArray):Option Int:=match t.data.toList with
 | [c]=>some (Lib.indexByte s.data.toList c)
 |_=>none
def an3 (s t:ByteArray) (r:Int) (h:aAj s t=some r):BI 309 [.d (DT s),.d (DT t)] [] (.d (AP r)) []:=by
 unfold aAj at h;split at h
 ·rename_i c f;rw[←Bl h];obtain⟨⟨l⟩⟩:=t;simp only at f;subst f;exact Aw.plain (vs:=[.string s,.string ⟨#[c]⟩]) (v:=.int .i64 (Lib.indexByte s.data.toList c)) (fun _ _ _=>.d _ _ (.lit _)) fun w=>(Tryz.stringslite_Index_one s c w).mono fun e w' ⟨j,m⟩=>⟨j,by rw[m];exact⟨rfl,rfl,rfl,Dn _,fun _ _=>rfl⟩⟩
 cases h
structure Xt (P:Program) (t:TypeId) (s:Nat) (z:Value):Prop where
 und:∃n e,P.underlying t=some (.array n e)∧∃i,P.info? e=some i∧i.size=s
 zero:(P.info? t).bind (·.zero)=some z
 one:z.cells.all (·.oneCell')=true
def aGv (P:Program) (t:TypeId) (s:Nat):Bool:=
 match P.underlying t with
 |some (.array _ e)=>match P.info? e with
  |some i=>decide (i.size=s)
  |none=>false
 |_=>false
def vP {P:Program} {t:TypeId} {s:Nat} {z:Value} (h:aGv P t s=true) (f:(P.info? t).bind (·.zero)=some z) (j:z.cells.all (·.oneCell')=true):Xt P t s z:=by
 unfold aGv at h;split at h
 ·rename_i n e m;split at h
  ·rename_i i hi;exact⟨⟨n,e,m,i,hi,VP h⟩,f,j⟩
  cases h
 cases h
section
variable {P : Program} {o : Oper} {es : List Au} {α : Type}
def ahj {t:TypeId} {f:Array (Nat×Operand)} {s:Nat} {z:Value} (Y:Xt P t s z) (vs:List AV) (Z:Ju (fun i=>some (i*s,s)) (EW z).length f.toList vs=true)
 (hd:(Hq (fun i=>some (i*s,s)) (EW z) f.toList vs).all AV.wX=true) (ho:o.op=.build t f):
 BQ P o (Jp f.toList vs) es (.d (.agg (GY (Hq (fun i=>some (i*s,s)) (EW z) f.toList vs)))) es:=
 .pure fun ok H a w _ _ hn=>by
  obtain⟨⟨n,e,hu,i,hi,hs⟩,hz,h1⟩:=Y;have m:=vY (P:=P) hz w;have q:(underlying t).run P w=.ok (.array n e) w:=by simp[underlying,hu]
  have u:(sizeOf e).run P w=.ok s w:=aDI
  obtain⟨j,hc,I⟩:=gX (place:=fun i=>some (i*s,s)) f.toList vs (EW z) z.cells (aEZ (ok:=ok) (w:=w) (H:=H) h1) Z hn;refine⟨.agg j,?_,.d _ _ ?_⟩
  ·have e:(f.map fun(i,x)=>(i,a.eval x)).toList=f.toList.map fun p=>(p.1,a.eval p.2):=BG
   simp only[execOp,ho,Instr.build,ER,m,q,u,EX];rw[e,hc];rfl
  rw[aap hd]at I;generalize GY (Hq (fun i=>some (i*s,s)) (EW z) f.toList vs)=xs at I ⊢;obtain⟨S,J⟩:=I;simp only[CB]at S J
  have U:∀i,i<xs.length→(xs.map AV.d).getD i .junk=.d (xs.getD i Cb):=by
   intro i hi;simp[List.getD,hi]
  have L:j.size=xs.length:=kY
  refine .agg xs j L ?_ ?_<;>intro i hi
  ·have :=(J i hi).1;rw[U i hi]at this;exact this
  have M:=(J i hi).2;rw[U i hi]at M;have O:i<j.size:=AA
  have e:j.toList.getD i undef=j.getD i undef:=by simp[List.getD,Array.getD,O]
  rw[e]at M;cases M with |d _ _ h=>exact h
def JI (enc:α→D) (l:List α):D:=.agg (l.map enc)
def wQ {x y:Operand} {t e:TypeId} {n:Nat} {k:IntKind} {i:Int} (enc:α→D) {l:List α} {a:α} (h:BF l i=some a) (L:P.underlying t=some (.array n e)) (s:DI P e false 1) (hl:l.length=n) (M:o.op=.index t x y):
 BQ P o [(x,.d (JI enc l)),(y,.d (.lit (.int k i)))] es (.d (enc a)) es:=
 .pure fun ok H O w _ _ u=>by
  obtain⟨S,z⟩:=Ip h;have j:=(Dt u).1;have I:=(Dt u).2.lit;simp only at j I;have m:=(Eb.1 z).1;have U:(underlying t).run P w=.ok (.array n e) w:=by simp[underlying,L]
  generalize Y:O.eval x=v at j;cases j with
  |d _ _ j=>
   cases j with
   |agg _ vs q Z J=>
    rw[CB]at q Z J;have f:i.toNat<vs.size:=AA
    refine⟨vs[i.toNat],?_,?_⟩
    ·have hb:0≤i∧i<n:=⟨S,AA⟩
     simp only[execOp,M,Y,I,Instr.index,asIntOf,ER,Ep,U,EX,hb,and_self,Iu,s.size w,part,s.agg w];simp[f]
    have :=J i.toNat m;simp only[Array.getD,f,dif_pos]at this;have e2:(l.map enc).getD i.toNat Cb=enc a:=by simp[List.getD,z]
    rw[e2]at this;exact .d _ _ this
def aif {x:Operand} {k off:Nat} (j:o.op=.nilCheck x):BQ P o [(x,.ptr k off)] es (.ptr k off) es:=
 .pure fun ok H a w _ _ m=>by
  have f:=Ib m;simp only at f;generalize n:a.eval x=u at f;cases f with
  |ptr _ _ b s h=>exact⟨_,by simp[execOp,j,n],.ptr _ _ b s h⟩
def ahh {x:Operand} {k i off:Nat} (j:o.op=.nilCheck x):BQ P o [(x,.jL k i off)] es (.jL k i off) es:=
 .pure fun ok H a w _ _ m=>by
  have f:=Ib m;simp only at f;generalize q:a.eval x=u at f;cases f with
  |jL _ _ _ b n cap s h=>exact⟨_,by simp[execOp,j,q],.jL _ _ _ b n cap s h⟩
def arA {x:Operand} {cs:List D} {off:Nat} (m:o.op=.nilCheck x):BQ P o [(x,.d (.ref cs off))] es (.d (.ref cs off)) es:=
 .pure fun ok H a w _ _ n=>by
  have f:=Ib n;simp only at f;generalize q:a.eval x=u at f;cases f with
  |d _ _ h=>cases h with
   |ref _ _ b p j s z I=>exact⟨_,by simp[execOp,m,q],.d _ _ (.ref _ _ b p j s z I)⟩
def adR (n:Nat):D:=.fn (.func n) [] []
end
def Nj {α:Type} (p:α→Prop):List α→Prop
 | []=>True
 |x::l=>p x∧Nj p l
def Nj.mem {α:Type} {p:α→Prop}:∀{l:List α},Nj p l→∀x∈l,p x
 | [],_,x,h=>Fq
 |y::l,f,x,h=>by
  rcases Em.1 h with rfl|h
  ·exact f.1
  exact f.2.mem x h
class Kn (P:Program) where
 und:List (Nat×TypeDesc)
 acH:Nj (fun p:Nat×TypeDesc=>P.underlying p.1=some p.2) und
 ty:List (Nat×Bool×Nat)
 hty:Nj (fun p:Nat×Bool×Nat=>DI P p.1 p.2.1 p.2.2) ty
 fld:List ((Nat×Nat)×Nat)
 hfld:Nj (fun p:(Nat×Nat)×Nat=>CU P p.1.1 p.1.2 p.2) fld
 part:List ((Nat×Nat)×Nat×Bool×Nat)
 hpart:Nj (fun p:(Nat×Nat)×Nat×Bool×Nat=>Yu P p.1.1 p.1.2 p.2.1 p.2.2.1 p.2.2.2=true) part
 zero:List (Nat×Value)
 hzero:Nj (fun p:Nat×Value=>(P.info? p.1).bind (·.zero)=some p.2∧p.2.cells.all (·.oneCell')=true) zero
 st:List (Nat×List (Nat×Nat)×Value)
 hst:Nj (fun p:Nat×List (Nat×Nat)×Value=>GZ P p.1 p.2.1 p.2.2) st
 arr:List (Nat×Nat×Value)
 harr:Nj (fun p:Nat×Nat×Value=>Xt P p.1 p.2.1 p.2.2) arr
def Na {β:Type} (t:Nat):List (Nat×β)→Option β
 | []=>none
 |(u,b)::l=>match Nat.beq t u with |true=>some b|false=>Na t l
def Kz {β:Type} {t:Nat} {b:β}:∀{l:List (Nat×β)},Na t l=some b→(t,b)∈l
 | [],h=>GX
 |(u,c)::l,h=>by
  unfold Na at h;split at h
  ·rename_i e;cases h;rw[aEn e];exact Fa
  exact Gq _ (Kz h)
def iK {β:Type} (t f:Nat):List ((Nat×Nat)×β)→Option β
 | []=>none
 |((u,g),b)::l=>match Nat.beq t u&&Nat.beq f g with |true=>some b|false=>iK t f l
def ig {β:Type} {t f:Nat} {b:β}:∀{l:List ((Nat×Nat)×β)},iK t f l=some b→((t,f),b)∈l
 | [],h=>GX
 |((u,g),c)::l,h=>by
  unfold iK at h;split at h
  ·rename_i e;cases h;rw[Bv]at e;rw[aEn e.1,aEn e.2];exact Fa
  exact Gq _ (ig h)
structure NM where
 ns:List (Operand×AV)
 x:AV
 E:List Au
 bar:Bool
def aFM (op:BinOp) (k:IntKind) (a b:Int):Option Value:=
 match op with
 | .add=>some (.int k (k.wrap (a+b)))
 | .sub=>some (.int k (k.wrap (a-b)))
 | .mul=>some (.int k (k.wrap (a*b)))
 | .eql=>some (.bool (a==b))
 | .neq=>some (.bool (a != b))
 | .lss=>some (.bool (decide (a<b)))
 | .leq=>some (.bool (decide (a≤b)))
 | .gtr=>some (.bool (decide (a>b)))
 | .geq=>some (.bool (decide (a≥b)))
 |_=>none
def aq2 {op:BinOp} {k:IntKind} {a b:Int} {r:Value} {t:TypeId} {P:Program} (h:aFM op k a b=some r) (w:World):(binOp op t (.int k a) (.int k b)).run P w=.ok r w:=by
 unfold aFM at h;cases op<;>first|(cases h;done)|(cases h;simp[binOp,Op.intArith,Op.intCmp];done)|(cases h;cases k<;>rfl)
def aBp (op:BinOp) (a b:ByteArray):Option Value:=
 match op with
 | .eql=>some (.bool (a.toList==b.toList))
 | .neq=>some (.bool (!(a.toList==b.toList)))
 | .lss=>some (.bool (Op.bytesLess a.toList b.toList))
 | .leq=>some (.bool (Op.bytesLess a.toList b.toList||a.toList==b.toList))
 | .gtr=>some (.bool (!(Op.bytesLess a.toList b.toList||a.toList==b.toList)))
 | .geq=>some (.bool (!Op.bytesLess a.toList b.toList))
 |_=>none
def aiV {op:BinOp} {a b:ByteArray} {r:Value} {t:TypeId} {P:Program} (h:aBp op a b=some r) (w:World):(binOp op t (.string a) (.string b)).run P w=.ok r w:=by
 unfold aBp at h;cases op<;>first|(cases h;done)|(cases h;rfl)
def BQ.aso {P:Program} {o:Oper} {ns f:List (Operand×AV)} {es es':List Au} {x:AV} (h:BQ P o ns es x es') (j:∀n∈ns,n∈f∨n=(.const (.slice none 0 0),.d (.sl []))):BQ P o f es x es':=by
 intro C ok H a w Q q s;refine h C ok H a w Q q (fun n m=>?_);rcases j n m with u|rfl
 ·exact s n u
 exact .d _ _ (.sl0 none 0)
def aG6 {P:Program} (K:Kn P) (σ:Ai) (o:Oper):Option NM:=
 match o.op with
 | .move x=>match x with
   | .const (.slice none 0 0)=>some ⟨[],.d (.sl []),σ.ents,false⟩
   |x=>some ⟨[(x,σ.get x)],σ.get x,σ.ents,false⟩
 | .assign x=>match x with
   | .const (.slice none 0 0)=>some ⟨[],.d (.sl []),σ.ents,false⟩
   |x=>some ⟨[(x,σ.get x)],σ.get x,σ.ents,false⟩
 | .pick c x y=>match σ.get c with
   | .d (.lit (.bool true))=>some ⟨[(c,.d (.lit (.bool true))),(x,σ.get x)],σ.get x,σ.ents,false⟩
   | .d (.lit (.bool false))=>some ⟨[(c,.d (.lit (.bool false))),(y,σ.get y)],σ.get y,σ.ents,false⟩
   |_=>none
 | .binOp op t x y _=>match σ.get x,σ.get y with
   | .d (.lit (.int k a)),.d (.lit (.int k' b))=>if k=k' then(aFM op k a b).map fun r=>⟨[(x,.d (.lit (.int k a))),(y,.d (.lit (.int k b)))],.d (.lit r),σ.ents,false⟩else none
   | .d (.lit (.string a)),.d (.lit (.string b))=>(aBp op a b).map fun r=>⟨[(x,.d (.lit (.string a))),(y,.d (.lit (.string b)))],.d (.lit r),σ.ents,false⟩
   | .d (.lit (.bool a)),.d (.lit (.bool b))=>match Na t K.und with
     |some .bool=>match op with
      | .eql=>some ⟨[(x,.d (CM a)),(y,.d (CM b))],.d (CM (a==b)),σ.ents,false⟩
      | .neq=>some ⟨[(x,.d (CM a)),(y,.d (CM b))],.d (CM (!(a==b))),σ.ents,false⟩
      |_=>none
     |_=>none
   |_,_=>none
 | .unOp op _ x=>match σ.get x with
   | .d (.lit (.bool b))=>match op with
     | .not=>some ⟨[(x,.d (.lit (.bool b)))],.d (.lit (.bool !b)),σ.ents,false⟩
     |_=>none
   | .d (.lit (.int k n))=>match op with
     | .neg=>some ⟨[(x,.d (.lit (.int k n)))],.d (.lit (.int k (k.wrap (0-n)))),σ.ents,false⟩
     |_=>none
   |_=>none
 | .convert s t x=>match Na s K.und,Na t K.und,σ.get x with
   |some (.int q),some (.int k),.d (.lit (.int I n))=>if q=I then some ⟨[(x,.d (.lit (.int q n)))],.d (.lit (.int k (k.wrap n))),σ.ents,false⟩else none
   |some .string,some .string,.d (.lit (.string u))=>some ⟨[(x,.d (DT u))],.d (DT u),σ.ents,false⟩
   |_,_,_=>none
 | .extract x i=>match σ.get x with
   | .dO xs=>match xs[i]? with
     |some v=>some ⟨[(x,.dO xs)],v,σ.ents,false⟩
     |none=>none
   |_=>none
 | .fieldAddr t x f=>match iK t f K.fld,σ.get x with
   |some off,.ptr k m=>some ⟨[(x,.ptr k m)],.ptr k (m+off),σ.ents,false⟩
   |some off,.jL k i m=>some ⟨[(x,.jL k i m)],.jL k i (m+off),σ.ents,false⟩
   |some off,.d (.ref cs m)=>some ⟨[(x,.d (.ref cs m))],.d (.ref cs (m+off)),σ.ents,false⟩
   |_,_=>none
 | .nilCheck x=>match σ.get x with
   | .ptr k m=>some ⟨[(x,.ptr k m)],.ptr k m,σ.ents,false⟩
   | .jL k i m=>some ⟨[(x,.jL k i m)],.jL k i m,σ.ents,false⟩
   | .d (.ref cs m)=>some ⟨[(x,.d (.ref cs m))],.d (.ref cs m),σ.ents,false⟩
   |_=>none
 | .field t x f=>match iK t f K.part,σ.get x with
   |some (off,agg,n),.d (.agg cs)=>if off+n≤cs.length∧(agg=false→n=1)then some ⟨[(x,.d (.agg cs))],.d (NG agg cs off n),σ.ents,false⟩else none
   |_,_=>none
 | .load t x=>match Na t K.ty,σ.get x with
   |some (agg,n),.d (.ref cs off)=>if off+n≤cs.length∧(agg=false→n=1)then some ⟨[(x,.d (.ref cs off))],.d (NG agg cs off n),σ.ents,false⟩else none
   |some (agg,n),.ptr k off=>match σ.ents[k]? with
    |some (.box cs)=>if(off+n≤cs.length∧(agg=false→n=1))∧cs.all AV.wX=true then some ⟨[(x,.ptr k off)],.d (NG agg (GY cs) off n),σ.ents,false⟩else match agg,n,cs[off]? with
     |false,1,some v=>some ⟨[(x,.ptr k off)],v,σ.ents,false⟩
     |_,_,_=>none
    |_=>none
   |_,_=>none
 | .box _ x=>if(σ.get x).cells.all AV.leaf=true then some ⟨[(x,σ.get x)],.ptr σ.ents.length 0,σ.ents++[.box (σ.get x).cells],true⟩else none
 | .alloc t=>match Na t K.zero with
   |some z=>some ⟨[],.ptr σ.ents.length 0,σ.ents++[.box (EW z)],true⟩
   |none=>none
 | .store t x y=>match Na t K.ty,σ.get x with
   |some (_,n),.ptr k off=>match σ.ents[k]? with
    |some (.box cs)=>match y with
     | .const (.slice none 0 0)=>if n=1∧off+1≤cs.length then some ⟨[(x,.ptr k off)],.junk,σ.ents.set k (.box (setAt cs off [.d (.sl [])])),true⟩else none
     |y=>if((σ.get y).cells.all AV.leaf=true∧(σ.get y).cells.length=n)∧off+n≤cs.length then some ⟨[(x,.ptr k off),(y,σ.get y)],.junk,σ.ents.set k (.box (setAt cs off (σ.get y).cells)),true⟩else none
    |_=>none
   |_,_=>none
 | .build t h=>match Na t K.st with
   |some (j,z)=>
    if Ju (fun(i:Nat)=>j[i]?) (EW z).length h.toList (h.toList.map fun p=>σ.get p.2)=true∧(Hq (fun(i:Nat)=>j[i]?) (EW z) h.toList (h.toList.map fun p=>σ.get p.2)).all AV.wX=true
    then some ⟨Jp h.toList (h.toList.map fun p=>σ.get p.2),.d (.agg (GY (Hq (fun(i:Nat)=>j[i]?) (EW z) h.toList (h.toList.map fun p=>σ.get p.2)))),σ.ents,false⟩
    else none
   |none=>match Na t K.arr with
    |some (s,z)=>
     if Ju (fun i=>some (i*s,s)) (EW z).length h.toList (h.toList.map fun p=>σ.get p.2)=true∧(Hq (fun i=>some (i*s,s)) (EW z) h.toList (h.toList.map fun p=>σ.get p.2)).all AV.wX=true
     then some ⟨Jp h.toList (h.toList.map fun p=>σ.get p.2),.d (.agg (GY (Hq (fun i=>some (i*s,s)) (EW z) h.toList (h.toList.map fun p=>σ.get p.2)))),σ.ents,false⟩
     else none
    |none=>none
 | .call c=>match c.callee,c.args.toList,c.argTypes.toList with
   | .builtin .len,[x],[t]=>match Na t K.und,σ.get x with
     |some .string,.d (.lit (.string s))=>some ⟨[(x,.d (DT s))],.d (AP s.size),σ.ents,false⟩
     |_,_=>none
   |_,_,_=>none
 |_=>none
def aEX (σ:Ai):∀(l:List (Nat×Operand)),needs σ (Jp l (l.map fun p=>σ.get p.2))
 | []=>trivial
 |(_,x)::l=>⟨rfl,aEX σ l⟩
def aqV {P:Program} (K:Kn P) {σ:Ai} {o:Oper} {r:NM} (h:aG6 K σ o=some r):BQ P o r.ns σ.ents r.x r.E∧needs σ r.ns∧(r.bar=false→r.E=σ.ents):=by
 unfold aG6 at h;split at h
 ·rename_i x j;split at h
  ·cases h;exact⟨anO j,trivial,fun _=>rfl⟩
  cases h;exact⟨amU j,⟨rfl,trivial⟩,fun _=>rfl⟩
 ·rename_i x j;split at h
  ·cases h;exact⟨ahb j,trivial,fun _=>rfl⟩
  cases h;exact⟨ais j,⟨rfl,trivial⟩,fun _=>rfl⟩
 ·rename_i c x y j;split at h
  ·rename_i e;cases h;exact⟨agz true rfl j,⟨e,rfl,trivial⟩,fun _=>rfl⟩
  ·rename_i e;cases h;exact⟨asy false rfl j,⟨e,rfl,trivial⟩,fun _=>rfl⟩
  cases h
 ·rename_i op t x y t' j;split at h
  ·rename_i k a k' b O S;split at h
   ·rename_i I;subst I;rw[Qq]at h;obtain⟨v,L,rfl⟩:=h;exact⟨Hw j (aq2 L) ⟨rfl,rfl⟩,⟨O,S,trivial⟩,fun _=>rfl⟩
   cases h
  ·rename_i a b O S;rw[Qq]at h;obtain⟨v,L,rfl⟩:=h;exact⟨Hw j (aiV L) ⟨rfl,rfl⟩,⟨O,S,trivial⟩,fun _=>rfl⟩
  ·rename_i a b O S;split at h
   ·rename_i U;have U:=K.acH.mem _ (Kz U);split at h
    ·cases h;exact⟨agi U j,⟨O,S,trivial⟩,fun _=>rfl⟩
    ·cases h;exact⟨ahN U j,⟨O,S,trivial⟩,fun _=>rfl⟩
    cases h
   cases h
  cases h
 ·rename_i op t x j;split at h
  ·rename_i b e;split at h
   ·cases h;exact⟨aDQ j (fun _=>rfl),⟨e,trivial⟩,fun _=>rfl⟩
   cases h
  ·rename_i k n e;split at h
   ·cases h;exact⟨aDQ j (fun _=>rfl),⟨e,trivial⟩,fun _=>rfl⟩
   cases h
  cases h
 ·rename_i s t x j;split at h
  ·rename_i k0 k k1 n q Z e;split at h
   ·rename_i I;subst I;cases h;exact⟨ako (K.acH.mem _ (Kz q)) (K.acH.mem _ (Kz Z)) j,⟨e,trivial⟩,fun _=>rfl⟩
   cases h
  ·rename_i u q Z e;cases h;exact⟨akB (K.acH.mem _ (Kz q)) (K.acH.mem _ (Kz Z)) j,⟨e,trivial⟩,fun _=>rfl⟩
  cases h
 ·rename_i x i j;split at h
  ·rename_i xs e;split at h
   ·rename_i v L;cases h;exact⟨apI j L,⟨e,trivial⟩,fun _=>rfl⟩
   cases h
  cases h
 ·rename_i t x f j;split at h
  ·rename_i off k o' q e;cases h;exact⟨ajB (K.hfld.mem _ (ig q)) j,⟨e,trivial⟩,fun _=>rfl⟩
  ·rename_i off k i o' q e;cases h;exact⟨al8 (K.hfld.mem _ (ig q)) j,⟨e,trivial⟩,fun _=>rfl⟩
  ·rename_i off cs o' q e;cases h;exact⟨anw (K.hfld.mem _ (ig q)) j,⟨e,trivial⟩,fun _=>rfl⟩
  cases h
 ·rename_i x j;split at h
  ·rename_i e;cases h;exact⟨aif j,⟨e,trivial⟩,fun _=>rfl⟩
  ·rename_i e;cases h;exact⟨ahh j,⟨e,trivial⟩,fun _=>rfl⟩
  ·rename_i e;cases h;exact⟨arA j,⟨e,trivial⟩,fun _=>rfl⟩
  cases h
 ·rename_i t x f j;split at h
  ·rename_i off agg n cs q e;split at h
   ·rename_i m;cases h;exact⟨atC rfl (K.hpart.mem _ (ig q)) m.1 m.2 j,⟨e,trivial⟩,fun _=>rfl⟩
   cases h
  cases h
 ·rename_i t x j;split at h
  ·rename_i agg n cs off q e;split at h
   ·rename_i m;cases h;exact⟨arq rfl (K.hty.mem _ (Kz q)) m.1 m.2 j,⟨e,trivial⟩,fun _=>rfl⟩
   cases h
  ·rename_i agg n k off q e;split at h
   ·rename_i cs I;split at h
    ·rename_i m;cases h;exact⟨ag4 rfl I m.2 (K.hty.mem _ (Kz q)) m.1.1 m.1.2 j,⟨e,trivial⟩,fun _=>rfl⟩
    split at h
    ·rename_i v L _;cases h;exact⟨aHN I L (K.hty.mem _ (Kz q)) j,⟨e,trivial⟩,fun _=>rfl⟩
    cases h
   cases h
  cases h
 ·rename_i t x j;split at h
  ·rename_i m;cases h;exact⟨aoU m j,⟨rfl,trivial⟩,fun M=>by cases M⟩
  cases h
 ·rename_i t j;split at h
  ·rename_i z hz;cases h;exact⟨agY (K.hzero.mem _ (Kz hz)).1 (K.hzero.mem _ (Kz hz)).2 j,trivial,fun M=>by cases M⟩
  cases h
 ·rename_i t x y j;split at h
  ·rename_i agg n k off q e;split at h
   ·rename_i cs I;split at h
    ·split at h
     ·rename_i m;cases h;refine⟨BQ.aso (aHV (v:=.d (.sl [])) I rfl (by have h9:=(K.hty.mem _ (Kz q)).size;rw[m.1]at h9;exact h9) rfl m.2 j) (fun n hn=>?_),⟨e,trivial⟩,fun M=>by cases M⟩;simp only[Em,FH,ZW]at hn;rcases hn with rfl|rfl
      ·exact .inl BG
      exact .inr rfl
     cases h
    split at h
    ·rename_i m;cases h;exact⟨aHV I m.1.1 (K.hty.mem _ (Kz q)).size m.1.2 m.2 j,⟨e,rfl,trivial⟩,fun M=>by cases M⟩
    cases h
   cases h
  cases h
 ·rename_i t parts j;split at h
  ·rename_i Y z hs;split at h
   ·rename_i m;cases h;exact⟨aiM (K.hst.mem _ (Kz hs)) _ j rfl m.1 m.2,aEX σ _,fun _=>rfl⟩
   cases h
  split at h
  ·rename_i s z hs;split at h
   ·rename_i m;cases h;exact⟨ahj (K.harr.mem _ (Kz hs)) _ m.1 m.2 j,aEX σ _,fun _=>rfl⟩
   cases h
  cases h
 ·rename_i c j;split at h
  ·rename_i x t J ha ht
   have j:o.op=.call { callee:=.builtin .len,args:= #[x],argTypes:= #[t] }:=by
    obtain⟨cal,avx,ts⟩:=c;simp only at J ha ht;rw[j,J,show avx= #[x]from by rw[←bK (xs:=avx),ha],show ts= #[t]from by rw[←bK (xs:=ts),ht]]
   split at h
   ·rename_i s q e;cases h;exact⟨afy s (K.acH.mem _ (Kz q)) j,⟨e,trivial⟩,fun _=>rfl⟩
   cases h
  cases h
 cases h
def IE (ops:Array Oper) (σ:Ai):Option (Nat×Bool)→Option Bool
 |none=>some true
 |some (j,f)=>match(ops[j]?).bind (·.dst)with
  |some d=>match σ.slots.getD d .junk with
   | .d (.lit (.bool b))=>some (b==f)
   | .d (.lit (.tuple a))=>match a.toList with
     | []=>some false
     |_=>none
   |_=>none
  |none=>none
def Jb {ops:Array Oper} {σ:Ai} {g:Option (Nat×Bool)} (h:IE ops σ g=some true):SS ops σ g:=by
 unfold IE at h;split at h
 ·exact .inl rfl
 rename_i j f;split at h
 ·rename_i d hd;split at h
  ·rename_i b m;refine .inr ⟨j,f,d,b,rfl,hd,m,?_⟩;simpa using h
  ·split at h<;>cases h
  cases h
 cases h
def asQ {ops:Array Oper} {σ:Ai} {g:Option (Nat×Bool)} (h:IE ops σ g=some false):Uk ops σ g:=by
 unfold IE at h;split at h
 ·cases h
 rename_i j f;split at h
 ·rename_i d hd;split at h
  ·rename_i b m;refine akA j f d b rfl hd m ?_;have :(b==f)=false:=Bl h;cases b<;>cases f<;>first|rfl|cases this
  ·rename_i a m;split at h
   ·rename_i ha;have ha:a= #[]:=by rw[←bK (xs:=a),ha]
    subst ha;exact amO j f d rfl hd m
   cases h
  cases h
 cases h
def Td {P:Program} (K:Kn P) (ops:Array Oper) (σ:Ai) (o:Oper):Option NM:=
 match IE ops σ o.guard with
 |some true=>match aG6 K σ o with
  |some r=>if(Js r.ns).all (tmpsOf o).contains=true then some r else none
  |none=>none
 |some false=>some ⟨[],.d (.lit undef),σ.ents,false⟩
 |none=>none
def VQ {P:Program} (K:Kn P) {ops:Array Oper} {σ:Ai} {o:Oper} {r:NM} (h:Td K ops σ o=some r):OO P ops σ r.x r.E r.bar o:=by
 unfold Td at h;split at h
 ·rename_i f;split at h
  ·rename_i u j;split at h
   ·rename_i m;cases h;obtain⟨n,q,s⟩:=aqV K j;exact⟨.inl ⟨_,n,q,m,Jb f⟩,s⟩
   cases h
  cases h
 ·rename_i f;cases h;exact⟨.inr ⟨rfl,rfl,asQ f⟩,fun _=>rfl⟩
 cases h
def Fb {P:Program} (K:Kn P) (ops:Array Oper):Nat→List Oper→Ai→Option (Ai×List NM)
 |0,_,σ=>some (σ,[])
 |n+1,l,σ=>match l with
  |o::l=>match Td K ops σ o with
   |some r=>match Fb K ops n l (σ.put o.dst r.x r.E)with
    |some (σ',rs)=>some (σ',r::rs)
    |none=>none
   |none=>none
  | []=>none
def OE :Option (Ai×List NM)→Ai
 |some (σ,_)=>σ
 |none=>⟨[],[],0⟩
def WQ :Option (Ai×List NM)→List NM
 |some (_,rs)=>rs
 |none=>[]
def Chain.auto {P:Program} (K:Kn P) {ops:Array Oper}:∀(n:Nat) {l:List Oper} {σ σ':Ai},(Fb K ops n l σ).isSome=true→Chain P ops (l.drop n) (OE (Fb K ops n l σ)) σ'→Chain P ops l σ σ'
 |0,l,σ,σ',_,k=>by simpa[Fb,OE]using k
 |n+1,l,σ,σ',h,k=>by
  unfold Fb at h k;split at h
  ·rename_i o m;split at h
   ·rename_i r j;split at h
    ·rename_i q rs f;simp only[j,f]at k;refine .Ya o.dst (VQ K j) rfl (Chain.auto K n Tf ?_);rw[f];exact k
    cases h
   cases h
  cases h
def EP.auto {P:Program} (K:Kn P) {ops:Array Oper}:∀(n:Nat) {l:List Oper} {σ σ':Ai} {rs:List AV} {ess:List (List Au)} {bs:List Bool},(Fb K ops n l σ).isSome=true→EP P ops (l.drop n) (OE (Fb K ops n l σ)) rs ess bs σ'→
 EP P ops l σ ((WQ (Fb K ops n l σ)).map NM.x++rs) ((WQ (Fb K ops n l σ)).map NM.E++ess) ((WQ (Fb K ops n l σ)).map NM.bar++bs) σ'
 |0,l,σ,σ',rs,ess,bs,_,k=>by simpa[Fb,OE,WQ]using k
 |n+1,l,σ,σ',rs,ess,bs,h,k=>by
  unfold Fb at h k ⊢;split at h
  ·rename_i o m;split at h
   ·rename_i r j;split at h
    ·rename_i s q f;simp only[j,f]at k ⊢;refine .Ya o.dst (VQ K j) rfl ?_;have :=EP.auto K n (l:=m) (σ:=σ.put o.dst r.x r.E) (σ':=σ') (rs:=rs) (ess:=ess) (bs:=bs) Tf (by rw[f];exact k);rw[f]at this;exact this
    cases h
   cases h
  cases h
def Chain.a {P:Program} [T:Kn P] {ops:Array Oper} {l:List Oper} {σ σ':Ai} (n:Nat) (k:Chain P ops (l.drop n) (OE (Fb T ops n l σ)) σ') (h:(Fb T ops n l σ).isSome=true:=by kernel_rfl):Chain P ops l σ σ':=Chain.auto T n h k
def EP.a {P:Program} [T:Kn P] {ops:Array Oper} {l:List Oper} {σ σ':Ai} {rs:List AV} {ess:List (List Au)} {bs:List Bool} (n:Nat) (k:EP P ops (l.drop n) (OE (Fb T ops n l σ)) rs ess bs σ') (h:(Fb T ops n l σ).isSome=true:=by kernel_rfl):
 EP P ops l σ ((WQ (Fb T ops n l σ)).map NM.x++rs) ((WQ (Fb T ops n l σ)).map NM.E++ess) ((WQ (Fb T ops n l σ)).map NM.bar++bs) σ':=EP.auto T n h k
def Chain.c {P:Program} [T:Kn P] {ops:Array Oper} {o:Oper} {rest:List Oper} {σ σ':Ai} {e c:Bool} (h:some e=some c) (k:Chain P ops rest (σ.oG o.dst (.d (.lit (.bool c)))) σ') (j:(Td T ops σ o).map (fun r=>(r.x,r.E,r.bar))=some (.d (.lit (.bool e)),σ.ents,false):=by kernel_rfl):Chain P ops (o::rest) σ σ':=by
 rw[Qq]at j;obtain⟨r,n,f⟩:=j;have m:=VQ T n;simp only[Q5]at f;rw[f.1,f.2.1,f.2.2,Bl h]at m;exact .Ya o.dst m rfl k
def EP.c {P:Program} [T:Kn P] {ops:Array Oper} {o:Oper} {rest:List Oper} {σ σ':Ai} {rs:List AV} {ess:List (List Au)} {bs:List Bool} {e c:Bool} (h:some e=some c) (k:EP P ops rest (σ.oG o.dst (.d (.lit (.bool c)))) rs ess bs σ') (j:(Td T ops σ o).map (fun r=>(r.x,r.E,r.bar))=some (.d (.lit (.bool e)),σ.ents,false):=by kernel_rfl):
 EP P ops (o::rest) σ (.d (.lit (.bool c))::rs) (σ.ents::ess) (false::bs) σ':=by
 rw[Qq]at j;obtain⟨r,n,f⟩:=j;have m:=VQ T n;simp only[Q5]at f;rw[f.1,f.2.1,f.2.2,Bl h]at m;exact .Ya o.dst m rfl k
def aJF (σ:Ai) (ns:List (Operand×AV)):Prop:=(ns.map fun n=>σ.get n.1)=ns.map (·.2)
def Rh {σ:Ai}:∀{ns:List (Operand×AV)},aJF σ ns→needs σ ns
 | [],_=>trivial
 |n::ns,h=>by
  simp only[aJF,J5,aGW]at h;exact⟨h.1,Rh h.2⟩
def Chain.p {P:Program} {ops:Array Oper} {o:Oper} {rest:List Oper} {σ σ':Ai} {ns:List (Operand×AV)} {x:AV} (h:BQ P o ns σ.ents x σ.ents) (k:Chain P ops rest (σ.oG o.dst x) σ') (f:(ns.map fun n=>σ.get n.1)=ns.map (·.2):=by kernel_rfl) (j:IE ops σ o.guard=some true:=by kernel_rfl):Chain P ops (o::rest) σ σ':=
 .op o.dst h (Rh f) (Jb j) rfl k
def EP.p {P:Program} {ops:Array Oper} {o:Oper} {rest:List Oper} {σ σ':Ai} {ns:List (Operand×AV)} {x:AV} {rs:List AV} {ess:List (List Au)} {bs:List Bool} (h:BQ P o ns σ.ents x σ.ents) (k:EP P ops rest (σ.oG o.dst x) rs ess bs σ') (f:(ns.map fun n=>σ.get n.1)=ns.map (·.2):=by kernel_rfl) (j:IE ops σ o.guard=some true:=by kernel_rfl)
 (m:(Js ns).all (tmpsOf o).contains=true:=by kernel_rfl):EP P ops (o::rest) σ (x::rs) (σ.ents::ess) (false::bs) σ':=
 .op o.dst h (Rh f) (Jb j) rfl m k
def Chain.e {P:Program} {ops:Array Oper} {o:Oper} {rest:List Oper} {σ σ':Ai} {ns:List (Operand×AV)} {x:AV} {es':List Au} (E:List Au) (h:BQ P o ns σ.ents x es') (k:Chain P ops rest (σ.put o.dst x E) σ') (f:es'=E:=by kernel_rfl) (j:(ns.map fun n=>σ.get n.1)=ns.map (·.2):=by kernel_rfl) (m:IE ops σ o.guard=some true:=by kernel_rfl):Chain P ops (o::rest) σ σ':=
 .oe o.dst E h f (Rh j) (Jb m) rfl k
def EP.e {P:Program} {ops:Array Oper} {o:Oper} {rest:List Oper} {σ σ':Ai} {ns:List (Operand×AV)} {x:AV} {es':List Au} {rs:List AV} {ess:List (List Au)} {bs:List Bool} (E:List Au) (h:BQ P o ns σ.ents x es') (k:EP P ops rest (σ.put o.dst x E) rs ess bs σ') (f:es'=E:=by kernel_rfl) (j:(ns.map fun n=>σ.get n.1)=ns.map (·.2):=by kernel_rfl) (m:IE ops σ o.guard=some true:=by kernel_rfl)
 (q:(Js ns).all (tmpsOf o).contains=true:=by kernel_rfl):EP P ops (o::rest) σ (x::rs) (E::ess) (true::bs) σ':=
 .oe o.dst E h f (Rh j) (Jb m) rfl q k
def Rf (σ:Ai) (o:Oper):Option (FuncId×List AV):=
 match o.op with
 | .call c=>match c.callee with
   | .value (.func f)=>some (f,c.args.toList.map σ.get)
   |_=>none
 |_=>none
def aHC {srcs:List Cj}:∀{l:List AV},l.all AV.wX=true→Jh srcs l l
 | [],_=>trivial
 |x::l,h=>by
  simp only[List.all_cons,Bv]at h;refine⟨?_,aHC h.2⟩;cases x with
  |d x=>exact .inl rfl
  |_=>cases h.1
def aHM (σ:Ai):∀(l:List Operand),needs σ (EM l (l.map σ.get))
 | []=>trivial
 |_::l=>⟨rfl,aHM σ l⟩
def yw {P:Program} {σ:Ai} {o:Oper} {f:FuncId} {dH:List AV} {q:AV} (J:Aw P f dH [] q []) (L:DC P f=true) (m:Rf σ o=some (f,dH)) (hd:dH.all AV.wX=true):∃ns,BQ P o ns σ.ents (q.up [] σ.ents.length) σ.ents∧needs σ ns∧(Js ns).all (tmpsOf o).contains=true:=by
 unfold Rf at m;split at m
 ·rename_i c I;split at m
  ·rename_i S j;cases m;obtain⟨callee,args,ats⟩:=c;simp only at j;subst j;refine⟨_,acV J L (aHC hd) BG rfl I,aHM σ _,?_⟩;rw[DV];intro t u;unfold Js at u;rw[Ph]at u;obtain⟨n,M,z⟩:=u
   have s:n.1∈args.toList:=by
    have :∀(l:List Operand) (vs:List AV),n∈EM l vs→n.1∈l:=by
     intro l
     induction l with
     |nil=>intro vs h;cases vs<;>simp[EM]at h
     |cons x l O=>
      intro vs h;cases vs with
      |nil=>simp[EM]at h
      |cons v vs=>
       simp only[EM,Em]at h;rcases h with rfl|h
       ·exact Fa
       exact Gq _ (O vs h)
    exact this _ _ M
   unfold tmpsOf;simp only[List.contains_iff_mem,Ph];refine⟨n.1,?_,z⟩;rw[I];show n.1∈(#[Operand.func f]++args).toList;simp[s]
  cases m
 cases m
def Chain.call {P:Program} {ops:Array Oper} {o:Oper} {rest:List Oper} {σ σ':Ai} {f:FuncId} {dH:List AV} {h:AV} (j:Aw P f dH [] h []) (m:DC P f=true) (k:Chain P ops rest (σ.oG o.dst (h.up [] σ.ents.length)) σ') (n:Rf σ o=some (f,dH):=by kernel_rfl)
 (hd:dH.all AV.wX=true:=by kernel_rfl) (q:IE ops σ o.guard=some true:=by kernel_rfl):Chain P ops (o::rest) σ σ':=by
 obtain⟨ns,s,u,_⟩:=yw j m n hd;exact .op o.dst s u (Jb q) rfl k
def EP.call {P:Program} {ops:Array Oper} {o:Oper} {rest:List Oper} {σ σ':Ai} {f:FuncId} {dH:List AV} {h:AV} {rs:List AV} {ess:List (List Au)} {bs:List Bool} (j:Aw P f dH [] h []) (m:DC P f=true) (k:EP P ops rest (σ.oG o.dst (h.up [] σ.ents.length)) rs ess bs σ') (n:Rf σ o=some (f,dH):=by kernel_rfl)
 (hd:dH.all AV.wX=true:=by kernel_rfl) (q:IE ops σ o.guard=some true:=by kernel_rfl):EP P ops (o::rest) σ (h.up [] σ.ents.length::rs) (σ.ents::ess) (false::bs) σ':=by
 obtain⟨ns,s,u,z⟩:=yw j m n hd;exact .op o.dst s u (Jb q) rfl z k
def lJ (v:Value):Exit:=.panic [{ v,recovered:=false }]
structure CJ (P:Program) (ops:Array Oper) (l:List Oper) (σ:Ai) (K:Exit→Ai→Prop):Prop where
 run:∀(ro:Option Nat) (l2:List Oper) (Q:Exit→Act→World→Prop) (C:DZ) (ok:Nat→Prop) (H:List BN) (a:Act) (w:World),Holds C ok H σ a w→
  ((∀σ' ok' H' a' w',K .normal σ'→Holds C ok' H' σ' a' w'→wpListIn (Gg ro) 0 P ops Q l2 a' w')∧(∀v σ' ok' H' a' w',K (lJ v) σ'→Holds C ok' H' σ' a' w'→Q (lJ v) a' w'))→wpListIn (Gg ro) 0 P ops Q (l++l2) a w
section
variable {P : Program} {ops : Array Oper} {o : Oper} {rest l : List Oper} {σ : Ai} {K : Exit → Ai → Prop}
def CJ.nil (h:K .normal σ):CJ P ops [] σ K:=⟨fun _ _ _ _ _ _ _ _ f j=>j.1 _ _ _ _ _ h f⟩
def CJ.bD {M:Ai→Prop} (h:M σ):CJ P ops [] σ (Ik M K):=.nil h
def CJ.step {x:AV} {E:List Au} {bar:Bool} (z:OO P ops σ x E bar o) (k:CJ P ops rest (σ.put o.dst x E) K):CJ P ops (o::rest) σ K:=by
 refine⟨fun ro h Q C ok H a w f u=>?_⟩;show wpListIn (Gg ro) 0 P ops Q (o::(rest++h)) a w;unfold wpListIn;rcases z.1 with⟨ns,I,J,_,j⟩|⟨rfl,rfl,j⟩
 ·rw[CG (NS f j)];refine Nr ?_ (I.WW ro C ok H a w Q f.mem (fun n m=>MR J n m▸f.get n.1));rintro a' w' ⟨v,ok',H',rfl,q,s,L,M⟩;exact k.run ro h Q C _ _ _ _ (f.put o.dst q s L M) u
 rw[CV (by rw[aCf f j];simp)];exact⟨fun _ _=>trivial,k.run ro h Q C _ _ _ _ (f.put o.dst (.refl _ _) (.refl _) f.mem (.d _ _ (.lit _))) u⟩
def CJ.conv (j:Ai) (h:∀C ok H a w,Holds C ok H σ a w→∃ok',Holds C ok' H j a w) (k:CJ P ops l j K):CJ P ops l σ K:=⟨fun ro m Q C ok H a w n q=>by
 obtain⟨ok',f⟩:=h C ok H a w n
 exact k.run ro m Q C _ _ _ _ f q⟩
def CJ.auto (T:Kn P):∀(n:Nat) {l:List Oper} {σ:Ai},(Fb T ops n l σ).isSome=true→CJ P ops (l.drop n) (OE (Fb T ops n l σ)) K→CJ P ops l σ K
 |0,l,σ,_,k=>by simpa[Fb,OE]using k
 |n+1,l,σ,h,k=>by
  unfold Fb at h k;split at h
  ·rename_i o m;split at h
   ·rename_i r j;split at h
    ·rename_i q rs f;simp only[j,f]at k;refine .step (VQ T j) (CJ.auto T n Tf ?_);rw[f];exact k
    cases h
   cases h
  cases h
def CJ.a [T:Kn P] (n:Nat) (k:CJ P ops (l.drop n) (OE (Fb T ops n l σ)) K) (h:(Fb T ops n l σ).isSome=true:=by kernel_rfl):CJ P ops l σ K:=CJ.auto T n h k
def CJ.p {ns:List (Operand×AV)} {x:AV} (h:BQ P o ns σ.ents x σ.ents) (k:CJ P ops rest (σ.oG o.dst x) K) (f:(ns.map fun n=>σ.get n.1)=ns.map (·.2):=by kernel_rfl) (j:IE ops σ o.guard=some true:=by kernel_rfl) (m:(Js ns).all (tmpsOf o).contains=true:=by kernel_rfl):CJ P ops (o::rest) σ K:=
 .step (aaN h (Rh f) (Jb j) m) k
def CJ.e {ns:List (Operand×AV)} {x:AV} {es':List Au} (E:List Au) (h:BQ P o ns σ.ents x es') (k:CJ P ops rest (σ.put o.dst x E) K) (f:es'=E:=by kernel_rfl) (j:(ns.map fun n=>σ.get n.1)=ns.map (·.2):=by kernel_rfl) (m:IE ops σ o.guard=some true:=by kernel_rfl) (q:(Js ns).all (tmpsOf o).contains=true:=by kernel_rfl):CJ P ops (o::rest) σ K:=
 .step (bar:=true) ⟨.inl ⟨ns,f▸h,Rh j,q,Jb m⟩,fun h=>GX⟩ k
def CJ.call {f:FuncId} {dH:List AV} {h:AV} (j:Aw P f dH [] h []) (m:DC P f=true) (k:CJ P ops rest (σ.oG o.dst (h.up [] σ.ents.length)) K) (n:Rf σ o=some (f,dH):=by kernel_rfl)
 (hd:dH.all AV.wX=true:=by kernel_rfl) (q:IE ops σ o.guard=some true:=by kernel_rfl):CJ P ops (o::rest) σ K:=by
 obtain⟨ns,s,u,z⟩:=yw j m n hd;exact .step (aaN s u (Jb q) z) k
def CJ.c [T:Kn P] {e c:Bool} (h:some e=some c) (k:CJ P ops rest (σ.oG o.dst (.d (.lit (.bool c)))) K) (j:(Td T ops σ o).map (fun r=>(r.x,r.E,r.bar))=some (.d (.lit (.bool e)),σ.ents,false):=by kernel_rfl):CJ P ops (o::rest) σ K:=by
 rw[Qq]at j;obtain⟨r,n,f⟩:=j;have m:=VQ T n;simp only[Q5]at f;rw[f.1,f.2.1,f.2.2,Bl h]at m;exact .step m k
def Ai.wipe (f:List Nat) (σ:Ai):Ai:=⟨f.foldl (fun l d=>l.set d .junk) σ.slots,σ.ents,σ.base⟩
def Holds.wipe {C:DZ} {ok:Nat→Prop} {H:List BN} {a:Act} {w:World}:∀(f:List Nat) {σ:Ai},Holds C ok H σ a w→Holds C ok H (σ.wipe f) a w
 | [],σ,h=>h
 |d::f,σ,h=>by
  refine Holds.wipe f (σ:=⟨σ.slots.set d .junk,σ.ents,σ.base⟩) ⟨h.mem,by simpa using h.size,h.defers,h.base,fun t j=>?_⟩;simp only[Zy]at j;by_cases e:d=t
  ·subst e;have m:(σ.slots.set d .junk).getD d .junk=.junk:=lg
   rw[m];exact .junk _
  have m:(σ.slots.set d .junk).getD t .junk=σ.slots.getD t .junk:=aFa
  rw[m];exact h.slot t j
def ahY (n:Nat) (l f:List Oper):l++f=l.take n++(l.drop n++f):=by
 rw[←G6,iT]
def CJ.join (n:Nat) (M:Ai→Prop) (m:∀s,M s→CJ P ops (l.drop n) s K) (q:CJ P ops (l.take n) σ (Ik M K)):CJ P ops l σ K:=⟨fun ro h Q C ok H a w u j=>by
 rw[ahY n l h]
 exact q.run ro _ Q C ok H a w u ⟨fun σ' ok' H' a' w' z f=>(m σ' z).run ro h Q C ok' H' a' w' f j,j.2⟩⟩
def CJ.merge (n:Nat) (f:List Nat) (d:Nat) (x:AV) (j:CJ P ops (l.take n) σ (Ik (fun s=>s.wipe f=(σ.wipe f).oG (some d) x) K)) (m:CJ P ops (l.drop n) ((σ.wipe f).oG (some d) x) K):CJ P ops l σ K:=
 .join n _ (fun s q=>⟨fun ro u Q C ok H a w z I=>by
  have e:s.wipe f=(σ.wipe f).oG (some d) x:=q;have h:=z.wipe f;rw[e]at h
  exact m.run ro u Q C ok H a w h I⟩) j
def BJ {id:Nat} {Q:Exit→Ai→Prop} (h:CJ P ops ops.toList σ Q):AB P (.region id ops false) σ Q:=⟨fun ro _ C ok H a w m=>by
 refine az4 ?_;have :=h.run ro [] (fun e a' w'=>∃ok' H' σ',Holds C ok' H' σ' a' w'∧Q e σ') C ok H a w m ⟨fun σ' ok' H' a' w' j f=>⟨ok',H',σ',f,j⟩,fun v σ' ok' H' a' w' j f=>⟨ok',H',σ',f,j⟩⟩
 rwa [QW]at this⟩
def AL {id:Nat} {y:Code} {Q:Exit→Ai→Prop} (h:CJ P ops ops.toList σ (Ik (fun s=>AB P y s Q) Q)):AB P (.seq (.region id ops false) y) σ Q:=
 AB.seq (fun s=>AB P y s Q) (BJ h) (fun _ h=>h)
end
def BM (n:Nat) (l:List (Nat×AV)):List AV:=(List.range n).map fun i=>(Na i l).getD .junk
def mk (n w:Nat):List Bool:=(List.range n).map fun i=>Nat.testBit w i
def alJ {σ S:Ai} (m:List Bool) (π:List (Nat×Bool)) (f:Qx σ.base σ.ents π=true:=by kernel_rfl) (h:S=⟨IV π m σ.slots,OJ σ.ents π,σ.base⟩:=by kernel_rfl):Bq σ S:=zC.sub ⟨m,π,f,h⟩
inductive Jd (P:Program) where
 |call (i:Nat) (f:FuncId) (dH:List AV) (res:AV) (run:Aw P f dH [] res []) (ent:DC P f=true) (dat:dH.all AV.wX=true)
 |dat (i:Nat) (op:Op) (ns:List (Operand×AV)) (x:AV) (h:∀(o:Oper) (es:List Au),o.op=op→BQ P o ns es x es)
 |at_ (i:Nat) (op:Op) (ns:List (Operand×AV)) (k:Nat) (e:Au) (x:AV) (h:∀(o:Oper) (es:List Au),es[k]? =some e→o.op=op→BQ P o ns es x es)
 |fix (i:Nat) (op:Op) (ns:List (Operand×AV)) (es:List Au) (x:AV) (E:List Au) (h:∀(o:Oper),o.op=op→BQ P o ns es x E)
def Jd.ix {P:Program}:Jd P→Nat
 | .call i .. =>i
 | .dat i .. =>i
 | .at_ i .. =>i
 | .fix i .. =>i
inductive VX where
 |call (c:Option (FuncId×List AV))
 |dat (op:Op) (vs:List AV)
 |at_ (op:Op) (vs:List AV) (e:Option Au)
 |fix (op:Op) (vs:List AV) (es:List Au)
def aCG {P:Program} (i:Nat):List (Jd P)→Option (Jd P)
 | []=>none
 |c::l=>match Nat.beq i c.ix with |true=>some c|false=>aCG i l
section
variable {P : Program}
def fZ (σ:Ai) (o:Oper):Jd P→Ai×Option VX
 | .call _ _ _ f _ _ _=>(σ.oG o.dst (f.up [] σ.ents.length),some (.call (Rf σ o)))
 | .dat _ _ ns x _=>(σ.oG o.dst x,some (.dat o.op (ns.map fun n=>σ.get n.1)))
 | .at_ _ _ ns k _ x _=>(σ.oG o.dst x,some (.at_ o.op (ns.map fun n=>σ.get n.1) σ.ents[k]?))
 | .fix _ _ ns _ x E _=>(σ.put o.dst x E,some (.fix o.op (ns.map fun n=>σ.get n.1) σ.ents))
def oH :Jd P→VX
 | .call _ f dH _ _ _ _=>.call (some (f,dH))
 | .dat _ op ns _ _=>.dat op (ns.map (·.2))
 | .at_ _ op ns _ e _ _=>.at_ op (ns.map (·.2)) (some e)
 | .fix _ op ns es _ _ _=>.fix op (ns.map (·.2)) es
def U1 (T:Kn P) (L:List (Jd P)) (ops:Array Oper) (σ:Ai) (i:Nat):Option (Ai×Option VX):=
 match ops[i]? with
 |none=>none
 |some o=>match aCG i L with
  |some c=>match IE ops σ o.guard with
   |some true=>some (fZ σ o c)
   |_=>none
  |none=>match Td T ops σ o with
   |some r=>some (σ.put o.dst r.x r.E,none)
   |none=>none
def JQ (T:Kn P) (L:List (Jd P)) (ops:Array Oper) (σ:Ai):List Nat→Ai
 | []=>σ
 |i::l=>match U1 T L ops (JQ T L ops σ l) i with
  |some (σ',_)=>σ'
  |none=>σ
def XU (ops:Array Oper) (m:List Nat) (i:Nat):Bool:=match ops[i]? with
 |some o=>o.after.toList.all fun e=> !Region.binds .any e||(m.contains e.on&&decide (e.on<ops.size))
 |none=>false
def aEL (ops:Array Oper) (N:List (List Nat)) (F:List Nat) (k:Nat) (m:List Nat) (T:List (Nat×Nat×Nat)):Bool:=
 ((List.range ops.size).all fun i=>m.contains i|| !XU ops m i||
   T.any fun t=>t.2.1==i&&decide (t.2.2<N.length)&&(fun q=>(List.range ops.size).all fun j=>q.contains j==(m.contains j||j==i)) (N.getD t.2.2 []))&&
 (F.contains k||(List.range ops.size).any fun i=> !m.contains i&&XU ops m i)
def yT (ops:Array Oper) (N:List (List Nat)) (F:List Nat):Nat→List (List Nat)→List (Nat×Nat×Nat)→Bool
 |_,[],_=>true
 |k,m::M,Tr=>aEL ops N F k m (Tr.takeWhile fun t=>t.1==k)&&yT ops N F (k+1) M (Tr.dropWhile fun t=>t.1==k)
def iO (ops:Array Oper) (N:List (List Nat)) (Tr:List (Nat×Nat×Nat)) (F:List Nat):Bool:=yT ops N F 0 N Tr
def aJr {α:Type} {p:α→Bool}:∀{l:List α} {x:α},x∈l.takeWhile p→p x=true
 | [],_,h=>Fq
 |y::l,x,h=>by
  rw[List.takeWhile_cons]at h;cases f:p y with
  |true=>
   rw[f]at h;rcases Em.1 h with rfl|h
   ·exact f
   exact aJr h
  |false=>rw[f]at h;simp at h
def ac1 {ops:Array Oper} {N:List (List Nat)} {F:List Nat}:∀(M:List (List Nat)) (k:Nat) (Tr:List (Nat×Nat×Nat)),yT ops N F k M Tr=true→∀j,j<M.length→
 ∃T,aEL ops N F (k+j) (M.getD j []) T=true∧∀t∈T,t∈Tr∧t.1=k+j
 | [],_,_,_,j,n=>XG
 |m::M,k,Tr,h,j,n=>by
  unfold yT at h;rw[Bv]at h;cases j with
  |zero=>exact⟨_,h.1,fun t f=>⟨(List.takeWhile_sublist _).subset f,by have :=aJr f;simpa using this⟩⟩
  |succ j=>
   obtain⟨T,s,q⟩:=ac1 M (k+1) _ h.2 j NQ;refine⟨T,?_,fun t f=>⟨(aGM _).subset (q t f).1,?_⟩⟩
   ·rw[show k+(j+1)=k+1+j by omega];simpa using s
   rw[(q t f).2];omega
def Us (L:List (Jd P)) (i:Nat):Option VX:=(aCG i L).map oH
def aip (T:Kn P) {L:List (Jd P)} {ops:Array Oper} {σ σ':Ai} {i:Nat} {o:Oper} (s:ops[i]? =some o) (h:U1 T L ops σ i=some (σ',Us L i)):
 ∃x E,((∃ns,BQ P o ns σ.ents x E∧needs σ ns∧SS ops σ o.guard)∨(x=.d (.lit undef)∧E=σ.ents∧Uk ops σ o.guard))∧σ'=σ.put o.dst x E:=by
 unfold U1 Us at h;rw[s]at h;simp only at h;split at h
 ·rename_i c u;split at h
  ·rename_i m;simp only[u,GN,Io]at h;cases c with
   |call i f dH z run ent dat=>
    simp only[fZ,oH,Q5,Io,VX.call.injEq]at h;obtain⟨ns,n,q,J⟩:=yw run ent h.2 dat;exact⟨_,_,.inl ⟨ns,n,q,Jb m⟩,h.1.symm⟩
   |dat i op ns x j=>
    simp only[fZ,oH,Q5,Io,VX.dat.injEq]at h;exact⟨_,_,.inl ⟨ns,j o _ h.2.1,Rh h.2.2,Jb m⟩,h.1.symm⟩
   |at_ i op ns k e x j=>
    simp only[fZ,oH,Q5,Io,VX.at_.injEq]at h;exact⟨_,_,.inl ⟨ns,j o _ h.2.2.2 h.2.1,Rh h.2.2.1,Jb m⟩,h.1.symm⟩
   |fix i op ns es x E j=>
    simp only[fZ,oH,Q5,Io,VX.fix.injEq]at h;exact⟨_,_,.inl ⟨ns,h.2.2.2▸j o h.2.1,Rh h.2.2.1,Jb m⟩,h.1.symm⟩
  cases h
 split at h
 ·rename_i r I;simp only[Io,Q5]at h;obtain⟨n,q⟩:=VQ T I;refine⟨_,_,?_,h.1.symm⟩;rcases n with⟨ns,a,b,_,c⟩|⟨a,b,c⟩
  ·exact .inl ⟨ns,a,b,c⟩
  exact .inr ⟨a,b,c⟩
 cases h
def mJ (s t:Ai):Prop:=∀C ok H a w,Holds C ok H s a w→∃ok' H',Holds C ok' H' t a w
def amn (s:Ai):mJ s s:=fun _ ok H _ _ h=>⟨ok,H,h⟩
def YV {s t:Ai} (h:Bq s t):mJ s t:=h
def AB.nodes (T:Kn P) {id:Nat} {ops:Array Oper} {σ:Ai} {Q:Exit→Ai→Prop} (L:List (Jd P)) (N:List (List Nat)) (Tr:List (Nat×Nat×Nat)) (F:List Nat) (Z:Ai) (hm:P.follows .mixedOrders=true) (hN:iO ops N Tr F=true) (h0:N.getD 0 [0]=[])
 (hT:(Tr.map fun t=>U1 T L ops (JQ T L ops σ (N.getD t.1 [])) t.2.1)=Tr.map fun t=>some (JQ T L ops σ (N.getD t.2.2 []),Us L t.2.1))
 (hF:Nj (fun k=>mJ (JQ T L ops σ (N.getD k [])) Z) F) (hQ:Q .normal Z):AB P (.region id ops true) σ Q:=by
 refine⟨fun ro _ C ok H a w f=>?_⟩;refine rG hm ?_
 let S:Nat→Ai:=fun k=>JQ T L ops σ (N.getD k [])
 let I:Array Bool→Act→World→Prop:=fun l a w=>l.size=ops.size∧∃k ok H,k<N.length∧(∀i,i<ops.size→l.getD i false=(N.getD k []).contains i)∧Holds C ok H (S k) a w
 have hNN:∀k,k<N.length→(((List.range ops.size).all fun i=>(N.getD k []).contains i|| !XU ops (N.getD k []) i||
  Tr.any fun t=>t.1==k&&t.2.1==i&&decide (t.2.2<N.length)&&(List.range ops.size).all fun j=>(N.getD t.2.2 []).contains j==((N.getD k []).contains j||j==i))&&
  (F.contains k||(List.range ops.size).any fun i=> !(N.getD k []).contains i&&XU ops (N.getD k []) i))=true:=fun k hk=>by
  obtain⟨T,s,z⟩:=ac1 N 0 Tr hN k hk;unfold aEL at s;rw[Hz,Bv,DV]at s;rw[Bv,DV];refine⟨fun i hi=>?_,s.2⟩;have m:=s.1 i hi;rw[XJ]at m ⊢;rcases m with m|m
  ·exact .inl m
  obtain⟨t,ht,h4⟩:=GV.1 m;obtain⟨O,J⟩:=z t ht;rw[Hz]at J;refine .inr (GV.2 ⟨t,O,?_⟩);rw[show(t.1==k)=true by simpa using J,FC];exact h4
 refine qJ I (fun l a w h=>h.1) ?_ ?_ ops.size _ _ _ ?_ ?_
 ·rintro l a w ⟨s,k,ok,H,hk,hl,f⟩ i hi;unfold Region.ready at hi;rw[Fl]at hi;obtain⟨hi1,hi2⟩:=hi;have hi':i<ops.size:=zZ
  have ho:ops[i]? =some ops[i]:=by simp[hi']
  simp only[Bv]at hi2;have q:=hi2.2;rw[ho]at q;simp only[GN,KF]at q;have M:=fun e he=>(O7.1 q) e he
  have hself:l.getD i false=false:=by
   have h8:=hi2.1;have hil:i<l.size:=AA
   simp[Array.getD,hil]at h8 ⊢;exact h8
  have hnc:(N.getD k []).contains i=false:=by rw[←hl i hi'];exact hself
  have hrd:XU ops (N.getD k []) i=true:=by
   unfold XU;rw[ho];simp only[DV];intro e he;have h9:=M e jg;cases hb:Region.binds .any e with
   |false=>simp
   |true=>
    simp only[hb,EF,JF]at h9 ⊢;by_cases hon:e.on<ops.size
    ·rw[←hl e.on hon,h9];simp[hon]
    have :l.getD e.on false=false:=by simp[Array.getD,show ¬e.on<l.size by omega]
    rw[this]at h9;cases h9
  have z:=hNN k hk;simp only[Bv,DV]at z;have m:=z.1 i (by simpa using hi');rw[hnc,hrd]at m;simp only[EF,Bool.or_self,JF,GV]at m;obtain⟨⟨k',u,t⟩,htm,h4⟩:=m;simp only[Bv,QS,FI,DV]at h4;obtain⟨⟨⟨rfl,rfl⟩,ht⟩,O⟩:=h4;have J:U1 T L ops (S k') u=some (S t,Us L u):=List.map_inj_left.1 hT (k',u,t) htm;obtain⟨x,E,hs,he⟩:=aip T ho J
  have U:∀(a':Act) (w':World) (ok':Nat→Prop) (H':List BN),Holds C ok' H' ((S k').put ops[u].dst x E) a' w'→I (l.setIfInBounds u true) a' w':=by
   intro a' w' ok' H' hp;refine⟨by simp[s],t,ok',H',ht,fun j hj=>?_,he▸hp⟩;have h7:=O j (by simpa using hj);rw[h7,←hl j hj];by_cases hij:u=j
   ·subst hij;simp[Array.getD,s,hj]
   have :(j==u)=false:=Dp
   rw[this,Ir];simp only[FU,IG hij]
  unfold wpOpIn;rw[ho];show if Region.wanted ops[u] (yielded ops a.tmps)=true then _ else _
  rcases hs with⟨ns,hop,Yb,hg⟩|⟨rfl,rfl,hg⟩
  ·rw[CG (NS f hg)];refine Nr ?_ (hop.WW ro C ok H a w _ f.mem (fun n hn'=>MR Yb n hn'▸f.get n.1));rintro a' w' ⟨v,ok',H',rfl,hgr,hnn,hm',hx⟩;exact U _ _ _ _ (f.put ops[u].dst hgr hnn hm' hx)
  rw[CV (by rw[aCf f hg];simp)];exact⟨fun _ _=>trivial,U _ _ _ _ (f.put ops[u].dst (.refl _ _) (.refl _) f.mem (.d _ _ (.lit _)))⟩
 ·rintro l a w ⟨s,k,ok,H,hk,hl,f⟩ hr;have z:=hNN k hk;simp only[Bv,XJ]at z
  have hFk:k∈F:=by
   rcases z.2 with h|h
   ·simpa using h
   rw[GV]at h;obtain⟨i,hi,m⟩:=h;simp only[kR]at hi;simp only[Bv,QD]at m;obtain⟨h4,O⟩:=m;have ho:ops[i]? =some ops[i]:=Nz
   have Y:i∈Region.ready .any ops l:=by
    unfold Region.ready;rw[Fl];refine⟨Ey,?_⟩;have hf:l.getD i false=false:=by rw[hl i hi];exact h4
    have hil:i<l.size:=AA
    have hf':l.getD i true=false:=zy
    rw[hf',ho];simp only[Jg,FC,GN,KF];rw[O7];intro e he;unfold XU at O;rw[ho]at O;simp only[DV]at O;have J:=O e jg;cases hb:Region.binds .any e with
    |false=>simp
    |true=>
     simp only[hb,EF,JF]at J ⊢;rw[Bv,FI]at J;rw[hl e.on J.2];exact J.1
   rw[hr]at Y;simp at Y
  obtain⟨ok',H',m⟩:=hF.mem k hFk C ok H a w f;exact⟨ok',H',Z,m,hQ⟩
 ·unfold toCome;simp
 refine⟨BG,0,ok,H,?_,fun i hi=>?_,?_⟩
 ·cases N with
  |nil=>cases h0
  |cons x l=>simp
 ·have e:N.getD 0 []=[]:=by
   cases N with
   |nil=>rfl
   |cons x l=>simpa using h0
  rw[e];simp[Array.getD]
 have e:S 0=σ:=by
  show JQ T L ops σ (N.getD 0 [])=σ;cases N with
  |nil=>rfl
  |cons x l=>have :x=[]:=by simpa using h0
             subst this;rfl
 rw[e];refine⟨⟨⟨f.mem.fr.os,f.mem.fr.tape,f.mem.fr.output,f.mem.fr.size,f.mem.fr.block⟩,f.mem.uD,f.mem.uF,f.mem.jl,f.mem.names,f.mem.hlen,fun k e h s z=>(f.mem.ent k e h s z).drew,f.mem.blk,f.mem.Az⟩,f.size,f.defers.mono (fun b hb=>⟨hb,rfl⟩),f.base,fun t ht=>R.mono (w:=w) (ok:=ok) (w':={ w with drawn:=w.drawn+1 }) (fun b hb=>⟨hb,rfl⟩) (.refl _) (f.slot t ht)⟩
def afY {f:FuncId} {dH:List AV} {h:AV} (i:Nat) (run:Aw P f dH [] h []) (ent:DC P f=true) (dat:dH.all AV.wX=true:=by kernel_rfl):Jd P:=.call i f dH h run ent dat
def jA {ns:List (Operand×AV)} {x:AV} (i:Nat) (op:Op) (k:Nat) (e:Au) (h:∀(o:Oper) (es:List Au),es[k]? =some e→o.op=op→BQ P o ns es x es):Jd P:=.at_ i op ns k e x h
def aED {ns:List (Operand×AV)} {x:AV} (i:Nat) (op:Op) (es E:List Au) (h:∀(o:Oper),o.op=op→BQ P o ns es x E):Jd P:=.fix i op ns es x E h
section
variable [T : Kn P] {id : Nat} {ops : Array Oper} {σ : Ai} {Q : Exit → Ai → Prop} {y : Code}
def AB.atv (L:List (Jd P)) (N:List (List Nat)) (Tr:List (Nat×Nat×Nat)) (f:Nat) (h:AB P y (JQ T L ops σ (N.getD f [])) Q) (j:P.follows .mixedOrders=true:=by kernel_rfl) (m:iO ops N Tr [f]=true:=by kernel_rfl) (n:N.getD 0 [0]=[]:=by kernel_rfl)
 (q:(Tr.map fun t=>U1 T L ops (JQ T L ops σ (N.getD t.1 [])) t.2.1)=Tr.map fun t=>some (JQ T L ops σ (N.getD t.2.2 []),Us L t.2.1):=by kernel_rfl):AB P (.seq (.region id ops true) y) σ Q:=
 AB.seq1 _ (AB.nodes T L N Tr [f] _ j m n q ⟨amn _,trivial⟩ rfl) h
def AB.atw (L:List (Jd P)) (N:List (List Nat)) (Tr:List (Nat×Nat×Nat)) (F:List Nat) (f:Ai) (h:Nj (fun k=>mJ (JQ T L ops σ (N.getD k [])) f) F) (j:AB P y f Q) (m:P.follows .mixedOrders=true:=by kernel_rfl) (n:iO ops N Tr F=true:=by kernel_rfl) (q:N.getD 0 [0]=[]:=by kernel_rfl)
 (s:(Tr.map fun t=>U1 T L ops (JQ T L ops σ (N.getD t.1 [])) t.2.1)=Tr.map fun t=>some (JQ T L ops σ (N.getD t.2.2 []),Us L t.2.1):=by kernel_rfl):AB P (.seq (.region id ops true) y) σ Q:=
 AB.seq1 f (AB.nodes T L N Tr F f m n q s h rfl) j
end
end
section
variable {P : Program} {ops : Array Oper} {es : List Au}
def SK (ops:Array Oper) (bs:List Bool) (sl:List Nat):Bool:=(List.range ops.size).all fun i=> !(bs.getD i false)||(!sl.contains i&&
 ((List.range i).all fun j=>sl.contains j||(List.range (i+1)).any fun m=>(decide (j<m)&& !sl.contains m)&&(match ops[m]? with |some o=>F6 o j|none=>false))&&
  ((List.range ops.size).all fun k=> !decide (i<k)||(List.range k).any fun m=>decide (i≤m)&&(match ops[k]? with |some o=>F6 o m|none=>false)))
def aCo {bs:List Bool} {sl:List Nat} (h:SK ops bs sl=true) {i:Nat} (hi:i<ops.size) (O:bs.getD i false=true) {D:Nat→Prop} (hd:∀(j:Nat) (o:Oper),ops[j]? =some o→D j→∀m,F6 o m=true→D m)
 (S:∀(o:Oper),ops[i]? =some o→∀m,F6 o m=true→D m):∀j,j<i→sl.contains j=false→D j:=by
 unfold SK at h;rw[DV]at h;have I:=h i Ey;simp only[O,EF,JF,Bv,DV]at I
 have key:∀n j,i-j≤n→j<i→sl.contains j=false→D j:=by
  intro n
  induction n with
  |zero=>intro j U J _;omega
  |succ n Y=>
   intro j U J f;have L:=I.1.2 j (by simpa using J);rw[f,JF,GV]at L;obtain⟨m,Z,M⟩:=L;simp only[kR]at Z;simp only[Bv,FI,QD]at M;obtain⟨⟨h6,q⟩,s⟩:=M;have u:m<ops.size:=AA
   have z:ops[m]? =some ops[m]:=Xq
   rw[z]at s;by_cases e:m=i
   ·subst e;exact S _ z j s
   exact hd m _ z (Y m AA AA q) j s
 exact fun j hj hs=>key (i-j) j (Dn _) hj hs
def aqE {bs:List Bool} {sl:List Nat} (h:SK ops bs sl=true) {i:Nat} (hi:i<ops.size) (O:bs.getD i false=true) {D:Nat→Prop} (hd:∀(j:Nat) (o:Oper),ops[j]? =some o→D j→∀m,F6 o m=true→D m):
 ∀k,i<k→∀(o:Oper),ops[k]? =some o→(∀m,F6 o m=true→D m)→D i:=by
 unfold SK at h;rw[DV]at h;have z:=h i Ey;simp only[O,EF,JF,Bv,DV]at z;intro k
 induction k using Nat.strongRecOn with
 |_ k S=>
  intro s o I f;have U:k<ops.size:=(Ei.1 I).1;have J:=z.2 k dF;simp only[s,decide_true,EF,JF,GV]at J;obtain⟨m,L,M⟩:=J;simp only[kR]at L;simp only[Bv,FI,I]at M;obtain⟨Z,Y⟩:=M;have n:=f m Y;by_cases e:m=i
  ·subst e;exact n
  have u:m<ops.size:=AA
  have q:ops[m]? =some ops[m]:=Xq
  exact S m L AA _ q (hd m _ q n)
def afQ {bs:List Bool} {sl:List Nat} (h:SK ops bs sl=true) {i:Nat} (hi:i<ops.size) (j:bs.getD i false=true):sl.contains i=false:=by
 unfold SK at h;rw[DV]at h;have f:=h i Ey;simp only[j,EF,JF,Bv,QD]at f;exact f.1.1
def AB.aqe {id:Nat} {σ σ':Ai} {Q:Exit→Ai→Prop} {rs:List AV} {ess:List (List Au)} {bs:List Bool} (hm:P.follows .mixedOrders=true) (L:(TD ops&&UL ops&&Qa ops σ.slots.length&&Ty ops)=true) (sl:List Nat) (M:SK ops bs sl=true)
 (h:EP P ops ops.toList σ rs ess bs σ')
 (hsl:∀i,i∈sl→bs.getD i false=false∧∀m,i≤m→m≤ops.size→∀o,ops[i]? =some o→OO P ops ⟨(Dl ops σ (fun i=>rs.getD i .junk) (fun i=>ess.getD i []) i).slots,(Dl ops σ (fun i=>rs.getD i .junk) (fun i=>ess.getD i []) m).ents,σ.base⟩ (rs.getD i .junk) (Dl ops σ (fun i=>rs.getD i .junk) (fun i=>ess.getD i []) m).ents false o) (hQ:Q .normal σ'):AB P (.region id ops true) σ Q:=by
 refine⟨fun ro _ C ok H a w hh=>?_⟩;simp only[Bv]at L;obtain⟨⟨⟨he,hd⟩,hs⟩,hc⟩:=L;have JR:=aFc he;have hinj:=aGC hd;have L:=aFo hc
 have DF:∀(i:Nat) (o:Oper) (d:Tmp),ops[i]? =some o→o.dst=some d→d<σ.slots.length:=by
  intro i o d h1 h2;unfold Qa at hs;rw[DV]at hs;simpa using hs d (aDH h1 h2)
 let r:Nat→AV:=fun i=>rs.getD i .junk
 let ev:Nat→List Au:=fun i=>ess.getD i []
 let bar:Nat→Bool:=fun i=>bs.getD i false
 obtain⟨D7,hend⟩:=h.facts σ r ev bar 0 (fun k=>BG) BG rfl (fun k y hy=>aE2) (fun k y hy=>aFQ) (fun k y hy=>by simp[bar,List.getD,hy])
 let U:Nat→Ai:=Dl ops σ r ev
 have hU:∀i,i<ops.size→(U (i+1)).ents=ev i:=by
  intro i hi;have J:ops[i]? =some ops[i]:=Nz
  show(Dl ops σ r ev (i+1)).ents=_;simp only[Dl,J];rfl
 have hconst:∀n lo,(∀b,lo≤b→b<lo+n→bar b=false)→lo+n≤ops.size→(U (lo+n)).ents=(U lo).ents:=by
  intro n
  induction n with
  |zero=>intro lo _ _;rfl
  |succ n ih=>
   intro lo u hle;have h1:=ih lo (fun b h1 h2=>u b h1 AA) AA;have hi:lo+n<ops.size:=AA
   have J:ops[lo+n]? =some ops[lo+n]:=Nz
   have h2:=(D7 (lo+n) _ AA J).2 (u (lo+n) AA AA);rw[←LK,hU _ hi,h2];exact h1
 have O:∀lo hi,lo≤hi→hi≤ops.size→(∀b,lo≤b→b<hi→bar b=false)→(U hi).ents=(U lo).ents:=by
  intro lo hi h1 h2 h3;obtain⟨n,rfl⟩:=aBv h1;exact hconst n lo h3 h2
 refine rG hm ?_
 let I:Array Bool→Act→World→Prop:=fun l a w=>l.size=ops.size∧∃ok H m,m≤ops.size∧(∀b,bar b=true→b<ops.size→(l.getD b false=true↔b<m))∧Bo C ok H (U m).ents w∧a.tmps.size=σ.slots.length∧Marks C ok w a.defers∧
  (∀t,t<σ.slots.length→(∀(j:Nat) (o:Oper),ops[j]? =some o→o.dst=some t→l.getD j false=false)→R ok w H (σ.slots.getD t .junk) (a.tmps.getD t undef))∧
  (∀(i:Nat) (o:Oper) (d:Tmp),ops[i]? =some o→o.dst=some d→l.getD i false=true→R ok w H (r i) (a.tmps.getD d undef))∧
  (∀(j:Nat) (o:Oper),ops[j]? =some o→l.getD j false=true→∀i,F6 o i=true→l.getD i false=true)
 refine qJ I (fun l a w h=>h.1) ?_ ?_ ops.size _ _ _ ?_ ?_
 ·rintro l a w ⟨h1,ok,H,m,GL,z,hmem0,hsz,hdf,h5,h6,h7⟩ i hi;unfold Region.ready at hi;rw[Fl]at hi;obtain⟨hi1,hi2⟩:=hi;have hi':i<ops.size:=zZ
  have J:ops[i]? =some ops[i]:=by simp[hi']
  simp only[Bv]at hi2;have JU:=hi2.2;rw[J]at JU;simp only[GN,KF]at JU;have ZK:=fun e he=>(O7.1 JU) e he
  have S:∀j,F6 ops[i] j=true→l.getD j false=true∧j<i:=by
   intro j s;unfold F6 at s;rw[GV]at s;obtain⟨e,hee,s⟩:=s;simp only[Bv,FI]at s;have :=ZK e aG5;simp only[s.2,EF,JF]at this;rw[s.1]at this;exact⟨this,s.1▸JR i _ J e hee s.2⟩
  have Y:l.getD i false=false:=by
   have h8:=hi2.1;have hil:i<l.size:=AA
   simp[Array.getD,hil]at h8 ⊢;exact h8
  have ae4:∀(j:Nat) (o:Oper),ops[j]? =some o→l.getD j false=true→∀m,F6 o m=true→l.getD m false=true:=fun j o s hl m hm=>h7 j o s hl m hm
  have hEi:(i≤m→sl.contains i=false)→(U i).ents=(U m).ents:=fun hns=>by
   by_cases him:i≤m
   ·refine(O i m him GL (fun b h2 h3=>?_)).symm;rw[←IX];intro u;have hbl:=(z b u AA).2 h3;by_cases e:b=i
    ·subst e;rw[Y]at hbl;cases hbl
    have :=aCo M (show b<ops.size by omega) u (D:=fun j=>l.getD j false=true) ae4 (fun o J m hm=>ae4 b o J hbl m hm) i AA (hns him);rw[Y]at this;cases this
   refine O m i AA AA (fun b h2 h3=>?_);rw[←IX];intro u;have :=aqE M (show b<ops.size by omega) u (D:=fun j=>l.getD j false=true) ae4 i h3 _ J (fun m hm=>(S m hm).1);exact absurd ((z b u AA).1 this) AA
  obtain⟨E0,E1,Z,hfact,hE1,hE2⟩:∃E0 E1,Bo C ok H E0 w∧OO P ops ⟨(U i).slots,E0,σ.base⟩ (r i) E1 (bar i) ops[i]∧(bar i=false→E1=(U m).ents)∧(bar i=true→E1=ev i):=by
   by_cases hs:i≤m∧i∈sl
   ·have h9:=hsl i hs.2;refine⟨(U m).ents,(U m).ents,hmem0,?_,fun _=>rfl,fun u=>?_⟩
    ·rw[show bar i=false from h9.1];exact h9.2 m hs.1 GL _ J
    rw[show bar i=false from h9.1]at u;cases u
   have hE:=hEi (fun him=>by
    rw[←IX]
    intro hc;exact hs ⟨him,by simpa using hc⟩)
   refine⟨(U i).ents,ev i,by rw[hE];exact hmem0,?_,fun u=>?_,fun _=>rfl⟩
   ·have hf:=D7 i ops[i] AA J;have hbase:(U i).base=σ.base:=yE i;have :U i=⟨(U i).slots,(U i).ents,σ.base⟩:=by rw[←hbase]
    exact this▸hf
   rw[(D7 i _ AA J).2 u];exact hE
  have hread:∀t,t∈tmpsOf ops[i]→R ok w H ((Dl ops σ r ev i).slots.getD t .junk) (a.tmps.getD t undef):=by
   intro t ht;by_cases hw:∃(j:Nat) (o:Oper),ops[j]? =some o∧o.dst=some t
   ·obtain⟨j,o,s,q⟩:=hw;rcases(L i _ J).1 j o t s q ht with hce|hce
    ·obtain⟨hdj,hji⟩:=S j hce;rw[Rx hinj s q (DF j o t s q) i hji];exact h6 j o t s q hdj
    have hij:i<j:=by
     unfold F6 at hce;rw[GV]at hce;obtain⟨e,hee,hce⟩:=hce;simp only[Bv,FI]at hce;exact hce.1▸JR j _ s e hee hce.2
    rw[Pm i (fun j' o' hj' ho' hd'=>aax)];refine h5 t (DF j o t s q) (fun j' o' ho' hd'=>?_);have hjj:=hinj j j' o o' t s ho' q hd';subst hjj;rw[←IX];intro hd;rw[h7 j o s hd i hce]at Y;cases Y
   have hw':∀(j:Nat) (o:Oper),ops[j]? =some o→o.dst≠some t:=fun j o h1 h2=>hw ⟨j,o,h1,h2⟩;rw[Pm i (fun j o _ s=>hw' j o s)];by_cases htn:t<σ.slots.length
   ·exact h5 t htn (fun j o s q=>absurd q (hw' j o s))
   rw[aN htn];exact .junk _
  have Ox:∀j d v,F6 ops[i] j=true→(ops[j]?).bind (·.dst)=some d→(Dl ops σ r ev i).slots.getD d .junk=.d (.lit v)→yielded ops a.tmps j=(match v with | .bool b=>some b|_=>none):=by
   intro j d v s q u;cases hoj:ops[j]? with
   |none=>rw[hoj]at q;simp at q
   |some oj=>
    rw[hoj]at q;simp only[Aa]at q;obtain⟨hdj,hji⟩:=S j s;have hdn:=DF j oj d hoj q;rw[Rx hinj hoj q hdn i hji]at u;have hv:=(u▸h6 j oj d hoj q hdj).bool
    have hs:a.tmps[d]? =some v:=by
     have :d<a.tmps.size:=by rw[hsz];exact hdn
     simp[Array.getD,this]at hv;simp[this,hv]
    unfold yielded;rw[hoj];simp only[Aa,q,hs];cases v<;>rfl
  have hput:∀(x:AV) (v:Value) (ok':Nat→Prop) (H':List BN) (w':World),x=r i→Df ok w ok' w'→Names H H'→Bo C ok' H' E1 w'→R ok' w' H' x v→I (l.setIfInBounds i true) (a.put ops[i].dst v) w':=by
   intro x v ok' H' w' hx hgr hnm hmem' hR;subst hx
   have hother:∀(d t:Nat),ops[i].dst=some d→d≠t→(a.put ops[i].dst v).tmps.getD t undef=a.tmps.getD t undef:=by
    intro d t hd hne;rw[hd];exact aFG hne
   obtain⟨m',adz,WX,adA⟩:∃m',m'≤ops.size∧(∀b,bar b=true→b<ops.size→((l.setIfInBounds i true).getD b false=true↔b<m'))∧Bo C ok' H' (U m').ents w':=by
    have hget:∀b,b≠i→(l.setIfInBounds i true).getD b false=l.getD b false:=fun b u=>by
     simp only[FU,IG (Ne.symm u)]
    have adB:(l.setIfInBounds i true).getD i false=true:=aBu
    cases hbi:bar i with
    |false=>
     refine⟨m,GL,fun b u hbs=>?_,?_⟩
     ·have hne:b≠i:=fun e=>by subst e;rw[hbi]at u;cases u
      rw[hget b hne];exact z b u hbs
     rw[←hE1 hbi];exact hmem'
    |true=>
     refine⟨i+1,AA,fun b u hbs=>?_,by rw[hU i hi',←hE2 hbi];exact hmem'⟩;by_cases e:b=i
     ·subst e;rw[adB];simp
     rw[hget b e];constructor
     ·intro hbl;apply UQ;intro hn;have :=aCo M hbs u (D:=fun j=>l.getD j false=true) ae4 (fun o J m hm=>ae4 b o J hbl m hm) i AA (afQ M hi' hbi);rw[Y]at this;cases this
     intro hlt;exact aCo M hi' hbi (D:=fun j=>l.getD j false=true) ae4 (fun o ho' m hm=>by rw[J]at ho';obtain rfl:=Bl ho';exact(S m hm).1) b AA (afQ M hbs u)
   refine⟨by simp[h1],ok',H',m',adz,WX,adA,aFi,aEk,?_,?_,?_⟩
   ·intro t ht hno
    have hne:ops[i].dst≠some t:=by
     intro e;have :=hno i _ J e;simp[Array.getD,h1,hi']at this
    have hold:(a.put ops[i].dst v).tmps.getD t undef=a.tmps.getD t undef:=by
     cases hdi:ops[i].dst with
     |none=>rfl
     |some d=>exact hdi▸hother d t hdi (fun e=>hne (by rw[hdi,e]))
    rw[hold];refine(h5 t ht (fun j o s q=>?_)).mono hgr hnm;have hij:i≠j:=fun e=>by subst e;rw[J]at s;obtain rfl:=Bl s;exact hne q
    have :=hno j o s q;simpa only[FU,IG hij]using this
   ·intro k o d hk hkd hl;by_cases hik:i=k
    ·subst hik;rw[J]at hk;obtain rfl:=Bl hk;rw[hkd,aGe (by rw[hsz];exact DF i _ d J hkd)];exact hR
    have hl':l.getD k false=true:=by
     simp only[FU,IG hik]at hl ⊢;exact hl
    have :=(h6 k o d hk hkd hl').mono hgr hnm;cases hdst:ops[i].dst with
    |none=>exact this
    |some d'=>
     have hne:d'≠d:=fun e=>hik (hinj i k _ _ d' J hk hdst (e▸hkd));rw[←hdst,hother d' d hdst hne];exact this
   intro j o s hl k hk;have hil:i<l.size:=AA
   by_cases hik:i=k
   ·subst hik;simp[Array.getD,hil]
   have hkk:l.getD k false=true:=by
    by_cases hij:i=j
    ·subst hij;rw[J]at s;obtain rfl:=Bl s;exact(S k hk).1
    have hl':l.getD j false=true:=by
     simp only[FU,IG hij]at hl ⊢;exact hl
    exact h7 j o s hl' k hk
   simp only[FU,IG hik]at hkk ⊢;exact hkk
  unfold wpOpIn;rw[J];show if Region.wanted ops[i] (yielded ops a.tmps)=true then _ else _
  rcases hfact.1 with⟨ns,hop,Yb,hnt,hg⟩|⟨hx,hev,hg⟩
  ·have hwant:Region.wanted ops[i] (yielded ops a.tmps)=true:=by
    unfold Region.wanted;rcases hg with hg|⟨j,want,d,b,hg,s,u,rfl⟩
    ·rw[hg]
    rw[hg];show(yielded ops a.tmps j==some b)=true;rw[Ox j d _ ((L i _ J).2 j b hg) s u];simp
   rw[CG hwant];refine Nr ?_ (hop.WW ro C ok H a w _ Z (fun n hn=>?_))
   ·rintro a' w' ⟨v,ok',H',rfl,hgr,hnn,hm',hx⟩;exact hput _ v ok' H' w' rfl hgr hnn hm' hx
   have hnv:=MR Yb n hn;obtain⟨x,y⟩:=n;simp only at hnv ⊢;subst hnv;cases x with
   |tmp t=>
    refine hread t ?_;rw[DV]at hnt
    have :t∈Js ns:=by
     unfold Js;rw[Ph];exact⟨_,hn,rfl⟩
    simpa using hnt t this
   |const v=>exact .d _ _ (.lit v)
   |global g=>exact .d _ _ (.lit _)
   |func f=>exact .d _ _ (.fn (.func f) [] [] #[] #[] rfl rfl (fun i hi=>KP) (fun i hi=>KP))
  have hwant:Region.wanted ops[i] (yielded ops a.tmps)=false:=by
   unfold Region.wanted;obtain⟨j,want,d,v,hg,s,u,hv⟩:=hg;rw[hg];show(yielded ops a.tmps j==some want)=false;rw[Ox j d _ ((L i _ J).2 j want hg) s u];rcases hv with rfl|rfl
   ·simp
   rfl
  rw[CV (by rw[hwant];simp)];exact⟨fun _ _=>trivial,hput _ _ ok H w hx.symm (.refl _ _) (.refl _) (by rw[hev];exact Z) (.d _ _ (.lit _))⟩
 ·rintro l a w ⟨h1,ok,H,m,GL,z,Z,hsz,hdf,h5,h6,h7⟩ hr
  have hall:∀n i,i<n→i<ops.size→l.getD i false=true:=by
   intro n
   induction n with
   |zero=>intro i hi;omega
   |succ n ih=>
    intro i hi hi2;by_cases hn:i<n
    ·exact ih i hn hi2
    have hin:i=n:=AA
    subst hin;rw[←aE7];intro hf;have J:ops[i]? =some ops[i]:=by simp[hi2]
    have Z:i∈Region.ready .any ops l:=by
     unfold Region.ready;rw[Fl];refine⟨by simpa using hi2,?_⟩;have hil:i<l.size:=AA
     have hf':l.getD i true=false:=zy
     rw[hf',J];simp only[Jg,FC,GN,KF];rw[O7];intro e he;cases hbe:Region.binds .any e with
     |false=>simp
     |true=>
      have hlt:=JR i _ J e jg hbe;rw[ih e.on AA AA];simp
    rw[hr]at Z;simp at Z
  refine⟨ok,H,σ',?_,hQ⟩;subst hend
  have hE:(U ops.size).ents=(U m).ents:=O m ops.size GL (Dn _) (fun b h2 h3=>by
   rw[←IX];intro u
   exact absurd ((z b u h3).1 (hall (b+1) b AA h3)) AA)
  refine⟨by show Bo C ok H (U ops.size).ents w;rw[hE];exact Z,by rw[RY];exact hsz,hdf,aDr,fun t ht=>?_⟩;rw[RY]at ht;by_cases hw:∃(j:Nat) (o:Oper),ops[j]? =some o∧o.dst=some t
  ·obtain⟨j,o,s,q⟩:=hw;have hjn:j<ops.size:=(Ei.1 s).1;rw[Rx hinj s q ht ops.size hjn];exact h6 j o t s q (hall (j+1) j AA hjn)
  have hw':∀(j:Nat) (o:Oper),ops[j]? =some o→o.dst≠some t:=fun j o h1 h2=>hw ⟨j,o,h1,h2⟩;rw[Pm ops.size (fun j o _ s=>hw' j o s)];exact h5 t ht (fun j o s q=>absurd q (hw' j o s))
 ·unfold toCome;simp
 refine⟨BG,ok,H,0,Dx _,fun b u _=>qW,?_,hh.size,hh.defers.mono (fun b u=>⟨u,rfl⟩),fun t ht _=>?_,fun i o d _ _ hl=>?_,fun j o _ hl=>?_⟩
 ·exact⟨⟨hh.mem.fr.os,hh.mem.fr.tape,hh.mem.fr.output,hh.mem.fr.size,hh.mem.fr.block⟩,hh.mem.uD,hh.mem.uF,hh.mem.jl,hh.mem.names,hh.mem.hlen,fun k e h h1 h2=>(hh.mem.ent k e h h1 h2).drew,hh.mem.blk,hh.mem.Az⟩
 ·exact R.mono (w:=w) (ok:=ok) (w':={ w with drawn:=w.drawn+1 }) (fun b u=>⟨u,rfl⟩) (.refl _) (hh.slot t ht)
 ·simp[Array.getD]at hl
 simp[Array.getD]at hl
def Vl (n:Nat) (sl:List Nat):List (Nat×Nat):=sl.flatMap fun i=>((List.range (n+1)).filter fun m=>decide (i≤m)).map fun m=>(i,m)
def gU (ops:Array Oper) (σ:Ai) (rs:List AV) (ess:List (List Au)) (i:Nat):Ai:=Dl ops σ (fun i=>rs.getD i .junk) (fun i=>ess.getD i []) i
def zN (T:Kn P) (ops:Array Oper) (σ:Ai) (rs:List AV) (ess:List (List Au)) (p:Nat×Nat):Option (AV×List Au×Bool):=
 match ops[p.1]? with
 |some o=>(Td T ops ⟨(gU ops σ rs ess p.1).slots,(gU ops σ rs ess p.2).ents,σ.base⟩ o).map fun r=>(r.x,r.E,r.bar)
 |none=>none
def acC (T:Kn P) {σ:Ai} {rs:List AV} {ess:List (List Au)} {bs:List Bool} {sl:List Nat} (j:(sl.all fun i=> !(bs.getD i false))=true)
 (n:(Vl ops.size sl).map (zN T ops σ rs ess)=(Vl ops.size sl).map fun p=>some (rs.getD p.1 .junk,(gU ops σ rs ess p.2).ents,false)):
 ∀i,i∈sl→bs.getD i false=false∧∀m,i≤m→m≤ops.size→∀o,ops[i]? =some o→OO P ops ⟨(Dl ops σ (fun i=>rs.getD i .junk) (fun i=>ess.getD i []) i).slots,(Dl ops σ (fun i=>rs.getD i .junk) (fun i=>ess.getD i []) m).ents,σ.base⟩ (rs.getD i .junk) (Dl ops σ (fun i=>rs.getD i .junk) (fun i=>ess.getD i []) m).ents false o:=by
 intro i hi;refine⟨by have :=DV.1 j i hi;simpa using this,fun m s J o u=>?_⟩
 have z:(i,m)∈Vl ops.size sl:=by
  unfold Vl;rw[Qn];exact⟨i,hi,FM.2 ⟨m,Fl.2 ⟨Dp,MS⟩,rfl⟩⟩
 have f:=List.map_inj_left.1 n (i,m) z;unfold zN at f;rw[u]at f;simp only[Qq]at f;obtain⟨r,I,h⟩:=f;have q:=VQ T I;simp only[Q5]at h;rw[h.1,h.2.1,h.2.2]at q;exact q
def AB.atx [T:Kn P] {id:Nat} {σ σ':Ai} {Q:Exit→Ai→Prop} {rs:List AV} {ess:List (List Au)} {bs:List Bool} (sl:List Nat) (h:EP P ops ops.toList σ rs ess bs σ') (q:Q .normal σ') (s:P.follows .mixedOrders=true:=by kernel_rfl)
 (f:(TD ops&&UL ops&&Qa ops σ.slots.length&&Ty ops)=true:=by kernel_rfl) (j:SK ops bs sl=true:=by kernel_rfl) (m:(sl.all fun i=> !(bs.getD i false))=true:=by kernel_rfl)
 (n:(Vl ops.size sl).map (zN T ops σ rs ess)=(Vl ops.size sl).map fun p=>some (rs.getD p.1 .junk,(gU ops σ rs ess p.2).ents,false):=by kernel_rfl):AB P (.region id ops true) σ Q:=
 AB.aqe s f sl j h (acC T m n) q
def AB.aqf [T:Kn P] {id:Nat} {y:Code} {σ σ':Ai} {Q:Exit→Ai→Prop} {rs:List AV} {ess:List (List Au)} {bs:List Bool} (sl:List Nat) (h:EP P ops ops.toList σ rs ess bs σ') (q:AB P y σ' Q) (s:P.follows .mixedOrders=true:=by kernel_rfl)
 (f:(TD ops&&UL ops&&Qa ops σ.slots.length&&Ty ops)=true:=by kernel_rfl) (j:SK ops bs sl=true:=by kernel_rfl) (m:(sl.all fun i=> !(bs.getD i false))=true:=by kernel_rfl)
 (n:(Vl ops.size sl).map (zN T ops σ rs ess)=(Vl ops.size sl).map fun p=>some (rs.getD p.1 .junk,(gU ops σ rs ess p.2).ents,false):=by kernel_rfl):AB P (.seq (.region id ops true) y) σ Q:=
 AB.seq1 σ' (AB.aqe s f sl j h (acC T m n) rfl) q
def AB.conv {c:Code} {σ j:Ai} {Q:Exit→Ai→Prop} (h:∀C ok H a w,Holds C ok H σ a w→∃ok',Holds C ok' H j a w) (k:AB P c j Q):AB P c σ Q:=⟨fun ro m C ok H a w n=>by
 obtain⟨ok',f⟩:=h C ok H a w n
 exact k.run ro m C ok' H a w f⟩
end
def zF (es:List Au) (H:List BN):List Nat:=(es.zip H).filterMap fun p=>if p.1.live then CQ p.2.v else none
def afB {es:List Au} {H:List BN} {b:Nat}:b∈zF es H↔∃(k:Nat) (e:Au) (h:BN),es[k]? =some e∧e.live=true∧H[k]? =some h∧CQ h.v=some b:=by
 unfold zF;rw[Ph];constructor
 ·rintro⟨⟨e,h⟩,m,f⟩;obtain⟨k,j⟩:=List.mem_iff_getElem?.1 m;rw[ad8]at j;split at f
  ·rename_i n;exact⟨k,e,h,j.1,n,j.2,f⟩
  cases f
 rintro⟨k,e,h,q,s,u,z⟩;exact⟨(e,h),List.mem_iff_getElem?.2 ⟨k,ad8.2 ⟨q,u⟩⟩,by simp[s,z]⟩
def DZ.now (w:World) (ok:Nat→Prop) (es:List Au) (H:List BN):DZ:=⟨w,ok,zF es H,H⟩
section
variable {C : DZ} {ok ok' : Nat → Prop} {H H' : List BN} {es es' : List Au} {w w' : World}
def Bo.inner (f:Bo C ok H es w):Bo (DZ.now w ok es H) ok H es w:=
 ⟨.refl _ _,fun _ h=>h,fun _ h=>.inl h,f.jl,.refl _,f.hlen,f.ent,
  fun k e h b j m n q=>⟨(f.blk k e h b j m n q).1,(f.blk k e h b j m n q).2.1,.inr (afB.2 ⟨k,e,h,j,m,n,q⟩)⟩,f.Az⟩
def Bo.outer (f:Bo C ok H es w) (h:Bo (DZ.now w ok es H) ok' H' es' w'):Df ok w ok' w'∧Names H H'∧Bo C ok' H' es' w':=by
 have q:∀b,b∈zF es H→¬ok b∧b<w.heap.size∧(C.w0.heap.size≤b∨b∈C.X):=fun b m=>by
  obtain⟨k,e,hd,j,u,n,L⟩:=afB.1 m;exact f.blk k e hd b j u n L
 refine⟨fun b m=>⟨h.uD b m,h.fr.block b (f.jl b m) fun s=>(q b s).1 m⟩,h.names,⟨h.fr.os.trans f.fr.os,h.fr.tape.trans f.fr.tape,h.fr.output.trans f.fr.output,E5 f.fr.size h.fr.size,fun k J s=>?_⟩,fun b m=>h.uD b (f.uD b m),fun b m=>?_,h.jl,f.names.trans h.names,h.hlen,h.ent,fun k e hd b M O S m=>?_,h.Az⟩
 ·have z:k<w.heap.size:=U7 J f.fr.size;refine(h.fr.block k z fun I=>?_).trans (f.fr.block k J s);rcases(q k I).2.2 with j|j
  ·omega
  exact s j
 ·rcases h.uF b m with j|j|j
  ·exact f.uF b j
  ·exact .inr (.inl (E5 f.fr.size j))
  exact .inr ((q b j).2.2)
 obtain⟨j,u,n⟩:=h.blk k e hd b M O S m;refine⟨j,u,?_⟩;rcases n with n|n
 ·exact .inl (E5 f.fr.size n)
 exact(q b n).2.2
def Bo.abo (q:Bo C ok H es w) {n:Nat} {e e':Au} {h:BN} {b:Nat} {o:Obj} (z:es[n]? =some e) (L:e.live=true) (I:H[n]? =some h) (J:CQ h.v=some b) (he:Df ok w ok (w.putObj b o)→Dy ok (w.putObj b o) H h e'):
 Bo C ok H (es.set n e') (w.putObj b o)∧Df ok w ok (w.putObj b o):=by
 obtain⟨M,h2,h3⟩:=q.blk n e h b z L I J;have hg:Df ok w ok (w.putObj b o):=fun c f=>⟨f,VL fun e=>M (e▸f)⟩
 have s:=(Eb.1 z).1;refine q.change (fun c=>c=b) rfl rfl rfl BG (fun c _ f=>VL f) (fun c f _=>by subst f;exact⟨M,h3⟩) (fun _ h=>h) (fun _ h=>.inl h) (.refl _) (by simpa using q.hlen) fun k e2 h4 hk j=>?_;rcases JY s hk with⟨rfl,rfl⟩|⟨m,u⟩
 ·right;rw[I]at j;obtain rfl:=Bl j;refine⟨he hg,fun _ c f=>?_⟩;rw[J]at f;obtain rfl:=Bl f;refine⟨M,uw,h3,fun k' e3 h5 m O S U Y=>?_⟩;rcases JY s O with⟨rfl,_⟩|⟨_,Z⟩
  ·exact m rfl
  exact m (q.Az k' _ e3 e h5 h _ Z z S L U I Y J)
 left;exact⟨u,j,fun hl2 c f hcb=>m (q.Az k n e2 e h4 h c u z hl2 L j I f (by rw[hcb];exact J))⟩
def XZ :List Tmp→List AV→List AV→List AV
 |p::f,x::xs,sl=>XZ f xs (sl.set p x)
 |_,_,sl=>sl
def af8 :∀(f:List Tmp) (xs:List AV) (vs:List Value) (sl:List AV) (tm:Array Value),xs.length=f.length→vs.length=f.length→(∀i,i<xs.length→R ok w H (xs.getD i .junk) (vs.getD i undef))→
 tm.size=sl.length→(∀t,t<sl.length→R ok w H (sl.getD t .junk) (tm.getD t undef))→
 ((f.zip vs).foldl (fun t p=>t.setIfInBounds p.1 p.2) tm).size=(XZ f xs sl).length∧∀t,t<(XZ f xs sl).length→R ok w H ((XZ f xs sl).getD t .junk) (((f.zip vs).foldl (fun t p=>t.setIfInBounds p.1 p.2) tm).getD t undef)
 | [],xs,vs,sl,tm,_,_,_,j,n=>by
   have e:XZ [] xs sl=sl:=by cases xs<;>rfl
   rw[e];exact⟨j,n⟩
 |p::f,[],vs,sl,tm,h,_,_,_,_=>Fq
 |p::f,x::xs,[],sl,tm,_,h,_,_,_=>Fq
 |p::f,x::xs,v::vs,sl,tm,z,I,u,j,n=>by
  refine af8 f xs vs (sl.set p x) (tm.setIfInBounds p v) XW oW (fun i hi=>by simpa using u (i+1) Ey) NI (fun t m=>?_);rw[Zy]at m;by_cases e:p=t
  ·subst e;have q:(sl.set p x).getD p .junk=x:=by simp[List.getD,m]
   have s:(tm.setIfInBounds p v).getD p undef=v:=by simp[Array.getD,j,m]
   rw[q,s];simpa using u 0 BG
  have q:(sl.set p x).getD t .junk=sl.getD t .junk:=aFa
  have s:(tm.setIfInBounds p v).getD t undef=tm.getD t undef:=by simp[FU,IG e]
  rw[q,s];exact n t m
end
def Ul :Exit→Option (LoopState×Option Code)
 | .normal=>some (.ready,none)
 | .ret=>some (.done,some .ret)
 | .exit i=>some (.done,some (.exit i))
 |_=>none
section
variable {P : Program} {ops : Array Oper} {o : Oper} {rest l : List Oper} {σ : Ai} {K : Exit → Ai → Prop}
def aAK {h:BN} {l:Nat} (e:h.v=.func (.yield l) #[] #[]):CQ h.v=some l:=mO
def CJ.yield {f:Operand} {xs:Array Operand} {ts:Array TypeId} {tm:Array Value} {slots:List AV} {rc:Array Tmp×Code×Code} (k:Nat) (dH:List AV)
 (ho:o.op=.call { callee:=.value f,args:=xs,argTypes:=ts }) (hf:σ.get f=.mp k) (hk:σ.ents[k]? =some (.loop tm slots rc .ready none)) (hx:xs.toList.map σ.get=dH) (u:rc.1.size=xs.size)
 (hg:IE ops σ o.guard=some true) (z:(MQ rc.2.1&&MQ rc.2.2)=true)
 (h:AB P rc.2.1 ⟨XZ rc.1.toList dH slots,σ.ents,σ.ents.length⟩ fun e s=>e=.normal∧∃sl,s.ents[k]? =some (.loop tm sl rc .ready none)∧
  AB P rc.2.2 ⟨s.slots,s.ents.set k (.loop tm sl rc .busy none),s.base⟩ fun e s2=>∃q j,s2.ents[k]? =some (.loop tm q rc .busy none)∧Ul e=some j∧
   CJ P ops rest (Ai.oG ⟨σ.slots,s2.ents.set k (.loop tm q rc j.1 j.2),σ.base⟩ o.dst (.d (.lit (.bool j.2.isNone)))) K):CJ P ops (o::rest) σ K:=by
 rw[Bv]at z;refine⟨fun ro l2 Q C ok H a w n I=>?_⟩;show wpListIn (Gg ro) 0 P ops Q (o::(rest++l2)) a w;unfold wpListIn;rw[CG (NS n (Jb hg))];have hv:=hf▸n.get f;obtain⟨hd,J,S⟩:=Et n.mem.ent n.mem.hlen hk;obtain⟨l,fn,D,e1,e2,e3,e4⟩:=S
 have U:a.eval f=.func (.yield l) #[] #[]:=by
  cases hv with
  |mp _ v s hl hH=>
   rw[J]at hH;obtain rfl:=Bl hH;exact e1
 have Y:(execOp a.eval o).run P w=.ok (.round l fn ((rc.1.zip (xs.map a.eval)).foldl (fun tmps (t,a)=>tmps.setIfInBounds t a) tm) rc.2.1 rc.2.2) w:=by
  have :=run_yield (P:=P) e2 (args:=xs.map a.eval) Xq;simp[execOp,ho,resolve,U,Deferred.ofValue,invoke,this]
 unfold Oper.wpIn;rw[Zr _ _ _ (by rw[ho];intro c h;cases h),Y,Oper.uponIn_round];refine⟨fun _ _=>trivial,fun h=>GX,roundIn_of_wpIn trivial ?_⟩
 have hT:(rc.1.zip (xs.map a.eval)).foldl (fun tmps (t,a)=>tmps.setIfInBounds t a) tm=(rc.1.toList.zip (xs.toList.map a.eval)).foldl (fun t p=>t.setIfInBounds p.1 p.2) tm:=by
  rw[←Array.foldl_toList,Array.toList_zip,Array.toList_map]
 rw[hT];have hpl:dH.length=rc.1.toList.length:=by rw[←hx];simp[u]
 obtain⟨p1,p2⟩:=af8 (ok:=ok) (w:=w) (H:=H) rc.1.toList dH (xs.toList.map a.eval) slots tm hpl Xq (fun i hi=>by
  have hi':i<xs.toList.length:=by rw[←hx]at hi;simpa using hi
  have Z:i<xs.size:=by simpa using hi'
  have O:dH.getD i .junk=σ.get xs.toList[i]:=by rw[←hx];simp[List.getD,Z]
  have q2:(xs.toList.map a.eval).getD i undef=a.eval xs.toList[i]:=by simp[List.getD,Z]
  rw[O,q2];exact n.get _) e3 e4
 have hin:Holds (DZ.now w ok σ.ents H) ok H ⟨XZ rc.1.toList dH slots,σ.ents,σ.ents.length⟩ { tmps:=(rc.1.toList.zip (xs.toList.map a.eval)).foldl (fun t p=>t.setIfInBounds p.1 p.2) tm,defers:=[] } w:=
  ⟨n.mem.inner,p1,.nil _ _ _,n.mem.hlen,p2⟩
 show Code.wpIn (Gg (some l)) 0 P _ _ _ _;refine RN (h.run (some l) (.inr z.1) _ _ _ _ _ hin) ?_;rintro e a1 w1 ⟨ok1,H1,s1,m,rfl,sl,hs1,h2⟩;obtain⟨g1,n1,m1⟩:=n.mem.outer m.mem;have hk1:=n1 k hd J;obtain⟨l',fn',D',O,q2,q3,q4⟩:=m.mem.ent k _ hd hs1 hk1;have L:l'=l:=by rw[e1]at O;cases O;rfl
 subst L
 obtain⟨m2,g2⟩:=m.mem.abo (o:=.loop { state:=.busy,pending:=none,fn:=fn',tmps:=tm,params:=rc.1,assign:=rc.2.1,body:=rc.2.2,defers:=D' }) (e':=.loop tm sl rc .busy none) hs1 rfl hk1 (aAK O)
  (fun g=>⟨l',fn',D',O,TL (Ei.1 q2).1,q3,fun t M=>(q4 t M).mono g (.refl _)⟩)
 refine⟨_,run_beginRound q2 rfl,?_⟩;refine RN (h2.run (some l') (.inr z.2) _ _ _ _ _ ⟨m2,m.size,m.defers.mono g2,m.base,fun t M=>(m.slot t M).mono g2 (.refl _)⟩) ?_;rintro e a2 w3 ⟨ok2,H2,s2,hh2,q,j,hs2,hj,hL⟩;obtain⟨g3,n3,m3⟩:=n.mem.outer hh2.mem;have hk2:=n3 k hd J;obtain⟨l3,fn3,D3,r1,r2,r3,r4⟩:=hh2.mem.ent k _ hd hs2 hk2;have L:l3=l':=by rw[e1]at r1;cases r1;rfl
 subst L
 have key:j.1=(if j.2.isNone then LoopState.ready else .done)→∃v w',(Instr.endRound l3 j.2).run P w3=.ok v w'∧wpListIn (Gg ro) 0 P ops Q (rest++l2) (a.put o.dst v) w':=by
  intro hst
  obtain⟨m4,g4⟩:=m3.abo (o:=.loop { state:=(if j.2.isNone then LoopState.ready else .done),pending:=j.2,fn:=fn3,tmps:=tm,params:=rc.1,assign:=rc.2.1,body:=rc.2.2,defers:=D3 }) (e':=.loop tm q rc j.1 j.2) hs2 rfl hk2 (aAK r1)
   (fun g=>⟨l3,fn3,D3,r1,by rw[hst];exact TL (Ei.1 r2).1,r3,fun t M=>(r4 t M).mono g (.refl _)⟩)
  refine⟨_,_,run_endRound j.2 r2,hL.run ro l2 Q C _ _ _ _ (Holds.put (σ:=⟨σ.slots,s2.ents.set k (.loop tm q rc j.1 j.2),σ.base⟩) ⟨m4,n.size,n.defers.mono (g3.trans g4),n.base,fun t M=>(n.slot t M).mono (g3.trans g4) n3⟩ o.dst (.refl _ _) (.refl _) m4 (.d _ _ (.lit _))) I⟩
 cases e with
 |normal=>obtain rfl:=Bl hj;exact key rfl
 |ret=>obtain rfl:=Bl hj;exact key rfl
 |exit i=>obtain rfl:=Bl hj;exact key rfl
 |_=>cases hj
def AB.ane {Q:Exit→Ai→Prop} {g:Operand} {M:Array Tmp} {assign body c:Code} {gf:FuncId} {fn:Func} (f:List AV) (hg:∀(C:DZ) (ok:Nat→Prop) (H:List BN) (a:Act) (w:World),Holds C ok H σ a w→R ok w H (.fn (.func gf) [] f) (a.eval g)) (hf:P.funcs[gf]? =some fn) (he:DC P gf=true) (u:fn.body=some c) (hres:fn.results= #[])
 (h:∀tm,AB P c ⟨(.mp σ.ents.length::f)++List.replicate (fn.ntmps-(f.length+1)) .junk,σ.ents++[.loop tm σ.slots (M,assign,body) .ready none],σ.ents.length+1⟩ fun e s=>(e=.normal∨e=.ret)∧
  ∃sl j x,s.ents[σ.ents.length]? =some (.loop tm sl (M,assign,body) j.1 j.2)∧Ul x=some j∧Q x ⟨σ.slots,s.ents.set σ.ents.length .dead,σ.base⟩):AB P (.rangeFunc g M assign body) σ Q:=by
 refine⟨fun ro hr C ok H a w m=>?_⟩;obtain rfl:ro=none:=hr.resolve_right (by simp[MQ]);have hv:=hg C ok H a w m;generalize hav:a.eval g=v at hv;cases hv with
 |fn _ _ _ vs us hl1 hl2 h1 h2=>
  obtain rfl:vs= #[]:=XO (by simpa using hl1);refine wpIn_rangeFunc ?_;intro fnm _;obtain⟨I,Z⟩:∃I:Loop,I={ state:=.ready,pending:=none,fn:=fnm,tmps:=a.tmps,params:=M,assign,body,defers:=w.heap.size }:=⟨_,rfl⟩
  obtain⟨q,z⟩:∃q,(w.alloc (.deferred (some []))).alloc (.loop I)=q:=⟨_,rfl⟩
  have hsz:q.heap.size=w.heap.size+2:=by rw[←z];simp
  have hL:q.heap[w.heap.size+1]? =some (.loop I):=by
   rw[←z];have :=ZB (w.alloc (.deferred (some []))) (.loop I);rwa [aFm]at this
  have hD:q.heap[w.heap.size]? =some (.deferred (some [])):=by
   rw[←z];exact(Hl _ _ _ BG).trans (ZB w _)
  have hold:∀b,b<w.heap.size→q.heap[b]? =w.heap[b]? :=fun b u=>by
   rw[←z];exact(Hl _ _ _ Dp).trans (Hl _ _ _ u)
  have hos:q.os=w.os∧q.tape=w.tape∧q.output=w.output:=by rw[←z];exact⟨rfl,rfl,rfl⟩
  obtain⟨hd,hhd⟩:∃hd:BN,hd=⟨.func (.yield (w.heap.size+1)) #[] #[],0⟩:=⟨_,rfl⟩
  have O:hd.v=.func (.yield (w.heap.size+1)) #[] #[]:=by rw[hhd]
  have hgr:Df ok w (fun b=>ok b∨b=w.heap.size) q:=fun b u=>⟨.inl u,hold b (m.mem.jl b u)⟩
  have hHn:(H++[hd])[σ.ents.length]? =some hd:=by rw[←m.mem.hlen];simp
  obtain⟨m2,g2⟩:=m.mem.change (ok':=fun b=>ok b∨b=w.heap.size) (H':=H++[hd]) (es':=σ.ents++[.loop a.tmps σ.slots (M,assign,body) .ready none]) (w':=q) (fun _=>False) hos.1 hos.2.1 hos.2.2 AA (fun b u _=>hold b u) (fun _ h=>h.elim)
   (fun _ h=>.inl h) (fun b u=>u.imp id fun h=>AA) (.push _ _) (by simp[m.mem.hlen]) (fun k e hk he S=>by
    rcases Tn he with U|⟨rfl,rfl⟩
    ·left;have hkl:k<H.length:=by rw[m.mem.hlen];exact(Eb.1 U).1
     rw[FD hkl]at S;exact⟨U,S,fun _ _ _ h=>h⟩
    right;rw[hHn]at S;obtain rfl:=Bl S;refine⟨⟨w.heap.size+1,fnm,w.heap.size,O,by rw[hL,Z],m.size,fun t ht=>(m.slot t ht).mono hgr (.push _ _)⟩,fun _ b u=>?_⟩;rw[aAK O]at u;obtain rfl:=Bl u;refine⟨fun hx=>?_,AA,.inl (by have :=m.mem.fr.size;omega),fun k' e' h' hne U hl' J hb'=>?_⟩
    ·rcases hx with hx|hx
     ·have :=m.mem.jl _ hx;omega
     omega
    rcases Tn U with he2|⟨rfl,_⟩
    ·have hkl:k'<H.length:=by rw[m.mem.hlen];exact(Eb.1 he2).1
     rw[FD hkl]at J;have :=(m.mem.blk k' e' h' _ he2 hl' J hb').2.1;omega
    exact hne rfl)
  have hargs:∀t,t<((.mp σ.ents.length::f)++List.replicate (fn.ntmps-(f.length+1)) .junk:List AV).length→
   R (fun b=>ok b∨b=w.heap.size) q (H++[hd]) (((.mp σ.ents.length::f)++List.replicate (fn.ntmps-(f.length+1)) .junk:List AV).getD t .junk)
     (((#[.func (.yield (w.heap.size+1)) #[] #[]]++us)++Array.replicate (fn.ntmps-(#[.func (.yield (w.heap.size+1)) #[] #[]]++us:Array Value).size) undef:Array Value).getD t undef):=by
   intro t ht;by_cases h0:t<f.length+1
   ·have q1:((.mp σ.ents.length::f)++List.replicate (fn.ntmps-(f.length+1)) .junk:List AV).getD t .junk=(.mp σ.ents.length::f:List AV).getD t .junk:=by
     simp only[List.getD];rw[FD (by simpa using h0)]
    have q2:((#[.func (.yield (w.heap.size+1)) #[] #[]]++us)++Array.replicate (fn.ntmps-(#[.func (.yield (w.heap.size+1)) #[] #[]]++us:Array Value).size) undef:Array Value).getD t undef=(#[.func (.yield (w.heap.size+1)) #[] #[]]++us:Array Value).getD t undef:=by
     simp only[FU];rw[Y9 Dp]
    rw[q1,q2];cases t with
    |zero=>
     have q3:(#[.func (.yield (w.heap.size+1)) #[] #[]]++us:Array Value).getD 0 undef=.func (.yield (w.heap.size+1)) #[] #[]:=by
      simp only[FU];rw[Y9 BG];rfl
     rw[q3];exact .mp _ _ 0 rfl (by rw[hHn,hhd])
    |succ t=>
     have q3:(#[.func (.yield (w.heap.size+1)) #[] #[]]++us:Array Value).getD (t+1) undef=us.getD t undef:=by
      simp only[FU];rw[aC6 BG];rfl
     rw[q3];simpa using(h2 t AA).mono hgr (.push _ _)
   have q1:((.mp σ.ents.length::f)++List.replicate (fn.ntmps-(f.length+1)) .junk:List AV).getD t .junk=.junk:=by
    simp only[List.getD];rw[Ho Dp,aBd];split<;>rfl
   rw[q1];exact .junk _
  have hin:Holds (DZ.now q (fun b=>ok b∨b=w.heap.size) (σ.ents++[.loop a.tmps σ.slots (M,assign,body) .ready none]) (H++[hd])) (fun b=>ok b∨b=w.heap.size) (H++[hd])
   ⟨(.mp σ.ents.length::f)++List.replicate (fn.ntmps-(f.length+1)) .junk,σ.ents++[.loop a.tmps σ.slots (M,assign,body) .ready none],σ.ents.length+1⟩
   { tmps:=(#[.func (.yield (w.heap.size+1)) #[] #[]]++us)++Array.replicate (fn.ntmps-(#[.func (.yield (w.heap.size+1)) #[] #[]]++us:Array Value).size) undef,defers:=[] } q:=
   ⟨m2.inner,by simp[hl2];omega,.nil _ _ _,by simp[DZ.now,m.mem.hlen],hargs⟩
  refine⟨w.heap.size+1,[{ target:=.collected w.heap.size,args:= #[] }],q,{ target:=.fn (.func gf) us,args:= #[.func (.yield (w.heap.size+1)) #[] #[]] },q,gf, #[.func (.yield (w.heap.size+1)) #[] #[]]++us,q,?_,?_,fun _ _=>trivial,?_,fun h=>GX,?_⟩
  ·rw[←z,Z];exact run_enterLoop_outer _ _ _ _ _
  ·have e9:a.eval (.const (.func (.yield (w.heap.size+1)) #[] #[]))=.func (.yield (w.heap.size+1)) #[] #[]:=rfl;simp[resolve,hav,Deferred.ofValue,e9]
  ·have :=Py he (#[.func (.yield (w.heap.size+1)) #[] #[]]++us) q;simpa[invoke]using this
  refine aEz hf u trivial (RN ((h a.tmps).run none (.inl rfl) _ _ _ _ _ hin) ?_) rfl;rintro e a' w' ⟨ok',H',s,J,hee,sl,j,x,hs,Y,hQ⟩;obtain⟨Ds,hDs,hnd,hds⟩:=J.defers
  have key:LeavesInM (Gg none) 0 P fn a'.tmps (rangePost (Gg none) 0 P (w.heap.size+1) (fun e a' w'=>∃ok' H' σ',Holds C ok' H' σ' a' w'∧Q e σ') { a with defers:=[{ target:=.collected w.heap.size,args:= #[] }]++a.defers }) a'.defers .returning w':=by
   rw[hDs];refine aEi (P:=P) (C:=DZ.now q (fun b=>ok b∨b=w.heap.size) (σ.ents++[.loop a.tmps σ.slots (M,assign,body) .ready none]) (H++[hd])) m2.jl (fun ok3 a3 w3 h3=>?_) Ds J hds hnd;refine⟨.tuple #[],by simp[results,hres],?_⟩;obtain⟨g3,n3,m3⟩:=m2.outer h3.mem;have hk3:=n3 _ hd hHn;obtain⟨l3,fn3,D3,r1,r2,r3,r4⟩:=h3.mem.ent _ _ hd hs hk3;have hll:l3=w.heap.size+1:=by rw[O]at r1;cases r1;rfl
   subst hll
   have hnb:j.1≠ .busy:=by
    cases x<;>simp[Ul]at Y<;>rw[←Y]<;>simp
   obtain⟨m4,g4⟩:=m3.abo (o:=.loop { state:=.exhausted,pending:=j.2,fn:=fn3,tmps:=a.tmps,params:=M,assign:=assign,body:=body,defers:=D3 }) (e':=.dead) hs rfl hk3 (aAK O) (fun _=>trivial);have L:=(g2.trans g3).trans g4
   have n:Holds C ok3 H' ⟨σ.slots,s.ents.set σ.ents.length .dead,σ.base⟩ { a with defers:=[{ target:=.collected w.heap.size,args:= #[] }]++a.defers }
    (w3.putObj (w.heap.size+1) (.loop { state:=.exhausted,pending:=j.2,fn:=fn3,tmps:=a.tmps,params:=M,assign:=assign,body:=body,defers:=D3 })):=by
    refine⟨m4,m.size,?_,m.base,fun t ht=>(m.slot t ht).mono L ((Names.push _ _).trans n3)⟩;obtain⟨Es,q1,q2,q3⟩:=m.defers.mono L;obtain⟨Fs,p1,p2,p3⟩:=m.defers
    have hEF:Es=Fs:=by
     have :=q1.symm.trans p1;exact(List.map_inj_right (fun a b h=>Hf)).1 this
    subst hEF;refine⟨w.heap.size::Es,by simp[q1],KD.2 ⟨fun hm=>?_,q2⟩,fun D hDm=>?_⟩
    ·have :=m.mem.jl _ (p3 _ hm).1;omega
    rcases Em.1 hDm with rfl|hDm
    ·have hok2:(fun b=>ok b∨b=w.heap.size) w.heap.size:=.inr rfl;have q4:=(g3.trans g4) _ hok2;exact⟨q4.1,m.mem.fr.size,q4.2.trans hD⟩
    exact q3 D hDm
   refine⟨j.2,_,run_endLoop r2 hnb,?_⟩;cases x with
   |normal=>simp[Ul]at Y;rw[←Y]at n ⊢;exact⟨_,_,_,n,hQ⟩
   |ret=>simp[Ul]at Y;rw[←Y]at n ⊢;exact wpIn_ret ⟨_,_,_,n,hQ⟩
   |exit i=>simp[Ul]at Y;rw[←Y]at n ⊢;exact wpIn_exit ⟨_,_,_,n,hQ⟩
   |_=>cases Y
  rcases hee with rfl|rfl
  ·exact key
  exact key
def AB.rangeFunc {Q:Exit→Ai→Prop} {g:Operand} {n:Array Tmp} {assign body c:Code} {q:FuncId} {fn:Func} (f:List AV) (u:σ.get g=.fn (.func q) [] f) (z:P.funcs[q]? =some fn) (I:DC P q=true) (J:fn.body=some c) (m:fn.results= #[])
 (h:∀tm,AB P c ⟨(.mp σ.ents.length::f)++List.replicate (fn.ntmps-(f.length+1)) .junk,σ.ents++[.loop tm σ.slots (n,assign,body) .ready none],σ.ents.length+1⟩ fun e s=>(e=.normal∨e=.ret)∧
  ∃sl j x,s.ents[σ.ents.length]? =some (.loop tm sl (n,assign,body) j.1 j.2)∧Ul x=some j∧Q x ⟨σ.slots,s.ents.set σ.ents.length .dead,σ.base⟩):AB P (.rangeFunc g n assign body) σ Q:=
 AB.ane f (fun _ _ _ _ _ L=>u▸L.get g) z I J m h
def AB.adL {Q:Exit→Ai→Prop} {g:Operand} {m:Array Tmp} {assign body c:Code} {n:FuncId} {fn:Func} (cs:List D) (q:σ.get g=.d (.fn (.func n) [] cs)) (u:P.funcs[n]? =some fn) (z:DC P n=true) (I:fn.body=some c) (f:fn.results= #[])
 (h:∀tm,AB P c ⟨(.mp σ.ents.length::cs.map .d)++List.replicate (fn.ntmps-((cs.map AV.d).length+1)) .junk,σ.ents++[.loop tm σ.slots (m,assign,body) .ready none],σ.ents.length+1⟩ fun e s=>(e=.normal∨e=.ret)∧
  ∃sl j x,s.ents[σ.ents.length]? =some (.loop tm sl (m,assign,body) j.1 j.2)∧Ul x=some j∧Q x ⟨σ.slots,s.ents.set σ.ents.length .dead,σ.base⟩):AB P (.rangeFunc g m assign body) σ Q:=
 AB.ane (cs.map .d) (fun _ _ _ _ _ J=>R.dfn (q▸J.get g)) u z I f h
end
def ak5 :Code→Nat→Code
 | .seq a b,i=>if i=0 then a else b
 | .cond _ a b,i=>if i=0 then a else b
 | .block _ a,_=>a
 | .loop a,_=>a
 | .scope a,_=>a
 | .rangeFunc _ _ a b,i=>if i=0 then a else b
 |c,_=>c
def xw (c:Option Code) (p:List Nat):Array Tmp×Code×Code:=
 match p.foldl ak5 (c.getD .skip)with
 | .rangeFunc _ f a b=>(f,a,b)
 |_=>(#[],.skip,.skip)
section
variable {K V : Type} [BEq K]
def Bg :List (K×V)→K→Option V
 | [],_=>none
 |p::l,k=>bif k==p.1 then some p.2 else Bg l k
def CW :List (K×V)→K→V→List (K×V)
 | [],k,v=>[(k,v)]
 |p::l,k,v=>bif k==p.1 then(k,v)::l else p::CW l k v
def Ah (ek:K→Value) (ev:V→D) (p:K×V):Value×D:=(ek p.1,ev p.2)
structure KeyTy (P:Program) (t:TypeId) (ek:K→Value):Prop where
 same:∃kd,P.underlying t=some kd∧∀a b,Instr.sameNow kd (ek a) (ek b)=some (a==b)
 check:∀e a w,(Instr.checkKey e 10000 t (ek a)).run P w=.ok () w
 eq:∀a b:K,(a==b)=true→a=b
 bits:∀a,Instr.sameBits 10000 (ek a) (ek a)=true
def aoM {P:Program} {t:TypeId} {k:IntKind} (h:P.underlying t=some (.int k)):KeyTy P t (fun n:Int=>Value.int k n):=by
 refine⟨⟨_,h,fun a b=>by simp[Instr.sameNow]⟩,fun e a w=>?_,fun a b h=>Hf,fun a=>?_⟩
 ·have :∀n,(Instr.checkKey e (n+1) t (.int k a)).run P w=.ok () w:=fun n=>by simp[Instr.checkKey,underlying,h]
  exact this 9999
 unfold Instr.sameBits;simp
def qy {ek:K→Value} {kd:TypeDesc} (n:∀a b,Instr.sameNow kd (ek a) (ek b)=some (a==b)) (k:K) (v:V):∀(m:List (K×V)) (l:List MapEntry) (i:Nat),l.map (·.key)=m.map (fun p=>ek p.1)→
 (Instr.findNow kd (ek k) l i=some none∧Bg m k=none∧CW m k v=m++[(k,v)])∨
 ∃j e p,Instr.findNow kd (ek k) l i=some (some (i+j,e.val))∧l[j]? =some e∧m[j]? =some p∧Bg m k=some p.2∧(k==p.1)=true∧CW m k v=m.set j (k,v)
 | [],[],_,_=>.inl ⟨rfl,rfl,rfl⟩
 | [],_::_,_,h=>Fq
 |_::_,[],_,h=>Fq
 |p::m,e::l,i,h=>by
  simp only[J5,aGW]at h;cases f:(k==p.1)with
  |true=>
   refine .inr ⟨0,e,p,?_,rfl,rfl,?_,f,?_⟩
   ·simp[Instr.findNow,h.1,n,f]
   ·simp[Bg,f]
   simp[CW,f]
  |false=>
   rcases qy n k v m l (i+1) h.2 with⟨q,s,u⟩|⟨j,e',z,q,s,u,I,J,L⟩
   ·refine .inl ⟨?_,?_,?_⟩
    ·simp[Instr.findNow,h.1,n,f,q]
    ·simp[Bg,f,s]
    simp[CW,f,u]
   refine .inr ⟨j+1,e',z,?_,MS,Oe,?_,J,?_⟩
   ·simp[Instr.findNow,h.1,n,f,q];omega
   ·simp[Bg,f,I]
   simp[CW,f,L]
end
section
variable {ok : Nat → Prop} {w : World} {es : List (Value × D)} {ms : Array MapEntry} {clock : Nat}
def I9.push (h:I9 ok w es ms clock) {k v:Value} {x:D} (J:Cm ok w x v):I9 ok w (es++[(k,x)]) (ms.push { key:=k,val:=v,born:=clock }) (clock+1):=by
 have f:∀(i:Nat) (m:MapEntry),(ms.push { key:=k,val:=v,born:=clock })[i]? =some m→ms[i]? =some m∨(i=ms.size∧m={ key:=k,val:=v,born:=clock }):=fun i m q=>by
  rw[aCr]at q;split at q
  ·rename_i e;exact .inr ⟨e,(Bl q).symm⟩
  exact .inl q
 refine⟨by simp[h.len],fun i e m u q=>?_,fun i j m n z q L=>?_⟩
 ·rcases f i m q with s|⟨rfl,rfl⟩
  ·have hi:i<es.length:=by rw[←h.len];exact(Ei.1 s).1
   rw[FD hi]at u;obtain⟨M,O,S⟩:=h.ent i e m u s;exact⟨M,O,Nat.lt_succ_of_lt S⟩
  rw[h.len]at u;simp at u;subst u;exact⟨rfl,J,UR _⟩
 rcases f i m q with s|⟨rfl,rfl⟩<;>rcases f j n L with I|⟨rfl,rfl⟩
 ·exact h.inc i j m n z s I
 ·have hi:i<es.length:=by rw[←h.len];exact(Ei.1 s).1
  exact(h.ent i es[i] m Nz s).2.2
 ·have :=(Ei.1 I).1;omega
 omega
def I9.modify (h:I9 ok w es ms clock) {k v:Value} {x:D} (U:Cm ok w x v) (j:Nat):I9 ok w (es.set j (k,x)) (ms.modify j fun e=>{ e with key:=k,val:=v }) clock:=by
 have f:∀(i:Nat) (m:MapEntry),(ms.modify j fun e=>{ e with key:=k,val:=v })[i]? =some m→∃s,ms[i]? =some s∧m.born=s.born∧(i≠j→m=s)∧(i=j→m.key=k∧m.val=v):=fun i m u=>by
  rw[Lm]at u;split at u
  ·rename_i e;rw[Qq]at u;obtain⟨s,z,rfl⟩:=u;exact⟨s,z,rfl,fun q=>absurd e.symm q,fun _=>⟨rfl,rfl⟩⟩
  rename_i e;exact⟨m,u,rfl,fun _=>rfl,fun q=>absurd q.symm e⟩
 refine⟨by simp[h.len],fun i e m I u=>?_,fun i O m n J u Y=>?_⟩
 ·obtain⟨s,z,L,Z,S⟩:=f i m u;have hi:i<es.length:=by rw[←h.len];exact(Ei.1 z).1
  obtain⟨q1,q2,q3⟩:=h.ent i es[i] s Nz z;by_cases M:i=j
  ·subst M;simp[hi]at I;subst I;exact⟨(S rfl).1,by rw[(S rfl).2];exact U,by rw[L];exact q3⟩
  rw[Vq (fun q=>M q.symm)]at I;rw[Z M];exact h.ent i e s I z
 obtain⟨s,z,L,_⟩:=f i m u;obtain⟨n0,g1,g2,_⟩:=f O n Y;rw[L,g2];exact h.inc i O s n0 J z g1
def I9.mono {ok':Nat→Prop} {w':World} (h:I9 ok w es ms clock) (n:Df ok w ok' w'):I9 ok' w' es ms clock:=⟨h.len,fun i e m f j=>⟨(h.ent i e m f j).1,(h.ent i e m f j).2.1.mono n,(h.ent i e m f j).2.2⟩,h.inc⟩
def I9.keys (h:I9 ok w es ms clock):ms.toList.map (·.key)=es.map (·.1):=by
 apply jd
 ·simp[h.len]
 intro i f j;simp at f j;have :=(h.ent i es[i] ms[i] (by simp[j]) U0).1;simpa using this
end
def VE :Value→D
 | .agg vs=>.agg (vs.toList.map Lp)
 |v=>Lp v
def aak {ok:Nat→Prop} {w:World} {z:Value} (h:z.cells.all (·.oneCell')=true):Cm ok w (VE z) z:=by
 unfold VE;split
 ·rename_i vs;refine .agg _ vs BG (fun i hi=>?_) (fun i hi=>?_)
  ·simp at hi;have e:(vs.toList.map Lp).getD i Cb=Lp vs[i]:=Jc
   rw[e];exact l7 ((O7.1 h) _ (by simp[Value.cells]))
  simp at hi;have e:(vs.toList.map Lp).getD i Cb=Lp vs[i]:=Jc
  have f:vs.getD i undef=vs[i]:=by simp[Array.getD,hi]
  rw[e,f];exact YT _
 exact YT _
section
variable {P : Program} {o : Oper} {es : List Au} {K V : Type} [BEq K]
def QJ {ok:Nat→Prop} {w:World} {H:List BN} {k:Nat} {v:Value} {h:BN} (j:R ok w H (.mp k) v) (m:H[k]? =some h):v=h.v:=by
 cases j with
 |mp _ _ s n f=>
  rw[m]at f;cases f;rfl
def yO {t:TypeId} (q:o.op=.makeMap t none):BQ P o [] es (.mp es.length) (es++[.map []]):=
 .eff fun C ok H a w f J=>by
  have h:Dy ok (w.alloc (.map #[] 0)) (H++[⟨.map (some w.heap.size),0⟩]) ⟨.map (some w.heap.size),0⟩ (.map []):=
   ⟨w.heap.size, #[],0,rfl,(aBS w _).1,⟨rfl,fun i e m s=>fC,fun i j m n _ f=>Qk⟩⟩
  obtain⟨u,z⟩:=f.push (.map #[] 0) ⟨.map (some w.heap.size),0⟩ _ (fun b h=>aCO) h;refine⟨.map (some w.heap.size),_,ok,_,.inl ?_,z,Names.push _ _,u,.mp _ _ 0 rfl tq⟩;have I:(newObj (.map #[] 0)).run P w=.ok w.heap.size (w.alloc (.map #[] 0)):=rfl;simp[execOp,q,Instr.makeMap,I]
def akF {t k e:TypeId} {x:Operand} {kd:IntKind} {n:Int} (s:P.underlying t=some (.map k e)) (u:o.op=.makeMap t (some x)):BQ P o [(x,.d (.lit (.int kd n)))] es (.mp es.length) (es++[.map []]):=
 .eff fun C ok H a w f z=>by
  have h:Dy ok (w.alloc (.map #[] 0)) (H++[⟨.map (some w.heap.size),0⟩]) ⟨.map (some w.heap.size),0⟩ (.map []):=
   ⟨w.heap.size, #[],0,rfl,(aBS w _).1,⟨rfl,fun i e m I=>by simp at I,fun i j m n _ f=>Qk⟩⟩
  obtain⟨J,L⟩:=f.push (.map #[] 0) ⟨.map (some w.heap.size),0⟩ _ (fun b h=>aCO) h;have q:=(Ib z).lit;simp only at q;refine⟨.map (some w.heap.size),_,ok,_,.inl ?_,L,Names.push _ _,J,.mp _ _ 0 rfl tq⟩;have M:(newObj (.map #[] 0)).run P w=.ok w.heap.size (w.alloc (.map #[] 0)):=rfl;simp[execOp,u,Instr.makeMap,M,q,asInt,asIntOf,underlying,s]
def Fn1 {t M O:TypeId} {ek:K→Value} (ev:V→D) {q:V} {z:Value} {m:List (K×V)} {key:K} {ok:Nat→Prop} {w:World} {b:Nat} {ms:Array MapEntry} {clock:Nat} (S:P.underlying t=some (.map M O)) (U:KeyTy P M ek) (hz:(P.info? O).bind (·.zero)=some z) (s:VE z=ev q)
 (u:z.cells.all (·.oneCell')=true) (Y:w.heap[b]? =some (.map ms clock)) (Z:I9 ok w (m.map (Ah ek ev)) ms clock) (c:Bool):
 ∃v,(Instr.lookup t (.map (some b)) (ek key) c).run P w=.ok (if c then .tuple #[v,.bool (Bg m key).isSome]else v) w∧Cm ok w (ev ((Bg m key).getD q)) v:=by
 obtain⟨kd,f,hs⟩:=U.same;have I:ms.toList.map (·.key)=m.map (fun p=>ek p.1):=by rw[Z.keys];simp[Ah,iG]
 have h:=U.check;obtain⟨i,hi,J⟩:=YK.1 hz;rcases qy (i:=0) hs key q m ms.toList I with⟨L,n,_⟩|⟨j,e,p,L,n,h3,h4,_⟩
 ·refine⟨z,?_,?_⟩
  ·rw[n];simp[Instr.lookup,underlying,S,Og Y,h,Instr.findKey,f,L,zeroValue,typeInfo,hi,J]
  rw[n];have :=aak (ok:=ok) (w:=w) u;rw[s]at this;exact this
 refine⟨e.val,?_,?_⟩
 ·rw[h4];simp[Instr.lookup,underlying,S,Og Y,h,Instr.findKey,f,L]
 rw[h4];have h5:(m.map (Ah ek ev))[j]? =some (Ah ek ev p):=by rw[Gt,h3];rfl
 exact(Z.ent j _ e h5 NQ).2.1
def WB {t q s:TypeId} {x y:Operand} {k:Nat} {ek:K→Value} (ev:V→D) (u:V) {z:Value} {m:List (K×V)} {key:K} (M:P.underlying t=some (.map q s)) (O:KeyTy P q ek) (S:(P.info? s).bind (·.zero)=some z) (h:VE z=ev u) (j:z.cells.all (·.oneCell')=true)
 (U:es[k]? =some (.map (m.map (Ah ek ev)))) (Y:o.op=.lookup t x y false):BQ P o [(x,.mp k),(y,.d (.lit (ek key)))] es (.d (ev ((Bg m key).getD u))) es:=
 .pure fun ok H a w f Z I=>by
  obtain⟨hd,hh,n⟩:=Et f Z U;obtain⟨b,ms,clock,h1,h2,h3⟩:=n;have J:=QJ (Dt I).1 hh;have L:=(Dt I).2.lit;simp only at J L;obtain⟨v,hr,hv⟩:=Fn1 (key:=key) ev M O S h j h2 h3 false;refine⟨v,?_,.d _ _ hv⟩;simp[execOp,Y,J,L,h1,hr]
def um {t q s:TypeId} {x y:Operand} {k:Nat} {ek:K→Value} (ev:V→D) (u:V) {z:Value} {m:List (K×V)} {key:K} (M:P.underlying t=some (.map q s)) (O:KeyTy P q ek) (S:(P.info? s).bind (·.zero)=some z) (h:VE z=ev u) (j:z.cells.all (·.oneCell')=true)
 (U:es[k]? =some (.map (m.map (Ah ek ev)))) (Y:o.op=.lookup t x y true):BQ P o [(x,.mp k),(y,.d (.lit (ek key)))] es (.dO [.d (ev ((Bg m key).getD u)),.d (CM (Bg m key).isSome)]) es:=
 .pure fun ok H a w f Z I=>by
  obtain⟨hd,hh,n⟩:=Et f Z U;obtain⟨b,ms,clock,h1,h2,h3⟩:=n;have J:=QJ (Dt I).1 hh;have L:=(Dt I).2.lit;simp only at J L;obtain⟨v,hr,hv⟩:=Fn1 (key:=key) ev M O S h j h2 h3 true;refine⟨.tuple #[v,.bool (Bg m key).isSome],?_,.dO _ _ rfl fun i hi=>?_⟩
  ·simp[execOp,Y,J,L,h1,hr]
  match i,hi with
  |0,_=>exact .d _ _ hv
  |1,_=>exact .d _ _ (.lit _)
def aGG {C:DZ} {ok:Nat→Prop} {H:List BN} {w:World} (q:Bo C ok H es w) {k:Nat} {es0 j:List (Value×D)} {b clock f:Nat} {ms h:Array MapEntry} {hd:BN} (s:es[k]? =some (.map es0)) (u:H[k]? =some hd) (m:hd.v=.map (some b)) (n:w.heap[b]? =some (.map ms clock))
 (z:I9 ok w j h f):(setObj b (.map h f)).run P w=.ok () (w.putObj b (.map h f))∧Bo C ok H (es.set k (.map j)) (w.putObj b (.map h f))∧Df ok w ok (w.putObj b (.map h f)):=by
 refine⟨by simp[setObj,Sem.run,n,World.putObj],q.abo s rfl u (by rw[m];rfl) fun I=>⟨b,h,f,m,TL (Ei.1 n).1,z.mono I⟩⟩
def dS {t kt vt:TypeId} {x y u:Operand} {k:Nat} {ek:K→Value} (ev:V→D) {m:List (K×V)} {key:K} {val:V} (ht:P.underlying t=some (.map kt vt)) (s:KeyTy P kt ek) (M:es[k]? =some (.map (m.map (Ah ek ev)))) (ho:o.op=.mapUpdate t x y u):
 BQ P o [(x,.mp k),(y,.d (.lit (ek key))),(u,.d (ev val))] es .junk (es.set k (.map ((CW m key val).map (Ah ek ev)))):=
 .eff fun C ok H a w z O=>by
  obtain⟨hd,S,U⟩:=Et z.ent z.hlen M;obtain⟨b,ms,clock,I,J,L⟩:=U;have Y:=QJ (O (x,.mp k) BG) S;have Z:=(O (y,.d (.lit (ek key))) BG).lit;have hu:Cm ok w (ev val) (a.eval u):=by have :=O (u,.d (ev val)) BG;cases this with |d _ _ h=>exact h
  simp only at Y Z;obtain⟨kd,f,hs⟩:=s.same;have hks:ms.toList.map (·.key)=m.map (fun p=>ek p.1):=by rw[L.keys];simp[Ah,iG]
  have n:=s.check;rcases qy (i:=0) hs key val m ms.toList hks with⟨q1,_,q3⟩|⟨j,e,p,q1,q2,q3,_,q5,q6⟩
  ·have hM:=L.push (k:=ek key) hu;obtain⟨r1,r2,r3⟩:=aGG (P:=P) z M S I J hM;refine⟨undef,_,ok,H,.inr ⟨rfl,?_⟩,r3,.refl _,?_,.junk _⟩
   ·simp[execOp,ho,Y,Z,I,Instr.mapUpdate,underlying,ht,Og J,n,Instr.findKey,f,q1,r1]
   rw[q3,JW];exact r2
  have hM:=L.modify (k:=ek key) hu j;obtain⟨r1,r2,r3⟩:=aGG (P:=P) z M S I J hM
  have q:e.key=ek key:=by
   have h5:(m.map (Ah ek ev))[j]? =some (Ah ek ev p):=by rw[Gt,q3];rfl
   rw[(L.ent j _ e h5 eK).1,s.eq _ _ q5];rfl
  have hst:∀w,(Instr.keyThatStays (ek key) (ek key)).run P w=.ok (ek key) w:=fun w=>by simp[Instr.keyThatStays,s.bits]
  have hms:ms[j]? =some e:=eK
  refine⟨undef,_,ok,H,.inr ⟨rfl,?_⟩,r3,.refl _,?_,.junk _⟩
  ·simp[execOp,ho,Y,Z,I,Instr.mapUpdate,underlying,ht,Og J,n,Instr.findKey,f,q1,hms,q,hst,r1]
  rw[q6,vg];exact r2
def amF {t J L:TypeId} {x:Operand} {k:Nat} {es0:List (Value×D)} (M:P.underlying t=some (.map J L)) (h:es[k]? =some (.map es0)) (O:o.op=.call { callee:=.builtin .clear,args:= #[x],argTypes:= #[t] }):
 BQ P o [(x,.mp k)] es .junk (es.set k (.map [])):=
 .eff fun C ok H a w f S=>by
  obtain⟨hd,s,q⟩:=Et f.ent f.hlen h;obtain⟨b,ms,clock,u,z,h3⟩:=q;have I:=QJ (S (x,.mp k) BG) s;simp only at I;have U:I9 ok w [] #[] clock:=⟨rfl,fun i e m h=>Fq,fun i j m n _ f=>Qk⟩
  obtain⟨Y,Z,r3⟩:=aGG (P:=P) f h s u z U;refine⟨.tuple #[],_,ok,H,.inl ?_,r3,.refl _,Z,.junk _⟩;simp[execOp,O,resolve,invoke,builtin,Builtin.clear_,I,u,underlying,M,Og z,Y]
def ap3 {t m q:TypeId} {x:Operand} {k:Nat} {es0:List (Value×D)} {n:Nat} (s:es0.length=n) (u:P.underlying t=some (.map m q)) (z:es[k]? =some (.map es0)) (I:o.op=.call { callee:=.builtin .len,args:= #[x],argTypes:= #[t] }):
 BQ P o [(x,.mp k)] es (.d (AP n)) es:=
 .pure fun ok H a w f hlen J=>by
  obtain⟨hd,L,h⟩:=Et f hlen z;obtain⟨b,ms,clock,M,O,S⟩:=h;have j:=QJ (J (x,.mp k) BG) L;simp only at j;refine⟨goInt es0.length,?_,by rw[s];exact .d _ _ (.lit _)⟩;simp[execOp,I,resolve,invoke,builtin,Builtin.len_,j,M,underlying,u,Og O,S.len]
end
def qQ {ok:Nat→Prop} {w:World} {H:List BN} {xs ys:List AV} {vs us:List Value} (h:Ed ok w H xs vs) (k:Ed ok w H ys us):Ed ok w H (xs++ys) (vs++us):=by
 refine⟨by rw[Dk,Dk,h.1,k.1],fun i hi=>?_⟩;by_cases f:i<xs.length
 ·have j:(xs++ys).getD i .junk=xs.getD i .junk:=by simp[List.getD,FD f]
  have m:(vs++us).getD i undef=vs.getD i undef:=by simp[List.getD,FD (by rw[h.1];exact f:i<vs.length)]
  rw[j,m];exact h.2 i f
 have n:i-xs.length<ys.length:=aBh
 have j:(xs++ys).getD i .junk=ys.getD (i-xs.length) .junk:=by simp[List.getD,Ho (RZ f)]
 have m:(vs++us).getD i undef=us.getD (i-xs.length) undef:=by simp[List.getD,Ho (by rw[h.1];omega:vs.length≤i),h.1]
 rw[j,m];exact k.2 _ n
def Bo.atz {C:DZ} {ok:Nat→Prop} {H:List BN} {es:List Au} {w w':World} (f:Bo C ok H es w) {v':Value} {size:Nat} {e:Au} (q:w.grownBy w' none) (s:∀g,CQ v'=some g→w.heap.size≤g∧g<w'.heap.size)
 (Z:Df ok w ok w'→Dy ok w' (H++[⟨v',size⟩]) ⟨v',size⟩ e):Bo C ok (H++[⟨v',size⟩]) (es++[e]) w'∧Df ok w ok w':=by
 have g0:Df ok w ok w':=fun b s=>⟨s,q.block b (f.jl b s) BG⟩
 refine f.change (fun _=>False) q.os q.tape q.output q.size (fun b s _=>q.block b s BG) (fun _ h=>h.elim) (fun _ h=>h) (fun _ h=>.inl h) (Names.push _ _) (by simp[f.hlen]) ?_;intro k e' h' I m;rcases Tn I with z|⟨z,h2⟩
 ·left;refine⟨z,?_,fun _ _ _ h=>h⟩;have J:k<H.length:=by rw[f.hlen];exact(Eb.1 z).1
  rwa [FD J]at m
 subst h2;have J:k=H.length:=by rw[f.hlen];exact z
 subst J;simp at m;subst m;refine .inr ⟨Z g0,fun _ b L=>?_⟩;obtain⟨q1,q2⟩:=s b L;refine⟨fun n=>absurd (f.jl _ n) AA,q2,.inl (E5 f.fr.size q1),fun k' M O S U hl j u=>?_⟩;rcases Tn U with n|⟨n,_⟩
 ·have Y:k'<H.length:=by rw[f.hlen];exact(Eb.1 n).1
  rw[FD Y]at j;exact absurd (f.blk k' M O _ n hl j u).2.1 AA
 rw[←f.hlen]at n;exact S n
section
variable {P : Program} {o : Oper} {es es' : List Au}
def BQ.thaw {ns:List (Operand×AV)} {k e s:Nat} {xs:List D} (h:BQ P o ns es (.aP k) es') (u:es'[k]? =some (.arr e s xs)):BQ P o ns es (.d (.sl xs)) (es'.set k .dead):=by
 intro C ok H a w Q z I;refine Oper.wp_mono ?_ (h C ok H a w Q z I);rintro a' w' ⟨v,ok',H',rfl,J,j,f,L⟩
 have m:Holds (DZ.now w' ok' es' H') ok' H' ⟨[.aP k],es',H'.length⟩ { tmps:= #[v],defers:=[] } w':=⟨f.inner,rfl,.nil _ _ _,rfl,fun t M=>by
  match t,M with
  |0,_=>exact L⟩
 obtain⟨n,q⟩:=LC k u _ _ _ _ _ m;obtain⟨O,_,S⟩:=f.outer q.mem;refine⟨v,n,H',rfl,J.trans O,j,S,?_⟩;have :=q.slot 0 (by simp[Ai.thaw]);simpa[Ai.thaw,AV.thaw]using this
def Cm.atA {ok:Nat→Prop} {w:World} {xs:List D} {ad:Option Addr} {n cap f:Nat} (h:Cm ok w (.sl xs) (.slice ad n cap)) (s:xs.length≤f):Cm ok w (.sl xs) (.slice ad n f):=by
 cases h with
 |sl0 _ _=>exact .sl0 _ _
 |sl _ b off _ size q m u z I j=>exact .sl xs b off f size s m u z I j
def adT {t e:TypeId} {agg:Bool} {size n cap m:Nat} {ad:Option Addr} {w:World} (h:P.underlying t=some (.slice e)) (j:DI P e agg size) (f:m≤cap):
 (Instr.slice t (.slice ad n cap) none (some (.int .i64 m)) (some (.int .i64 m))).run P w=.ok (.slice (if m=0 then ad else ad.map (·.add 0)) m m) w:=by
 have q:(underlying t).run P w=.ok (.slice e) w:=aE5
 have s:((m:Int)≤(cap:Int)):=Int.ofNat_le.2 f;simp[Instr.slice,q,Instr.sliceBounds,Instr.sliceBound,asIntOf,s,f,j.size]
def aeU {α:Type} {t e:TypeId} {agg:Bool} {size:Nat} {x y z:Operand} {h:Int} (enc:α→D) {xs r:List α} (hr:KY xs 0 h=some r) (U:P.underlying t=some (.slice e)) (hT:DI P e agg size) (hc:∀a,(enc a).cells.length=size)
 (ho:o.op=.slice t x none (some y) (some z)):BQ P o [(x,.d (Af enc xs)),(y,.d (AP h)),(z,.d (AP h))] es (.clip (r.map enc)) es:=
 .pure fun ok H a w _ _ L=>by
  obtain⟨⟨_,h1,h2⟩,rfl⟩:=acP hr;have M:=L (x,.d (Af enc xs)) BG;have J:=(L (y,.d (AP h)) BG).lit;have Y:=(L (z,.d (AP h)) BG).lit;simp only at M J Y;generalize Z:a.eval x=v at M;have s:Cm ok w (.sl (xs.map enc)) v:=by cases M with |d _ _ h=>exact h
  have u:∃ad cap,v=.slice ad (xs.map enc).length cap∧(xs.map enc).length≤cap:=by
   generalize hys:xs.map enc=ys at s;cases s with
   |sl0 ad cap=>exact⟨ad,cap,rfl,Dx _⟩
   |sl _ b off cap size f=>exact⟨_,cap,rfl,f⟩
  obtain⟨ad,cap,rfl,f⟩:=u
  have hlen:(List.map enc ((xs.drop 0).take (h.toNat-0))).length=h.toNat:=by
   rw[CB,G5,eH];omega
  have q:=adT (P:=P) (n:=xs.length) (ad:=ad) (w:=w) U hT (m:=h.toNat) (cap:=cap) (by rw[CB]at f;omega);have O:((h.toNat:Nat):Int)=h:=AA
  rw[O]at q;refine⟨.slice (if h.toNat=0 then ad else ad.map (·.add 0)) h.toNat h.toNat,?_,?_⟩
  ·rw[CB]at Z;simp only[execOp,ho,Option.map_none,GN,Z,J,Y,Instr.sliceAt];have hu:(underlying t).run P w=.ok (.slice e) w:=by simp[underlying,U]
   simp only[ER,nZ,Ep,hu,q,EX]
  have hD:Cm ok w (.sl (List.map enc ((xs.drop 0).take (h.toNat-0)))) (.slice (if h.toNat=0 then ad else ad.map (·.add 0)) (List.map enc ((xs.drop 0).take (h.toNat-0))).length (List.map enc ((xs.drop 0).take (h.toNat-0))).length):=by
   by_cases I:h.toNat=0
   ·have e0:List.map enc ((xs.drop 0).take (h.toNat-0))=[]:=Fj (by rw[hlen,I]);rw[e0];exact .sl0 _ _
   have j:=aeT (l:=0) (h:=h.toNat) s (size:=size) (fun y J=>by obtain⟨b,_,rfl⟩:=FM.1 J;exact hc b) (Dx _) Dp;have S:cap≠0:=by rw[CB]at f;omega
   rw[CV S]at j;rw[CV I,hlen];rw[←WJ,←V3]at j;simp only[Nat.zero_mul,Nat.sub_zero]at j ⊢;exact j.atA (by rw[CB,G5,eH];omega)
  have :=R.clip (H:=H) _ _ hD;rw[hlen]at this;exact this
def acd {t e e':TypeId} {agg:Bool} {size k s:Nat} {x y z:Operand} {xs:List D} {h:Int} (Y:h=(xs.length:Int)) (Z:es[k]? =some (.arr e' s xs)) (O:P.underlying t=some (.slice e)) (hT:DI P e agg size)
 (ho:o.op=.slice t x none (some y) (some z)):BQ P o [(x,.aP k),(y,.d (AP h)),(z,.d (AP h))] es (.rZ k) es:=
 .pure fun ok H a w q hl J=>by
  obtain⟨hd,u,L⟩:=Et q hl Z;have M:=Me (J (x,.aP k) BG) u;have S:=(J (y,.d (AP h)) BG).lit;have U:=(J (z,.d (AP h)) BG).lit;simp only at M S U;obtain⟨_,_,zs,⟨_,f⟩,_⟩:=L;obtain⟨v,BL⟩:=hd;simp only at f M;subst Y
  have key:∃ad cap,v=.slice ad xs.length cap∧xs.length≤cap∧ad.map (·.add 0)=ad:=by
   rcases f with⟨rfl,I⟩|⟨g,cap,_,rfl,_,_,I,_⟩
   ·exact⟨none,0,by rw[I],AA,rfl⟩
   exact⟨_,cap,rfl,I,by simp[Addr.add]⟩
  obtain⟨ad,cap,rfl,I,h2⟩:=key;have j:=adT (P:=P) (n:=xs.length) (ad:=ad) (w:=w) O hT (m:=xs.length) (cap:=cap) I;have hi:(if xs.length=0 then ad else ad.map (·.add 0))=ad:=by split<;>simp[h2]
  rw[hi]at j;refine⟨.slice ad xs.length xs.length,?_,.rZ k ad _ cap BL u⟩;simp only[execOp,ho,Option.map_none,GN,M,S,U,Instr.sliceAt];have hu:(underlying t).run P w=.ok (.slice e) w:=by simp[underlying,O]
  simp only[ER,nZ,Ep,hu,j,EX]
def apk {C:DZ} {ok:Nat→Prop} {H:List BN} {w:World} (Z:Bo C ok H es w) {t ty e:TypeId} {size j k:Nat} {xs ys:List D} (hE:Ez P t e size j) (hk:es[k]? =some (.arr e size xs))
 {v x:Value} (hv:R ok w H (.rZ k) v) {m:List Value} (I:SQ w x ys.length size m) (u:Ed ok w H (flat ys) m) (hys:∀y∈ys,y.cells.length=size) (hb:(xs.length+ys.length)*j≤140737488355328) (hn:xs.length+ys.length≤maxLen):
 ∃v' w' H',(Builtin.append_ #[t,t] ty #[v,x]).run P w=.ok v' w'∧Df ok w ok w'∧Names H H'∧Bo C ok H' (es.set k .dead++[.arr e size (xs++ys)]) w'∧R ok w' H' (.aP es.length) v':=by
 obtain⟨h,hh,hok⟩:=Et Z.ent Z.hlen hk;obtain⟨h1,h2,zs,f,hrs⟩:=hok
 have key:kG w e size v xs.length zs∧CQ v=CQ h.v:=by
  cases hv with
  |rZ _ ad n cap s J=>
   rw[hh]at J;obtain rfl:=Bl J;rcases f.2 with⟨L,q2⟩|⟨g,cap',cur,L,q2,q3,q4,q5,q6,q7⟩
   ·simp only[aO]at L;obtain⟨rfl,rfl,rfl⟩:=L;exact⟨⟨f.1,.inl ⟨rfl,q2⟩⟩,rfl⟩
   simp only[aO]at L;obtain⟨rfl,rfl,rfl⟩:=L;exact⟨⟨f.1,.inr ⟨g,xs.length,cur,rfl,q2,q3,Dn _,E5 q4 q5,E5 (Hg _ q4) q6,q7⟩⟩,rfl⟩
 obtain⟨q,M⟩:=key;obtain⟨v',w',hr,z,O,S⟩:=aBz (P:=P) (ty:=ty) hE q I hb hn
 obtain⟨h3,h4⟩:=Z.turn (h':=⟨v',size⟩) (e:=.arr e size (xs++ys)) hk rfl hh O.os O.tape O.output O.size (fun c hc hne=>O.block c hc (by rw[aC8 q,M];exact fun e=>hne e.symm)) (fun g U=>⟨ku z U,(S g U).imp (fun h=>M▸h) id⟩) (fun Y=>by
  refine⟨rfl,fun y hy=>?_,zs++m,XW,?_⟩
  ·rcases Fe.1 hy with h|h
   ·exact h2 y h
   exact hys y h
  have a1:=hrs.mono Y (Names.push H [⟨v',size⟩]);have a2:=u.mono Y (Names.push H [⟨v',size⟩]);rw[Yg]
  exact qQ a1 a2)
 refine⟨v',w',_,hr,h4,Names.push _ _,h3,?_⟩;have J:(H++[(⟨v',size⟩:BN)])[es.length]? =some ⟨v',size⟩:=by rw[←Z.hlen];simp
 rcases z.2 with⟨rfl,_⟩|⟨g',c',_,rfl,_⟩
 ·exact .aP _ _ _ _ size J
 exact .aP _ _ _ _ size J
def aaf {α:Type} {s x:Operand} {t e:TypeId} {size f k:Nat} (enc:α→D) {l m r:List α} (h:Ci f l m=some r) (hE:Ez P t e size f) (S:es[k]? =some (.arr e size (l.map enc))) (U:∀a,(enc a).cells.length=size) (Y:0<f)
 (Z:o.op=.call { callee:=.builtin .append,args:= #[s,x],argTypes:= #[t,t] }):
 BQ P o [(s,.rZ k),(x,.d (Af enc m))] es (.aP es.length) (es.set k .dead++[.arr e size (r.map enc)]):=by
 obtain⟨rfl,I⟩:=qM h;refine .eff fun C ok H a w hm j=>?_;have J:=(Dt j).1;have L:=(Dt j).2;simp only at J L;have u:Cm ok w (.sl (m.map enc)) (a.eval x):=by cases L with |d _ _ h=>exact h
 have n:∀y∈m.map enc,y.cells.length=size:=fun y hy=>by obtain⟨a,_,rfl⟩:=FM.1 hy;exact U a
 obtain⟨M,q,z⟩:=Yf H u n;obtain⟨v',w',H',hr,r1,r2,O,r4⟩:=apk (ty:=o.type) hm hE S J q z n oW (by simpa using aGP Y I);rw[←JW]at O;refine⟨v',w',ok,H',.inl ?_,r1,r2,O,r4⟩;simp[execOp,Z,resolve,invoke,builtin,hr]
def ajb {ok:Nat→Prop} {w:World} {H:List BN} {t ty e:TypeId} {size h:Nat} (hE:Ez P t e size h) {xs ys:List D} {v x:Value} (hv:R ok w H (.clip xs) v) (M:∀y∈xs,y.cells.length=size) {j:List Value} (m:SQ w x ys.length size j) (hpos:0<ys.length)
 (O:(xs.length+ys.length)*h≤140737488355328) (S:xs.length+ys.length≤maxLen):
 ∃f v' w',Ed ok w H (flat xs) f∧(Builtin.append_ #[t,t] ty #[v,x]).run P w=.ok v' w'∧w'.ownsRow w.heap.size e size v' (xs.length+ys.length) (f++j)∧w.grownBy w' none:=by
 obtain⟨i,z,hi,hz,hs,q,s⟩:=hE.info;cases hv with
 |clip _ ad hD=>
  obtain⟨f,U,u⟩:=Yf H hD M;rcases m.at_ with⟨I,c,rfl,n⟩|⟨c,rfl,h0⟩
  ·rcases U.at_ with⟨Y,c2,J,L⟩|⟨c2,J,L⟩
   ·simp only[aO]at J;obtain⟨rfl,_,rfl⟩:=J;obtain⟨v',w',Z,r2,r3⟩:=run_append_arg_grows (P:=P) w t ty e i z size h hE.und hi hz hs q s hE.pos Y xs.length xs.length f U.len L I ys.length c j m.len n AA S O;exact⟨f,v',w',u,Z,r2,r3⟩
   simp only[aO]at J;obtain⟨rfl,_,_⟩:=J;have hx:f=[]:=Fj (by rw[U.len,L];simp);subst hx;rw[L]at S O ⊢;obtain⟨v',w',Z,r2,r3,_⟩:=run_append_own (P:=P) w w.heap.size t ty e i z size h hE.und hi hz hs q s hE.pos _ 0 [] (zK w w.heap.size e size) I ys.length c j m.len n m.one S O (Dn _);exact⟨[],v',w',u,Z,r2,r3⟩
  omega
def apW {ok:Nat→Prop} {w':World} {H:List BN} {base e size:Nat} {v':Value} {xs ys:List D} {f j:List Value} (h:w'.ownsRow base e size v' (xs.length+ys.length) (f++j)) (q:Ed ok w' H (flat xs) f) (s:Ed ok w' H (flat ys) j) (m:∀y∈xs,y.cells.length=size) (n:∀y∈ys,y.cells.length=size):
 Dy ok w' H ⟨v',size⟩ (.arr e size (xs++ys)):=by
 refine⟨rfl,fun y u=>?_,f++j,?_,?_⟩
 ·rcases Fe.1 u with h|h
  ·exact m y h
  exact n y h
 ·have :=kG.of h;simpa using this
 rw[Yg];exact qQ q s
def aqx {w':World} {base e size n:Nat} {v':Value} {j:List Value} (h:w'.ownsRow base e size v' n j):∀g,CQ v'=some g→base≤g∧g<w'.heap.size:=by
 intro g f;rcases h.2 with⟨rfl,_⟩|⟨s,_,_,rfl,m,q,_⟩
 ·simp[CQ]at f
 simp[CQ]at f;subst f;exact⟨m,(Ei.1 q).1⟩
def acJ {α:Type} {s x:Operand} {t e:TypeId} {size f:Nat} (enc:α→D) {l m r:List α} (h:Ci f l m=some r) (hE:Ez P t e size f) (hc:∀a,(enc a).cells.length=size) (q:0<f)
 (I:o.op=.call { callee:=.builtin .append,args:= #[s,x],argTypes:= #[t,t] }):
 BQ P o [(s,.clip (l.map enc)),(x,.d (Af enc m))] es (.d (Af enc r)) es:=by
 obtain⟨rfl,h2⟩:=qM h;refine .eff fun C ok H a w hm J=>?_;have Z:=(Dt J).1;have h3:=(Dt J).2;simp only at Z h3;have h3':Cm ok w (.sl (m.map enc)) (a.eval x):=by cases h3 with |d _ _ h=>exact h
 have L:∀y∈l.map enc,y.cells.length=size:=fun y hy=>ade
 have M:∀y∈m.map enc,y.cells.length=size:=fun y hy=>ade
 obtain⟨O,j,hrs⟩:=Yf H h3' M;by_cases S:m=[]
 ·subst S;obtain⟨i,z,hi,hz,hs,hby,hzs⟩:=hE.info;have n:O=[]:=Fj (by rw[j.len];simp);subst n;generalize hv:a.eval s=v at Z;generalize hu:a.eval x=u at j;cases Z with
  |clip _ ad hD=>
   refine⟨_,w,ok,H,.inl ?_,.refl _ _,.refl _,hm,.d _ _ (by rw[QW];exact hD)⟩;have hL:∀w:World,((underlying t).run P w=.ok (.slice e) w):=fun w=>aFh
   rcases j.at_ with⟨ad',c,rfl,_⟩|⟨c,rfl,_⟩
   ·cases ad with
    |none=>simp[execOp,I,resolve,invoke,builtin,hv,hu,Builtin.append_,hL,sizeOf,typeInfo,hi,Builtin.lenOf,Builtin.firstCells,loadCells,loadCellsFrom]
    |some ad=>simp[execOp,I,resolve,invoke,builtin,hv,hu,Builtin.append_,hL,sizeOf,typeInfo,hi,Builtin.lenOf,Builtin.firstCells,loadCells,loadCellsFrom,storeCells]
   cases ad with
   |none=>simp[execOp,I,resolve,invoke,builtin,hv,hu,Builtin.append_,hL,sizeOf,typeInfo,hi,Builtin.lenOf,Builtin.firstCells]
   |some ad=>simp[execOp,I,resolve,invoke,builtin,hv,hu,Builtin.append_,hL,sizeOf,typeInfo,hi,Builtin.lenOf,Builtin.firstCells,storeCells]
 obtain⟨olds,v',w',r0,r1,r2,U⟩:=ajb (P:=P) (ty:=o.type) hE Z L j (by simpa using xO.2 S) uw (by simpa using aGP q h2);have Y:=aqx r2;obtain⟨m1,g1⟩:=hm.change (ok':=fun b=>ok b∨CQ v'=some b) (H':=H) (es':=es) (w':=w') (fun _=>False) U.os U.tape U.output U.size (fun b q _=>U.block b q BG) (fun _ h=>h.elim) (fun _ h=>.inl h) (fun b h=>h.imp id fun h=>Y b h) (.refl _) hm.hlen (fun k e h he hh=>.inl ⟨he,hh,fun _ _ _ h=>h⟩);have g0:Df ok w ok w':=fun b q=>⟨q,(g1 b q).2⟩
 have hE':=apW r2 (r0.mono g0 (.refl _)) (hrs.mono g0 (.refl _)) L M;refine⟨v',w',_,H,.inl (by simp[execOp,I,resolve,invoke,builtin,r1]),g1,.refl _,m1,.d _ _ ?_⟩;have :=ZM hE' (ok':=fun b=>ok b∨CQ v'=some b) (fun _ h=>.inl h) (fun _ h=>.inr h)
 rwa [←JW]at this
end
def D.plain:D→Bool
 | .lit _=>true
 | .agg cs=>cs.all fun c=>match c with | .lit _=>true|_=>false
 |_=>false
def aqw {ok ok':Nat→Prop} {w w':World} {H H':List BN} {xs:List D} {vs:List Value} (s:∀x∈xs,x.plain=true) (h:Ed ok w H (flat xs) vs):Ed ok' w' H' (flat xs) vs:=by
 refine⟨h.1,fun i hi=>⟨(h.2 i hi).1,?_⟩⟩;have q:=(h.2 i hi).2;have m:(flat xs).getD i .junk∈flat xs:=Jc
 generalize(flat xs).getD i .junk=y at q m;unfold flat at m;simp only[Qn,FM]at m;obtain⟨x,z,c,n,rfl⟩:=m;have f:=s x z
 have j:∃u,c=.lit u:=by
  cases x with
  |lit u=>simp[D.cells]at n;exact⟨u,n⟩
  |agg cs=>
   simp only[D.cells]at n;simp only[D.plain,DV]at f;have :=f c n;cases c with
   |lit u=>exact⟨u,rfl⟩
   |_=>simp at this
  |_=>cases f
 obtain⟨u,rfl⟩:=j;rw[q.lit];exact .d _ _ (.lit u)
def afJ {P:Program} {o:Oper} {es:List Au} {f:FuncId} {ops:Array Operand} {dH fG:List AV} {e s:Nat} {xs:List D} (hr:Aw P f fG [] (.aP 0) [.arr e s xs]) (hp:∀x∈xs,x.plain=true) (ha:Y1 es dH fG) (hl:ops.toList.length=dH.length)
 {C:DZ} {ok:Nat→Prop} {H:List BN} {a:Act} {w:World} (L:Bo C ok H es w) (hn:∀n∈EM ops.toList dH,R ok w H n.2 (a.eval n.1)):
 Calls P f (ops.toList.map a.eval).toArray w fun e' w'=>∃v,e'=.returned v∧w.grownBy w' none∧(∀g,CQ v=some g→w.heap.size≤g∧g<w'.heap.size)∧Value.isSlice v=true∧∀M H2,Dy M w' H2 ⟨v,s⟩ (.arr e s xs):=by
 let z:Nat→Prop:=fun b=>b<w.heap.size
 have Y:Bo ⟨w,z,[],[]⟩ z [] [] w:=
  ⟨.refl _ _,fun _ h=>h,fun _ h=>.inl h,fun _ h=>h,.refl _,rfl,fun k e h O _=>by simp at O,fun k e h b O=>by simp at O,fun k k' e e' h h' b O=>by simp at O⟩
 refine(hr z [] [] w _ Y (by simp[hl,aAq ha]) (fun i hi=>?_)).mono ?_
 ·obtain⟨op,x,Z,S,m⟩:=aaC hl ha i hi;have J:=hn _ S
  have e1:(ops.toList.map a.eval).toArray.getD i undef=a.eval op:=by
   obtain⟨h1,h2⟩:=Eb.1 Z;have h3:i<ops.size:=by simpa using h1
   have h4:ops[i]=op:=uw
   simp[Array.getD,h3,h4]
  rw[e1];simp only at J;generalize fG.getD i .junk=y at m;generalize a.eval op=u at J;cases x with
  |d x=>
   obtain rfl:=m;cases J with |d _ _ h=>exact .d _ _ (h.mono (fun b q=>⟨L.jl b q,rfl⟩))
  |aP k=>
   obtain⟨e',s,xs,hk,rfl⟩:=m;obtain⟨h,hh,I⟩:=Et L.ent L.hlen hk;obtain rfl:=Me J hh;exact .d _ _ (ZM I (fun b q=>L.jl b q) (fun b q=>(L.blk k _ h b hk rfl hh q).2.1))
  |_=>exact m.elim
 rintro e' w' ⟨v,ok',H',rfl,j,J⟩;have hg:w.grownBy w' none:=⟨j.fr.os,j.fr.tape,j.fr.output,j.fr.size,fun b q _=>j.fr.block b q BG⟩
 have hl':H'.length=1:=j.hlen
 match H',hl' with
 | [hd],_=>
   obtain rfl:=Me J (h:=hd) rfl;have I:=j.ent 0 _ hd rfl rfl;have q:=fun b q=>j.blk 0 _ hd b rfl rfl rfl q;obtain⟨q1,q2,zs,q3,q4⟩:=I;obtain⟨v,BL⟩:=hd;simp only at q1 q q3;subst q1;refine⟨v,rfl,hg,fun g hg'=>?_,?_,fun M H2=>⟨rfl,q2,zs,q3,aqw hp q4⟩⟩
   ·obtain⟨_,r2,U⟩:=q g hg';rcases U with U|U
    ·exact⟨U,r2⟩
    simp at U
   rcases q3.2 with⟨rfl,_⟩|⟨g',c',_,rfl,_⟩<;>rfl
def Ru {P:Program} {o:Oper} {es:List Au} {f:FuncId} {ops:Array Operand} {ats:Array TypeId} {dH fG:List AV} {e s:Nat} {xs:List D} (m:Aw P f fG [] (.aP 0) [.arr e s xs]) (q:∀x∈xs,x.plain=true) (u:DC P f=true) (ha:Y1 es dH fG) (z:ops.toList.length=dH.length)
 (I:o.op=.call { callee:=.value (.func f),args:=ops,argTypes:=ats }):BQ P o (EM ops.toList dH) es (.aP es.length) (es++[.arr e s xs]):=by
 intro C ok H a w Q h J;unfold Oper.wp;rw[jE I,Py u,WY];have L:ops.map a.eval=(ops.toList.map a.eval).toArray:=zo
 rw[L];refine(afJ (o:=o) m q ha z h J).mono ?_;rintro e' w' ⟨v,rfl,M,O,j,hE⟩;obtain⟨S,U⟩:=h.atz (v':=v) (size:=s) (e:=.arr e s xs) M O (fun _=>hE _ _);refine⟨v,ok,_,rfl,U,Names.push _ _,S,?_⟩;have Y:(H++[(⟨v,s⟩:BN)])[es.length]? =some ⟨v,s⟩:=aA4
 cases v with
 |slice ad n c=>exact .aP _ _ _ _ s Y
 |_=>cases j
def aea {P:Program} {o:Oper} {es:List Au} {f:FuncId} {ops:Array Operand} {ats:Array TypeId} {dH fG:List AV} {e s:Nat} {xs:List D} (q:Aw P f fG [] (.aP 0) [.arr e s xs]) (u:∀x∈xs,x.plain=true) (z:DC P f=true) (ha:Y1 es dH fG) (I:ops.toList.length=dH.length)
 (J:o.op=.call { callee:=.value (.func f),args:=ops,argTypes:=ats }):BQ P o (EM ops.toList dH) es (.d (.sl xs)) es:=by
 intro C ok H a w Q m L;unfold Oper.wp;rw[jE J,Py z,WY];have M:ops.map a.eval=(ops.toList.map a.eval).toArray:=zo
 rw[M];refine(afJ (o:=o) q u ha I m L).mono ?_;rintro e' w' ⟨v,rfl,j,O,S,hE⟩;obtain⟨U,Y⟩:=m.change (ok':=fun b=>ok b∨CQ v=some b) (H':=H) (es':=es) (w':=w') (fun _=>False) j.os j.tape j.output j.size (fun b n _=>j.block b n BG) (fun _ h=>h.elim) (fun _ h=>.inl h) (fun b h=>h.imp id fun h=>O b h) (.refl _) m.hlen (fun k e h Z hh=>.inl ⟨Z,hh,fun _ _ _ h=>h⟩);exact⟨v,_,H,rfl,Y,.refl _,U,.d _ _ (ZM (hE ok H) (fun _ h=>.inl h) (fun _ h=>.inr h))⟩
def alB {F:Fence} {n:Nat} {P:Program} {Q:Exit→Act→World→Prop} {a:Act} {w:World} {c:Code} (h:c.wpIn F n P (Exit.noGoto Q) a w):(Code.scope c).wpIn F n P Q a w:=by
 intro b k cs u z I;have f:(lone (b.atR a (.code (.scope c)::k)) cs w).fenced P F:=fenced_calm z I rfl;have j:step P (lone (b.atR a (.code (.scope c)::k)) cs w)=.next (lone (b.atR a (.code c::.inScope c::k)) cs w):=step_lone_go aa9;obtain⟨e,q,s,m,harr⟩:=h b (.inScope c::k) cs u z I;cases e with
 |normal=>exact⟨.normal,q,s,m,.head f j (StepsIn.trans harr (.one (fenced_calm z I rfl) (step_lone_go aa9)))⟩
 |exit id=>
  have M:exitTo id (.inScope c::k)=exitTo id k:=by simp[exitTo]
  exact⟨.exit id,q,s,m,fun k' J=>.head f j (harr.1 k' (by rw[M];exact J)),fun L J=>let⟨O,S,U⟩:=harr.2 L (by rw[M];exact J);⟨O,S,.head f j U⟩⟩
 |goto l=>exact m.elim
 |ret=>exact⟨_,q,s,m,.of_steps (.one f j) harr⟩
 |panic Y=>exact⟨_,q,s,m,.of_steps (.one f j) harr⟩
 |outgrown=>exact⟨_,q,s,m,.of_steps (.one f j) harr⟩
def aol (Q:Exit→Ai→Prop):Exit→Ai→Prop
 | .goto _,_=>False
 |e,σ=>Q e σ
def AB.scope {P:Program} {σ:Ai} {Q:Exit→Ai→Prop} {c:Code} (h:AB P c σ (aol Q)):AB P (.scope c) σ Q:=⟨fun ro j C ok H a w m=>
 alB (RN (h.run ro (j.imp id fun h=>h) C ok H a w m) (by
  rintro e a' w' ⟨ok',H',σ',n,f⟩;cases e with
  |goto l=>exact f.elim
  |_=>exact⟨ok',H',σ',n,f⟩))⟩
def aaT (P:Program) (f:FuncId) (args:List AV) (u:Value):Prop:=
 ∀(ok:Nat→Prop) (X:List Nat) (H:List BN) (w:World) (h:Array Value),Bo ⟨w,ok,X,H⟩ ok H [] w→h.size=args.length→(∀i,i<args.length→R ok w H (args.getD i .junk) (h.getD i undef))→
  Calls P f h w fun e w'=>∃ok' H',e=.panicked [{ v:=u,recovered:=false }]∧Bo ⟨w,ok,X,H⟩ ok' H' [] w'
def MI {Rr:Type} (P:Program) (f:FuncId) (args:List AV) (r:Except Value Rr) (h:Rr→AV):Prop:=(∀x,r=.ok x→Aw P f args [] (h x) [])∧∀u,r=.error u→aaT P f args u
def ams {Rr:Type} (P:Program) (fn:Func) (r:Except Value Rr) (f:Rr→AV) (e:Exit) (σ:Ai):Prop:=
 (∃x,r=.ok x∧aIn P fn (f x) [] e σ)∨∃u,r=.error u∧e=lJ u∧σ.base=0
def abK {P:Program} {fn:Func} {Rr:Ending→World→Prop} {C:DZ} {m:List PanicEntry} (n:∀b,C.ok0 b→b<C.w0.heap.size) {H:List BN} {σ:Ai}
 (q:∀ok a w,Holds C ok H σ a w→Rr (.panicked m) w) {tmps:Array Value}:∀(Ds:List Nat) {ok:Nat→Prop} {a:Act} {w:World},Holds C ok H σ a w→(∀d∈Ds,ok d∧C.w0.heap.size≤d∧w.heap[d]? =some (.deferred (some [])))→Ds.Nodup→
  LeavesInM (Gg none) 0 P fn tmps Rr (Ds.map fun D=>{ target:=.collected D,args:= #[] }) (.panicking m) w
 | [],ok,a,w,h,_,_=>q ok a w h
 |D::Ds,ok,a,w,h,hd,s=>by
  obtain⟨ok',h',f⟩:=h.take n (fun d j=>hd d (Gq _ j)) (hd D (Fa ..)) s;have u:=abK (P:=P) (fn:=fn) (tmps:=tmps) n q Ds h' f (KD.1 s).2;exact⟨BG,.inl ⟨D,_,rfl,run_takeDeferred (hd D (Fa ..)).2.2,u⟩⟩
def Bo.none {C:DZ} {ok:Nat→Prop} {H:List BN} {es:List Au} {w:World} (j:Bo C ok H es w) (m:C.H0=[]):Bo C ok [] [] w:=
 ⟨j.fr,j.uD,j.uF,j.jl,by rw[m];exact .refl _,rfl,fun k e h f=>Qk,fun k e h b f=>Qk,fun k k' e e' h h' b f=>Qk⟩
def MI.aH {Rr:Type} {P:Program} {f:FuncId} {fn:Func} {c:Code} {args:List AV} {r:Except Value Rr} {q:Rr→AV} (U:P.funcs[f]? =some fn) (Y:fn.body=some c)
 (h:AB P c (.enter args fn.ntmps []) (ams P fn r q)):MI P f args r q:=by
 refine⟨fun x Z=>Aw.aH U Y (h.mono fun e σ hq=>?_),fun u hu=>?_⟩
 ·rcases hq with⟨x',m,I⟩|⟨u,m,_⟩
  ·rw[Z]at m;cases m;exact I
  rw[Z]at m;cases m
 intro ok X H w j z hs ha;have hH:H=[]:=Fj z.hlen;refine(wR (ro:=none) (n:=0)).1 (aEz U Y trivial (RN (h.run none (.inl rfl) ⟨w,ok,X,H⟩ ok H _ w ?_) ?_) rfl)
 ·refine⟨z,by simp[Ai.enter,hs],.nil _ _ _,z.hlen,fun t ht=>?_⟩;simp only[Ai.enter];by_cases e:t<args.length
  ·have J:(args++List.replicate (fn.ntmps-args.length) AV.junk).getD t .junk=args.getD t .junk:=aGb
   have e2:(j++Array.replicate (fn.ntmps-j.size) undef).getD t undef=j.getD t undef:=by
    simp[FU,Y9 (show t<j.size by omega)]
   rw[J,e2];exact ha t e
  have J:(args++List.replicate (fn.ntmps-args.length) AV.junk).getD t .junk=.junk:=by
   simp only[List.getD,Ho (RZ e),aBd];split<;>rfl
  rw[J];exact .junk _
 rintro e a' w' ⟨ok',H',σ',m,I⟩;rcases I with⟨x,s,_⟩|⟨u',s,rfl,_⟩
 ·rw[hu]at s;cases s
 rw[hu]at s;cases s;obtain⟨Ds,L,M,O⟩:=m.defers;show LeavesInM (Gg none) 0 P fn a'.tmps _ a'.defers (.panicking _) w';rw[L];exact abK (P:=P) (C:=⟨w,ok,X,H⟩) z.jl (fun S a2 w2 h4=>⟨S,[],rfl,h4.mem.none hH⟩) Ds m O M
section
variable {P : Program} {ops : Array Oper} {o : Oper} {rest l : List Oper} {σ : Ai} {K : Exit → Ai → Prop}
def CJ.panic {x:Operand} {t:TypeId} {u:Value} (j:o.op=.panic x) (m:σ.get x=.d (.lit (.iface t u))) (n:IE ops σ o.guard=some true) (h:K (lJ (.iface t u)) σ):CJ P ops (o::rest) σ K:=by
 refine⟨fun ro q Q C ok H a w f s=>?_⟩;show wpListIn (Gg ro) 0 P ops Q (o::(rest++q)) a w;unfold wpListIn;rw[CG (NS f (Jb n))];have z:=(m▸f.get x).lit;unfold Oper.wpIn;rw[Zr _ _ _ (by rw[j];intro c h;cases h)];have I:(execOp a.eval o).run P w=.halt (.panic (.iface t u)) w:=by simp[execOp,j,z,Instr.panic,goPanic]
 rw[I];exact⟨fun _ _=>trivial,s.2 _ _ _ _ _ _ h f⟩
end
section
variable {P : Program} {ops : Array Oper}
def EP.asr (N:Nat) {l:List Oper} {σ σ':Ai} {rs:List AV} {ess:List (List Au)} {bs:List Bool} (h:EP P ops l σ rs ess bs σ') (σ0:Ai) (r:Nat→AV) (ev:Nat→List Au) (bar:Nat→Bool):∀i,(∀k:Nat,k<l.length→l[k]? =ops[i+k]?)→i+l.length=N→σ=Dl ops σ0 r ev i→
 (∀(k:Nat) y,rs[k]? =some y→r (i+k)=y)→(∀(k:Nat) y,ess[k]? =some y→ev (i+k)=y)→(∀(k:Nat) y,bs[k]? =some y→bar (i+k)=y)→
 (∀j (o:Oper),i≤j→j<N→ops[j]? =some o→OO P ops (Dl ops σ0 r ev j) (r j) (ev j) (bar j) o)∧σ'=Dl ops σ0 r ev N:=by
 induction h with
 |nil σ=>
  intro i z s q I _ _;have :i=N:=MS
  subst this;exact⟨fun j o O u ho=>AA,q⟩
 | @op o rest σ σ' ns x rs ess bs d ho hn hg hd ht k U=>
   intro i z s q I J S;subst hd;have L:ops[i]? =some o:=mD
   have M:r i=x:=qg
   have m:ev i=σ.ents:=aCe
   obtain⟨Y,Z⟩:=U (i+1) (fun k hk=>o7) PG (by
    rw[Ai.Rn];simp only[Dl,L,M,m];rw[←q]) (fun k y n=>QZ)
    (fun k y n=>kS) (fun k y n=>jF)
   refine⟨fun j o' O u f=>?_,Z⟩;by_cases e:i=j
   ·subst e;rw[L]at f;obtain rfl:=Bl f;exact⟨.inl ⟨ns,by rw[M,m,←q];exact ho,q▸hn,ht,q▸hg⟩,fun _=>Va⟩
   exact Y j o' AA u f
 | @oe o rest σ σ' ns x es' rs ess bs d E ho hE hn hg hd ht k U=>
   intro i z s q I J S;subst hd;subst hE;have L:ops[i]? =some o:=mD
   have M:r i=x:=qg
   have m:ev i=es':=by simpa using J 0 es' BG
   have hbr:bar i=true:=by simpa using S 0 true BG
   obtain⟨Y,Z⟩:=U (i+1) (fun k hk=>o7) PG (by
    simp only[Dl,L,M,m];rw[←q]) (fun k y n=>QZ)
    (fun k y n=>kS) (fun k y n=>jF)
   refine⟨fun j o' O u f=>?_,Z⟩;by_cases e:i=j
   ·subst e;rw[L]at f;obtain rfl:=Bl f;exact⟨.inl ⟨ns,by rw[M,m,←q];exact ho,q▸hn,ht,q▸hg⟩,fun hf=>by rw[hbr]at hf;cases hf⟩
   exact Y j o' AA u f
 | @any o rest σ σ' x rs ess bs d hs hd k U=>
   intro i z s q I J S;subst hd;have L:ops[i]? =some o:=mD
   have M:r i=x:=qg
   have m:ev i=σ.ents:=aCe
   obtain⟨Y,Z⟩:=U (i+1) (fun k hk=>o7) PG (by
    rw[Ai.Rn];simp only[Dl,L,M,m];rw[←q]) (fun k y n=>QZ)
    (fun k y n=>kS) (fun k y n=>jF)
   refine⟨fun j o' O u f=>?_,Z⟩;by_cases e:i=j
   ·subst e;rw[L]at f;obtain rfl:=Bl f;refine⟨?_,fun _=>Va⟩;rw[M,m,←q];exact hs.1
   exact Y j o' AA u f
 | @Ya o rest σ σ' x E br rs ess bs d hs hd k U=>
   intro i z s q I J S;subst hd;have L:ops[i]? =some o:=mD
   have M:r i=x:=qg
   have m:ev i=E:=by simpa using J 0 E BG
   have hbr:bar i=br:=by simpa using S 0 br BG
   obtain⟨Y,Z⟩:=U (i+1) (fun k hk=>o7) PG (by
    simp only[Dl,L,M,m];rw[←q]) (fun k y n=>QZ)
    (fun k y n=>kS) (fun k y n=>jF)
   refine⟨fun j o' O u f=>?_,Z⟩;by_cases e:i=j
   ·subst e;rw[L]at f;obtain rfl:=Bl f;rw[M,m,hbr,←q];exact hs
   exact Y j o' AA u f
 | @skip o rest σ σ' rs ess bs d hg hd k U=>
   intro i z s q I J S;subst hd;have L:ops[i]? =some o:=mD
   have M:r i=.d (.lit undef):=by simpa using I 0 (.d (.lit undef)) BG
   have m:ev i=σ.ents:=aCe
   obtain⟨Y,Z⟩:=U (i+1) (fun k hk=>o7) PG (by
    rw[Ai.Rn];simp only[Dl,L,M,m];rw[←q]) (fun k y n=>QZ)
    (fun k y n=>kS) (fun k y n=>jF)
   refine⟨fun j o' O u f=>?_,Z⟩;by_cases e:i=j
   ·subst e;rw[L]at f;obtain rfl:=Bl f;exact⟨.inr ⟨M,Va,q▸hg⟩,fun _=>Va⟩
   exact Y j o' AA u f
def AB.atB {id:Nat} {σ σ':Ai} {Q:Exit→Ai→Prop} {rs:List AV} {ess:List (List Au)} {bs:List Bool} (N:Nat) (hNs:N+1=ops.size) (hm:P.follows .mixedOrders=true) (Y:(TD ops&&UL ops&&Qa ops σ.slots.length&&Ty ops)=true) (hbl:bs.length=N) (J:UZ ops (bs++[true])=true)
 (h:EP P ops (ops.toList.take N) σ rs ess bs σ') (hL:∀(ro:Option Nat) (C:DZ) (ok:Nat→Prop) (H:List BN) (a:Act) (w:World),Holds C ok H σ' a w→wpOpIn (Gg ro) 0 P ops (fun e a' w'=>∃ok' H' σ',Holds C ok' H' σ' a' w'∧Q e σ') N (fun a' w'=>∃ok' H' σ',Holds C ok' H' σ' a' w'∧Q .normal σ') a w):AB P (.region id ops true) σ Q:=by
 refine⟨fun ro _ C ok H a w hh=>?_⟩;simp only[Bv]at Y;obtain⟨⟨⟨he,hd⟩,hs⟩,hc⟩:=Y;have JR:=aFc he;have hinj:=aGC hd;have Y:=aFo hc
 have DF:∀(i:Nat) (o:Oper) (d:Tmp),ops[i]? =some o→o.dst=some d→d<σ.slots.length:=by
  intro i o d h1 h2;unfold Qa at hs;rw[DV]at hs;simpa using hs d (aDH h1 h2)
 let r:Nat→AV:=fun i=>rs.getD i .junk
 let ev:Nat→List Au:=fun i=>ess.getD i []
 let bar:Nat→Bool:=fun i=>(bs++[true]).getD i false
 have hbN:bar N=true:=by simp[bar,List.getD,←hbl]
 obtain⟨D7,hend⟩:=h.asr N σ r ev bar 0 (fun k hk=>by
  simp only[G5]at hk
  rw[Jo AA];simp) Dp rfl (fun k y hy=>aE2) (fun k y hy=>aFQ) (fun k y hy=>by have :=(Eb.1 hy).1;simp only[bar,List.getD,Hz,FD this,hy];rfl)
 let U:Nat→Ai:=Dl ops σ r ev
 have hU:∀i,i<ops.size→(U (i+1)).ents=ev i:=by
  intro i hi;have L:ops[i]? =some ops[i]:=Nz
  show(Dl ops σ r ev (i+1)).ents=_;simp only[Dl,L];rfl
 have hconst:∀n lo,(∀b,lo≤b→b<lo+n→bar b=false)→lo+n≤N→(U (lo+n)).ents=(U lo).ents:=by
  intro n
  induction n with
  |zero=>intro lo _ _;rfl
  |succ n ih=>
   intro lo u hle;have h1:=ih lo (fun b h1 h2=>u b h1 AA) AA;have hi:lo+n<ops.size:=AA
   have L:ops[lo+n]? =some ops[lo+n]:=Nz
   have h2:=(D7 (lo+n) _ AA AA L).2 (u (lo+n) AA AA);rw[←LK,hU _ hi,h2];exact h1
 have S:∀lo hi,lo≤hi→hi≤N→(∀b,lo≤b→b<hi→bar b=false)→(U hi).ents=(U lo).ents:=by
  intro lo hi h1 h2 h3;obtain⟨n,rfl⟩:=aBv h1;exact hconst n lo h3 h2
 refine rG hm ?_
 let I:Array Bool→Act→World→Prop:=fun l a w=>l.size=ops.size∧l.getD N false=false∧∃ok H m,m≤N∧(∀b,bar b=true→b<ops.size→(l.getD b false=true↔b<m))∧Bo C ok H (U m).ents w∧a.tmps.size=σ.slots.length∧Marks C ok w a.defers∧
  (∀t,t<σ.slots.length→(∀(j:Nat) (o:Oper),ops[j]? =some o→o.dst=some t→l.getD j false=false)→R ok w H (σ.slots.getD t .junk) (a.tmps.getD t undef))∧
  (∀(i:Nat) (o:Oper) (d:Tmp),ops[i]? =some o→o.dst=some d→l.getD i false=true→R ok w H (r i) (a.tmps.getD d undef))∧
  (∀(j:Nat) (o:Oper),ops[j]? =some o→l.getD j false=true→∀i,F6 o i=true→l.getD i false=true)
 let I2:Array Bool→Act→World→Prop:=fun l a w=>I l a w∨(l.size=ops.size∧(Region.ready .any ops l=[]∧∃ok' H' σ',Holds C ok' H' σ' a w∧Q .normal σ'))
 refine qJ I2 (fun l a w h=>h.elim (fun h=>h.1) (fun h=>h.1)) ?_ ?_ ops.size _ _ _ ?_ ?_
 ·rintro l a w (⟨h1,hlN,ok,H,m,GL,Xh,hmem0,hsz,hdf,h5,h6,h7⟩|⟨h1,h2,_⟩) i hi
  rotate_left
  ·rw[h2]at hi;simp at hi
  unfold Region.ready at hi;rw[Fl]at hi;obtain⟨hi1,hi2⟩:=hi;have hi':i<ops.size:=zZ
  have L:ops[i]? =some ops[i]:=by simp[hi']
  simp only[Bv]at hi2;have JU:=hi2.2;rw[L]at JU;simp only[GN,KF]at JU;have ZK:=fun e he=>(O7.1 JU) e he
  have M:∀j,F6 ops[i] j=true→l.getD j false=true∧j<i:=by
   intro j s;unfold F6 at s;rw[GV]at s;obtain⟨e,hee,s⟩:=s;simp only[Bv,FI]at s;have :=ZK e aG5;simp only[s.2,EF,JF]at this;rw[s.1]at this;exact⟨this,s.1▸JR i _ L e hee s.2⟩
  have O:l.getD i false=false:=by
   have h8:=hi2.1;have hil:i<l.size:=AA
   simp[Array.getD,hil]at h8 ⊢;exact h8
  have z:∀(j:Nat) (o:Oper),ops[j]? =some o→l.getD j false=true→∀m,F6 o m=true→l.getD m false=true:=fun j o s hl m hm=>h7 j o s hl m hm
  have hmem:Bo C ok H (U i).ents w:=by
   have hE:(U i).ents=(U m).ents:=by
    by_cases him:i≤m
    ·refine(S i m him GL (fun b h2 h3=>?_)).symm;rw[←IX];intro u;have hbl:=(Xh b u AA).2 h3;by_cases e:b=i
     ·subst e;rw[O]at hbl;cases hbl
     have hob:ops[b]? =some (ops[b]' AA):=by simp[show b<ops.size by omega]
     have :=Tj J (show b<ops.size by omega) u (D:=fun j=>l.getD j false=true) z (fun o L m hm=>z b o L hbl m hm) i AA;rw[O]at this;cases this
    refine S m i AA AA (fun b h2 h3=>?_);rw[←IX];intro u;have :=yI J (show b<ops.size by omega) u (D:=fun j=>l.getD j false=true) z i h3 _ L (fun m hm=>(M m hm).1);exact absurd ((Xh b u AA).1 this) AA
   rw[hE];exact hmem0
  by_cases hiN:i=N
  ·subst hiN;have aqh:∀j,j<i→l.getD j false=true:=fun j s=>Tj J hi' hbN (D:=fun j=>l.getD j false=true) z (fun o Z m hm=>aH7) j s
   have hH:Holds C ok H σ' a w:=by
    subst hend;refine⟨hmem,by rw[RY];exact hsz,hdf,aDr,fun t ht=>?_⟩;rw[RY]at ht;by_cases hw:∃(j:Nat) (o:Oper),ops[j]? =some o∧o.dst=some t
    ·obtain⟨j,o,s,q⟩:=hw;have hjn:j<ops.size:=(Ei.1 s).1;by_cases hji:j<i
     ·rw[Rx hinj s q ht i hji];exact h6 j o t s q (aqh j hji)
     have hje:j=i:=AA
     subst hje;rw[Pm j (fun j' o' hj' Z hd'=>aGu)];exact h5 t ht (fun j' o' Z hd'=>by have :=hinj j j' o o' t s Z q hd';subst this;exact hlN)
    have hw':∀(j:Nat) (o:Oper),ops[j]? =some o→o.dst≠some t:=fun j o h1 h2=>hw ⟨j,o,h1,h2⟩;rw[Pm i (fun j o _ s=>hw' j o s)];exact h5 t ht (fun j o s q=>absurd q (hw' j o s))
   refine wpOpIn_mono (fun a' w' hx=>.inr ⟨by simp[h1],?_,hx⟩) (hL ro C ok H a w hH);unfold Region.ready;rw[aA0];intro j s;have hjn:j<ops.size:=MS
   have hdn:(l.setIfInBounds i true).getD j true=true:=by
    by_cases hji:j=i
    ·subst hji;simp[Array.getD,h1,hi']
    have :=aqh j AA;simp only[FU,IG (Ne.symm hji)];have hjl:j<l.size:=AA
    simp[Array.getD,hjl]at this;simp[hjl,this]
   rw[hdn];simp
  have hiN:i<N:=AA
  have hread:∀t,t∈tmpsOf ops[i]→R ok w H ((Dl ops σ r ev i).slots.getD t .junk) (a.tmps.getD t undef):=by
   intro t ht;by_cases hw:∃(j:Nat) (o:Oper),ops[j]? =some o∧o.dst=some t
   ·obtain⟨j,o,s,q⟩:=hw;rcases(Y i _ L).1 j o t s q ht with hce|hce
    ·obtain⟨hdj,hji⟩:=M j hce;rw[Rx hinj s q (DF j o t s q) i hji];exact h6 j o t s q hdj
    have hij:i<j:=by
     unfold F6 at hce;rw[GV]at hce;obtain⟨e,hee,hce⟩:=hce;simp only[Bv,FI]at hce;exact hce.1▸JR j _ s e hee hce.2
    rw[Pm i (fun j' o' hj' Z hd'=>aGu)];refine h5 t (DF j o t s q) (fun j' o' Z hd'=>?_);have hjj:=hinj j j' o o' t s Z q hd';subst hjj;rw[←IX];intro hd;rw[h7 j o s hd i hce]at O;cases O
   have hw':∀(j:Nat) (o:Oper),ops[j]? =some o→o.dst≠some t:=fun j o h1 h2=>hw ⟨j,o,h1,h2⟩;rw[Pm i (fun j o _ s=>hw' j o s)];by_cases htn:t<σ.slots.length
   ·exact h5 t htn (fun j o s q=>absurd q (hw' j o s))
   rw[aN htn];exact .junk _
  have Ox:∀j d v,F6 ops[i] j=true→(ops[j]?).bind (·.dst)=some d→(Dl ops σ r ev i).slots.getD d .junk=.d (.lit v)→yielded ops a.tmps j=(match v with | .bool b=>some b|_=>none):=by
   intro j d v s q u;cases hoj:ops[j]? with
   |none=>rw[hoj]at q;simp at q
   |some oj=>
    rw[hoj]at q;simp only[Aa]at q;obtain⟨hdj,hji⟩:=M j s;have hdn:=DF j oj d hoj q;rw[Rx hinj hoj q hdn i hji]at u;have hv:=(u▸h6 j oj d hoj q hdj).bool
    have hs:a.tmps[d]? =some v:=by
     have :d<a.tmps.size:=by rw[hsz];exact hdn
     simp[Array.getD,this]at hv;simp[this,hv]
    unfold yielded;rw[hoj];simp only[Aa,q,hs];cases v<;>rfl
  have hput:∀(x:AV) (v:Value) (ok':Nat→Prop) (H':List BN) (w':World),x=r i→Df ok w ok' w'→Names H H'→Bo C ok' H' (ev i) w'→R ok' w' H' x v→I2 (l.setIfInBounds i true) (a.put ops[i].dst v) w':=by
   intro x v ok' H' w' hx hgr hnm hmem' hR;subst hx
   have hother:∀(d t:Nat),ops[i].dst=some d→d≠t→(a.put ops[i].dst v).tmps.getD t undef=a.tmps.getD t undef:=by
    intro d t hd hne;rw[hd];exact aFG hne
   obtain⟨m',adz,WX,adA⟩:∃m',m'≤N∧(∀b,bar b=true→b<ops.size→((l.setIfInBounds i true).getD b false=true↔b<m'))∧Bo C ok' H' (U m').ents w':=by
    have hget:∀b,b≠i→(l.setIfInBounds i true).getD b false=l.getD b false:=fun b u=>by
     simp only[FU,IG (Ne.symm u)]
    have adB:(l.setIfInBounds i true).getD i false=true:=aBu
    cases hbi:bar i with
    |false=>
     refine⟨m,GL,fun b u hbs=>?_,?_⟩
     ·have hne:b≠i:=fun e=>by subst e;rw[hbi]at u;cases u
      rw[hget b hne];exact Xh b u hbs
     have h2:=(D7 i _ AA hiN L).2 hbi;rw[h2]at hmem'
     have hE:(U i).ents=(U m).ents:=by
      by_cases him:i≤m
      ·refine(S i m him GL (fun b h2 h3=>?_)).symm;rw[←IX];intro u;have hbl:=(Xh b u AA).2 h3;by_cases e:b=i
       ·subst e;rw[O]at hbl;cases hbl
       have :=Tj J (show b<ops.size by omega) u (D:=fun j=>l.getD j false=true) z (fun o L m hm=>z b o L hbl m hm) i AA;rw[O]at this;cases this
      refine S m i AA AA (fun b h2 h3=>?_);rw[←IX];intro u;have :=yI J (show b<ops.size by omega) u (D:=fun j=>l.getD j false=true) z i h3 _ L (fun m hm=>(M m hm).1);exact absurd ((Xh b u AA).1 this) AA
     rw[←hE];exact hmem'
    |true=>
     refine⟨i+1,AA,fun b u hbs=>?_,by rw[hU i hi'];exact hmem'⟩;by_cases e:b=i
     ·subst e;rw[adB];simp
     rw[hget b e];constructor
     ·intro hbl;apply UQ;intro hn;have :=Tj J hbs u (D:=fun j=>l.getD j false=true) z (fun o L m hm=>z b o L hbl m hm) i AA;rw[O]at this;cases this
     intro hlt;exact Tj J hi' hbi (D:=fun j=>l.getD j false=true) z (fun o Z m hm=>aH7) b AA
   refine .inl ⟨by simp[h1],by simpa only[FU,IG (show i≠N by omega)]using hlN,ok',H',m',adz,WX,adA,aFi,aEk,?_,?_,?_⟩
   ·intro t ht hno
    have hne:ops[i].dst≠some t:=by
     intro e;have :=hno i _ L e;simp[Array.getD,h1,hi']at this
    have hold:(a.put ops[i].dst v).tmps.getD t undef=a.tmps.getD t undef:=by
     cases hdi:ops[i].dst with
     |none=>rfl
     |some d=>exact hdi▸hother d t hdi (fun e=>hne (by rw[hdi,e]))
    rw[hold];refine(h5 t ht (fun j o s q=>?_)).mono hgr hnm;have hij:i≠j:=fun e=>by subst e;rw[L]at s;obtain rfl:=Bl s;exact hne q
    have :=hno j o s q;simpa only[FU,IG hij]using this
   ·intro k o d hk hkd hl;by_cases hik:i=k
    ·subst hik;rw[L]at hk;obtain rfl:=Bl hk;rw[hkd,aGe (by rw[hsz];exact DF i _ d L hkd)];exact hR
    have hl':l.getD k false=true:=by
     simp only[FU,IG hik]at hl ⊢;exact hl
    have :=(h6 k o d hk hkd hl').mono hgr hnm;cases hdst:ops[i].dst with
    |none=>exact this
    |some d'=>
     have hne:d'≠d:=fun e=>hik (hinj i k _ _ d' L hk hdst (e▸hkd));rw[←hdst,hother d' d hdst hne];exact this
   intro j o s hl k hk;have hil:i<l.size:=AA
   by_cases hik:i=k
   ·subst hik;simp[Array.getD,hil]
   have hkk:l.getD k false=true:=by
    by_cases hij:i=j
    ·subst hij;rw[L]at s;obtain rfl:=Bl s;exact(M k hk).1
    have hl':l.getD j false=true:=by
     simp only[FU,IG hij]at hl ⊢;exact hl
    exact h7 j o s hl' k hk
   simp only[FU,IG hik]at hkk ⊢;exact hkk
  unfold wpOpIn;rw[L];show if Region.wanted ops[i] (yielded ops a.tmps)=true then _ else _
  rcases(D7 i ops[i] AA hiN L).1 with⟨ns,hop,Yb,hnt,hg⟩|⟨hx,hev,hg⟩
  ·have hwant:Region.wanted ops[i] (yielded ops a.tmps)=true:=by
    unfold Region.wanted;rcases hg with hg|⟨j,want,d,b,hg,s,u,rfl⟩
    ·rw[hg]
    rw[hg];show(yielded ops a.tmps j==some b)=true;rw[Ox j d _ ((Y i _ L).2 j b hg) s u];simp
   rw[CG hwant];refine Nr ?_ (hop.WW ro C ok H a w _ hmem (fun n hn=>?_))
   ·rintro a' w' ⟨v,ok',H',rfl,hgr,hnn,hm',hx⟩;exact hput _ v ok' H' w' rfl hgr hnn hm' hx
   have hnv:=MR Yb n hn;obtain⟨x,y⟩:=n;simp only at hnv ⊢;subst hnv;cases x with
   |tmp t=>
    refine hread t ?_;rw[DV]at hnt
    have :t∈Js ns:=by
     unfold Js;rw[Ph];exact⟨_,hn,rfl⟩
    simpa using hnt t this
   |const v=>exact .d _ _ (.lit v)
   |global g=>exact .d _ _ (.lit _)
   |func f=>exact .d _ _ (.fn (.func f) [] [] #[] #[] rfl rfl (fun i hi=>KP) (fun i hi=>KP))
  have hwant:Region.wanted ops[i] (yielded ops a.tmps)=false:=by
   unfold Region.wanted;obtain⟨j,want,d,v,hg,s,u,hv⟩:=hg;rw[hg];show(yielded ops a.tmps j==some want)=false;rw[Ox j d _ ((Y i _ L).2 j want hg) s u];rcases hv with rfl|rfl
   ·simp
   rfl
  rw[CV (by rw[hwant];simp)];exact⟨fun _ _=>trivial,hput _ _ ok H w hx.symm (.refl _ _) (.refl _) (by rw[hev];exact hmem) (.d _ _ (.lit _))⟩
 ·rintro l a w (⟨h1,hlN,ok,H,m,GL,Xh,hmem,hsz,hdf,h5,h6,h7⟩|⟨h1,_,h2⟩) hr
  rotate_left
  ·exact h2
  have hall:∀n i,i<n→i<ops.size→l.getD i false=true:=by
   intro n
   induction n with
   |zero=>intro i hi;omega
   |succ n ih=>
    intro i hi hi2;by_cases hn:i<n
    ·exact ih i hn hi2
    have hin:i=n:=AA
    subst hin;rw[←aE7];intro hf;have L:ops[i]? =some ops[i]:=by simp[hi2]
    have hmem:i∈Region.ready .any ops l:=by
     unfold Region.ready;rw[Fl];refine⟨by simpa using hi2,?_⟩;have hil:i<l.size:=AA
     have hf':l.getD i true=false:=zy
     rw[hf',L];simp only[Jg,FC,GN,KF];rw[O7];intro e he;cases hbe:Region.binds .any e with
     |false=>simp
     |true=>
      have hlt:=JR i _ L e jg hbe;rw[ih e.on AA AA];simp
    rw[hr]at hmem;simp at hmem
  have :=hall (N+1) N AA AA;rw[hlN]at this;cases this
 ·unfold toCome;simp
 refine .inl ⟨BG,qW,ok,H,0,Dx _,fun b u _=>qW,?_,hh.size,hh.defers.mono (fun b u=>⟨u,rfl⟩),fun t ht _=>?_,fun i o d _ _ hl=>?_,fun j o _ hl=>?_⟩
 ·exact⟨⟨hh.mem.fr.os,hh.mem.fr.tape,hh.mem.fr.output,hh.mem.fr.size,hh.mem.fr.block⟩,hh.mem.uD,hh.mem.uF,hh.mem.jl,hh.mem.names,hh.mem.hlen,fun k e h h1 h2=>(hh.mem.ent k e h h1 h2).drew,hh.mem.blk,hh.mem.Az⟩
 ·exact R.mono (w:=w) (ok:=ok) (w':={ w with drawn:=w.drawn+1 }) (fun b u=>⟨u,rfl⟩) (.refl _) (hh.slot t ht)
 ·simp[Array.getD]at hl
 simp[Array.getD]at hl
def AB.aqi {id:Nat} {σ σ':Ai} {Q:Exit→Ai→Prop} {rs:List AV} {ess:List (List Au)} {bs:List Bool} (N:Nat) (h:EP P ops (ops.toList.take N) σ rs ess bs σ') (u:CJ P ops (ops.toList.drop N) σ' Q) (n:N+1=ops.size:=by kernel_rfl) (J:P.follows .mixedOrders=true:=by kernel_rfl) (f:(TD ops&&UL ops&&Qa ops σ.slots.length&&Ty ops)=true:=by kernel_rfl) (q:bs.length=N:=by kernel_rfl) (j:UZ ops (bs++[true])=true:=by kernel_rfl):AB P (.region id ops true) σ Q:=by
 refine AB.atB N n J f q j h fun ro C ok H a w L=>?_;have z:N<ops.size:=AA
 have hd:ops.toList.drop N=[ops[N]]:=by
  rw[NC XW];simp[←n]
 rw[hd]at u;have I:=u.run ro [] (fun e a' w'=>∃ok' H' σ',Holds C ok' H' σ' a' w'∧Q e σ') C ok H a w L ⟨fun σ' ok' H' a' w' s m=>⟨ok',H',σ',m,s⟩,fun v σ' ok' H' a' w' s m=>⟨ok',H',σ',m,s⟩⟩;unfold wpOpIn;have M:ops[N]? =some ops[N]:=by simp[z]
 rw[M];simp only[WZ,IC,wpListIn]at I;exact I
end
section
variable {P : Program} {o : Oper} {es : List Au}
def tV {t:TypeId} (e s:Nat) (q:(P.info? t).bind (·.zero)=some (.slice none 0 0)) (u:o.op=.alloc t):BQ P o [] es (.ptr (es.length+1) 0) (es++[.arr e s [],.box [.aP es.length]]):=
 .eff fun C ok H a w h O=>by
  obtain⟨n,S⟩:=aEy h e s;have f:(H++[(⟨.slice none 0 0,s⟩:BN)]).length=(es++[Au.arr e s []]).length:=n.hlen;have z:(H++[(⟨.slice none 0 0,s⟩:BN)])[es.length]? =some ⟨.slice none 0 0,s⟩:=aA4
  have I:Dy ok (w.alloc (.cells #[.slice none 0 0] t)) ((H++[⟨.slice none 0 0,s⟩])++[⟨.pointer (some ⟨w.heap.size,0,none⟩),0⟩]) ⟨.pointer (some ⟨w.heap.size,0,none⟩),0⟩ (.box [.aP es.length]):=by
   refine⟨w.heap.size, #[.slice none 0 0],t,rfl,Y5 w _,rfl,fun i hi=>?_⟩
   match i,hi with
   |0,_=>exact⟨rfl,.aP _ none 0 0 s (by rw[FD (by simp[h.hlen])];exact z)⟩
  obtain⟨J,L⟩:=n.push (.cells #[.slice none 0 0] t) ⟨.pointer (some ⟨w.heap.size,0,none⟩),0⟩ _ (yL w) I;have j:Bo C ok ((H++[⟨.slice none 0 0,s⟩])++[⟨.pointer (some ⟨w.heap.size,0,none⟩),0⟩]) (es++[.arr e s [],.box [.aP es.length]]) (w.alloc (.cells #[.slice none 0 0] t)):=by simpa[G6]using J
  refine⟨.pointer (some ⟨w.heap.size,0,none⟩),_,ok,_,.inl ?_,L,(Names.push _ _).trans (Names.push _ _),j,.ptr _ _ w.heap.size 0 ?_⟩
  ·obtain⟨i,hi,m⟩:=YK.1 q;have M:Value.cells (.slice none 0 0)= #[.slice none 0 0]:=rfl;simp[execOp,u,Instr.alloc,zeroValue,typeInfo,hi,m,newVar,newRow,M]
  rw[Ho (by rw[f];simp),f];simp
def yC {α:Type} {x y:Operand} {t e:TypeId} {k n:Nat} {kd:IntKind} {i:Int} (enc:α→D) {l:List α} {a:α} (h:BF l i=some a) (hl:l.length=n) (I:P.underlying t=some (.array n e)) (J:DI P e false 1) (L:es[k]? =some (.box (Ae (JI enc l)))) (M:o.op=.indexAddr t x y):
 BQ P o [(x,.ptr k 0),(y,.d (.lit (.int kd i)))] es (.ptr k i.toNat) es:=
 .pure fun ok H O w f m u=>by
  obtain⟨S,U⟩:=Ip h;obtain⟨hd,hh,_⟩:=Et f m L;have q:=(Dt u).1;have z:=(Dt u).2.lit;simp only at q z;have Y:=(Eb.1 U).1;have Z:(underlying t).run P w=.ok (.array n e) w:=by simp[underlying,I]
  generalize hv:O.eval x=v at q;cases q with
  |ptr _ _ b s hH=>
   have hb:0≤i∧i<n:=⟨S,AA⟩
   refine⟨.pointer (some ⟨b,i.toNat,none⟩),?_,.ptr k _ b s hH⟩;have j:(⟨b,0,none⟩:Addr).add i.toNat=⟨b,i.toNat,none⟩:=by rw[addr_add,Hz]
   simp[execOp,M,hv,z,Instr.indexAt,asIntOf,Z,Instr.sureAddr,hb,J.size w,j]
def aru {α:Type} {i:Int} {enc:α→D} {l:List α} {a:α} (h:BF l i=some a):(Ae (JI enc l))[i.toNat]? =some (.d (enc a)):=by
 have f:=(Ip h).2;simp[Ae,JI,D.cells,f]
def zf {α:Type} {x:Operand} {t:TypeId} {k:Nat} {i:Int} (enc:α→D) {l:List α} {a:α} (h:BF l i=some a) (f:es[k]? =some (.box (Ae (JI enc l)))) (j:DI P t false 1) (m:o.op=.load t x):BQ P o [(x,.ptr k i.toNat)] es (.d (enc a)) es:=aHN f (aru h) j m
def aIB {t:TypeId} {x:Operand} {y:D} (f:match P.underlying t with |some (.interface _)=>false|some _=>true|none=>false) (m:o.op=.makeInterface t x):BQ P o [(x,.d y)] es (.d (.JM t y)) es:=
 .pure fun ok H a w _ _ n=>by
  have q:Cm ok w y (a.eval x):=by have :=n (x,.d y) BG;cases this with |d _ _ h=>exact h
  refine⟨.iface t (a.eval x),?_,.d _ _ (.JM t y _ q)⟩;cases j:P.underlying t with
  |none=>rw[j]at f;cases f
  |some d=>
   rw[j]at f;have s:(underlying t).run P w=.ok d w:=by simp[underlying,j]
   cases d<;>first|(cases f;done)|simp[execOp,m,Instr.makeInterface,s]
def aJh {t:TypeId} {x:Operand} (us:List Value) (f:match P.underlying t with |some (.interface _)=>false|some _=>true|none=>false) (m:o.op=.makeInterface t x):BQ P o [(x,.d (.agg (us.map .lit)))] es (.d (.lit (.iface t (.agg us.toArray)))) es:=
 .pure fun ok H a w _ _ n=>by
  have j:=(n (x,.d (.agg (us.map .lit))) BG).ZP;simp only at j;refine⟨.iface t (.agg us.toArray),?_,.d _ _ (.lit _)⟩;cases h:P.underlying t with
  |none=>rw[h]at f;cases f
  |some d=>
   rw[h]at f;have q:(underlying t).run P w=.ok d w:=aE5
   cases d<;>first|(cases f;done)|simp[execOp,m,Instr.makeInterface,q,j]
def kF (P:Program) (t:TypeId) (h:String) (f:FuncId):Bool:=
 match P.info? t with
 |some i=>(match i.methods.find? (·.name==h)with
  |some m=>m.path.toList.isEmpty&&(match m.func with |some (g,p)=>decide (g=f)&& !p|none=>false)
  |none=>false)&&(match P.underlying t with |some (.pointer _)=>false|some _=>true|none=>false)
 |none=>false
def ap9 {t:TypeId} {j:String} {f:FuncId} (h:kF P t j f=true) (n:Nat) (v:Value) (w:World):(method (n+1) t v j).run P w=.ok (f,v) w:=by
 unfold kF at h;split at h
 ·rename_i i hi;rw[Bv]at h;obtain⟨q,s⟩:=h;split at q
  ·rename_i m I;rw[Bv]at q;obtain⟨J,u⟩:=q;split at u
   ·rename_i g p L;simp only[Bv,FI,QD]at u;obtain⟨rfl,rfl⟩:=u;have M:m.path.toList=[]:=List.isEmpty_iff.1 J;cases z:P.underlying t with
    |none=>rw[z]at s;cases s
    |some d=>
     rw[z]at s;have O:∀w,(underlying t).run P w=.ok d w:=fun w=>by simp[underlying,z]
     cases d<;>first|(cases s;done)|simp[method,typeInfo,hi,I,M,follow,L,receiverAt,O,Place.get]
   cases u
  cases q
 cases h
def aex {f:FuncId} {j:Operand} {s:String} {ops:Array Operand} {ats:Array TypeId} {t:TypeId} (x:D) (m:List D) {q:AV} (hr:Aw P f ((x::m).map .d) [] q []) (hf:DC P f=true) (z:kF P t s f=true) (hl:ops.toList.length=m.length) (L:q.up [] es.length=q)
 (ho:o.op=.call { callee:=.invoke j s,args:=ops,argTypes:=ats }):BQ P o ((j,.d (.JM t x))::EM ops.toList (m.map .d)) es q es:=by
 intro C ok H a w Q hm hn;have S:=hn (j,.d (.JM t x)) BG;simp only at S;have I:=dB (xs:=ops.toList) (vs:=m.map .d) (by simpa using hl) (fun n U=>hn n (Gq _ U));generalize hv:a.eval j=v at S;cases S with
 |d _ _ h=>
  cases h with
  |JM _ _ u h1=>
   unfold Oper.wp
   have he:(execOp a.eval o).run P w=.ok (.enter f (#[u]++ops.map a.eval)) w:=by
    have h2:=Py hf (#[u]++ops.map a.eval) w;have J:=ap9 z (P.types.size+99) u w;have Y:(#[Value.iface t u]++ops.map a.eval)[0]? =some (.iface t u):=by rw[Y9 BG];rfl
    have Z:(#[Value.iface t u]++ops.map a.eval).extract 1 (#[Value.iface t u]++ops.map a.eval).size=ops.map a.eval:=by
     apply aE9;rw[Array.toList_extract];simp only[Array.size_append,Array.size_map,List.extract_eq_take_drop,Array.toList_append,Yy,Qd];simp;exact P6 BG
    simp only[execOp,ho,resolve,hv,ER,Ep,EX,invoke,Y,Z,callMethod];have h6:(program).run P w=.ok P w:=rfl;simp only[h6,EX];have h7:P.types.size+Made.depth=P.types.size+99+1:=rfl;rw[h7,J];exact h2
   rw[he,WY];have M:(ops.map a.eval).size=m.length:=by simpa using hl
   refine(aJo hm hr _ (by simp at M;simp[M];omega) (fun i hi=>?_) L).mono ?_
   ·cases i with
    |zero=>
     have e0:(#[u]++ops.map a.eval).getD 0 undef=u:=by simp[FU,Y9]
     rw[e0];exact h1
    |succ i=>
     have O:i<m.length:=Ey
     have J:=I i sW;have e1:(m.map AV.d).getD i .junk=.d (m.getD i Cb):=by simp[List.getD,O]
     have hi2:i<ops.size:=adr
     have e2:(#[u]++ops.map a.eval).getD (i+1) undef=(ops.toList.map a.eval).getD i undef:=by
      simp only[FU,List.getD];rw[aC6 BG];simp[hi2]
     rw[e2];rw[e1]at J;have e3:(x::m).getD (i+1) Cb=m.getD i Cb:=BG
     rw[e3];cases J with |d _ _ h=>exact h
   rintro e w' ⟨v,ok',H',rfl,J,Y,Z,h6⟩;exact⟨v,ok',H',rfl,J,Y,Z,h6⟩
end
section
variable {P : Program} {ops : Array Oper} {o : Oper} {rest l : List Oper} {σ : Ai} {K : Exit → Ai → Prop}
def CJ.zu {f:FuncId} {dH:List AV} {u:Value} (S:aaT P f dH u) (U:DC P f=true) (h:K (lJ u) σ) (s:Rf σ o=some (f,dH):=by kernel_rfl) (hd:dH.all AV.wX=true:=by kernel_rfl) (Y:IE ops σ o.guard=some true:=by kernel_rfl):CJ P ops (o::rest) σ K:=by
 refine⟨fun ro Z Q C ok H a w j hk=>?_⟩;show wpListIn (Gg ro) 0 P ops Q (o::(rest++Z)) a w;unfold wpListIn;rw[CG (NS j (Jb Y))];unfold Rf at s;split at s
 ·rename_i c J;split at s
  ·rename_i f' q;cases s;obtain⟨callee,args,ats⟩:=c;simp only at q;subst q;have n:(execOp a.eval o).run P w=.ok (.enter f (args.map a.eval)) w:=by rw[jE J,Py U]
   unfold Oper.wpIn;rw[Zr _ _ _ (by rw[J];intro c h;cases h),n]
   have I:Bo ⟨w,ok,[],[]⟩ ok [] [] w:=
    ⟨.refl _ _,fun _ h=>h,fun _ h=>.inl h,j.mem.jl,.refl _,rfl,fun k e h n=>XG,fun k e h b n=>XG,fun k k' e e' h h' b n=>XG⟩
   have key:Calls P f (args.map a.eval) w fun e w'=>e=.panicked [{ v:=u,recovered:=false }]∧∃ok',Holds C ok' H σ a w':=by
    refine(S ok [] [] w _ I BG (fun i hi=>?_)).mono ?_
    ·have z:i<args.size:=Ey
     have e1:(args.toList.map σ.get).getD i .junk=σ.get args[i]:=by simp[List.getD,z]
     have e2:(args.map a.eval).getD i undef=a.eval args[i]:=by simp[Array.getD,z]
     have L:AV.wX (σ.get args[i])=true:=by
      rw[DV]at hd;exact hd _ (FM.2 ⟨args[i],BG,rfl⟩)
     have M:=j.get args[i];rw[e1,e2];generalize σ.get args[i]=y at L M;cases y with
     |d y=>cases M with |d _ _ h=>exact .d _ _ h
     |_=>cases L
    rintro e w' ⟨ok',H',rfl,m⟩;obtain⟨h1,O⟩:=j.mem.change (ok':=ok) (H':=H) (es':=σ.ents) (w':=w') (fun _=>False) m.fr.os m.fr.tape m.fr.output m.fr.size (fun b hb _=>m.fr.block b hb BG) (fun _ h=>h.elim) (fun _ h=>h) (fun _ h=>.inl h) (.refl _) j.mem.hlen (fun k e h n j=>.inl ⟨n,j,fun _ _ _ h=>h⟩);exact⟨rfl,ok,h1,j.size,j.defers.mono O,j.base,fun t ht=>(j.slot t ht).mono O (.refl _)⟩
   refine⟨fun _ _=>trivial,fun h=>GX,wR.2 (key.mono ?_)⟩;rintro e w' ⟨rfl,ok',h5⟩;exact hk.2 _ _ _ _ _ _ h h5
  cases s
 cases s
end
def Ia {α β:Type} (r:Except Value α) (f:α→Option (Except Value β)):Option (Except Value β):=
 match r with
 | .ok a=>f a
 | .error u=>some (.error u)
def ahe (p:Addr) (w:World):
 CallsD Tryz.prog 120 #[.pointer (some p)] .returning w fun e f w'=>e=.returned (.tuple #[])∧f=.returning∧w'=w:=by
 refine vI Tryz.func120 rfl fun h cs j=>?_;apply NJ;apply NH;simp[wpOpsS,go_sem,recoverD,j,Tryz.ntmps120,Exit.thenS];apply NJ;apply NH;simp[wpOpsS,go_sem,Exit.thenS];refine Zj (t:=false) Yl ?_;simp only[Qu,Ic];refine wpS_of_wp (wp_skip ?_);cases h
 simp_all [bodyPostS,results,Tryz.results120]
def am4 (b:Nat) (x:Value) (n:Int) (w:World) (u:w.heap[b]? =some (.cells #[x] 68 (0,0))):
 CallsD Tryz.prog 120 #[.pointer (some ⟨b,0,none⟩)] (.panicking [{ v:=.iface 150 (.agg #[.int .i64 n]),recovered:=false }]) w fun e z w'=>
  e=.returned (.tuple #[])∧z=.panicking [{ v:=.iface 150 (.agg #[.int .i64 n]),recovered:=true }]∧w.grownBy w' (some b)∧w'.heap[b]? =some (.cells #[.int .i64 n] 68 (0,0)):=by
 have h:∀(I:TypeId) (w:World),(Instr.typeAssert (.iface 150 (.agg #[.int .i64 n])) I 150 true).run Tryz.prog w=.ok (.tuple #[.agg #[.int .i64 n],.bool true]) w:=fun _ _=>A8
 have J:∀w:World,(Instr.alloc 150 true (.tuple #[])).run Tryz.prog w=.ok (.pointer (some ⟨w.heap.size,0,none⟩)) (w.alloc (.cells #[.int .i64 0] 150)):=fun w=>by
  simp[Instr.alloc,go_sem]
 have hst:∀w:World,(Instr.storeAt 150 (.pointer (some ⟨w.heap.size,0,none⟩)) (.agg #[.int .i64 n])).run Tryz.prog (w.alloc (.cells #[.int .i64 0] 150))=.ok () (w.alloc (.cells #[.int .i64 n] 150)):=fun w=>by
  simp[Instr.storeAt,go_sem]
 refine vI Tryz.func120 rfl fun O cs L=>?_;apply NJ;apply NH;simp[wpOpsS,go_sem,recoverD,L,Tryz.ntmps120,Exit.thenS];apply NJ;apply NH;simp[wpOpsS,go_sem,Exit.thenS];refine Zj (t:=true) Yl ?_;simp only[Iu];apply NJ;apply NH;simp[wpOpsS,execOp,h,J,hst,go_sem,Exit.thenS];apply NJ;apply NJ;apply NH;simp[wpOpsS,go_sem,Exit.thenS];refine Zj (t:=false) Yl ?_;simp only[Qu,Ic];refine wpS_of_wp (wp_skip ?_);simp only[Exit.thenS];have j:b<w.heap.size:=(Ei.1 u).1;have f:(w.alloc (.cells #[.int .i64 n] 150)).heap[b]? =some (.cells #[x] 68 (0,0)):=(Hl _ _ _ j).trans u;have M:(w.alloc (.cells #[.int .i64 n] 150)).cell? ⟨b,0,none⟩=some x:=aAi
 have m:(w.alloc (.cells #[.int .i64 n] 150)).frozen? ⟨b,0,none⟩=false:=by simp[World.frozen?,f]
 apply NH;simp[wpOpsS,go_sem,Exit.thenS,M,m,bodyPostS,results,Tryz.results120]
 have key:(w.alloc (.cells #[.int .i64 n] 150)).setCell ⟨b,0,none⟩ (.int .i64 n)=(w.alloc (.cells #[.int .i64 n] 150)).putObj b (.cells #[.int .i64 n] 68 (0,0)):=by
  simp only[World.setCell,World.putObj];congr 1;apply eU;intro i;rw[Lm,aFv];by_cases e:b=i
  ·subst e;rw[CG rfl,CG rfl,f,CG (Ei.1 f).1];rfl
  rw[CV e,CV e]
 rw[key];have q:b<(w.alloc (.cells #[.int .i64 n] 150)).heap.size:=(Ei.1 f).1;refine⟨⟨rfl,rfl,rfl,BG,fun i hi s=>?_⟩,TL q⟩;rw[VL (fun e=>s (by rw[e]))];exact Hl _ _ _ hi
def Q8 {T:Type}:Except Value T→Option Int
 | .ok _=>some 0
 | .error (.iface t (.agg cs))=>bif t==150 then(match cs.toList with | [.int .i64 n]=>some n|_=>none)else none
 | .error _=>none
def aco (b:Nat) (n:Int) (w:World) (f:w.heap[b]? =some (.cells #[.int .i64 n] 68 (0,0))) (tmps:Array Value) (h:tmps.getD 2 undef=.pointer (some ⟨b,0,none⟩)):(results Tryz.f81 tmps).run Tryz.prog w=.ok (.int .i64 n) w:=by
 have j:w.cell? ⟨b,0,none⟩=some (.int .i64 n):=aAi
 have e:results Tryz.f81 tmps=(do let v ←loadVar 68 (←asAddr (tmps.getD 2 undef));pure v):=by simp[results,Tryz.results81]
 rw[e,h];simp[go_sem,j]
def asi {g:FuncId} {us:Array Value} {w:World} {n:Int} (he:∀(vs:Array Value) (w:World),(callFunc g vs).run Tryz.prog w=.ok (.enter g vs) w)
 (z:Calls Tryz.prog g us (w.alloc (.cells #[.int .i64 0] 68 (0,0))) fun e s=>(w.alloc (.cells #[.int .i64 0] 68 (0,0))).grownBy s none∧((∃v,e=.returned v∧n=0)∨e=.panicked [{ v:=.iface 150 (.agg #[.int .i64 n]),recovered:=false }])):
 Calls Tryz.prog 81 #[.func (.func g) #[] us] w fun e w'=>e=.returned (.int .i64 n)∧w.grownBy w' none:=by
 have S:∀(fn:Fn) (first cap:Array Value) (w:World),(Instr.makeFunc fn first cap).run Tryz.prog w=.ok (.func fn first cap) w:=fun _ _ _ _=>rfl;have q:w.grownBy (w.alloc (.cells #[.int .i64 0] 68 (0,0))) none:=⟨rfl,rfl,rfl,BG,fun i hi _=>Hl _ _ _ hi⟩
 go_enter_defers Tryz.func81,Tryz.ntmps81
 apply wp_seq;apply XP;refine .inl ?_;simp[Oper.wp,go_sem,wpList,Exit.then];apply wp_seq;apply XP;refine .inl ?_;simp[Oper.wp,go_sem,S,wpList,Exit.then];refine .inl ?_;apply wp_seq;apply XP;refine .inl ?_;simp[Oper.wp,go_sem,he,wpList,Exit.then];refine .inl (z.mono ?_);rintro e s ⟨J,h⟩;have L:s.heap[w.heap.size]? =some (.cells #[.int .i64 0] 68 (0,0)):=(J.block w.heap.size BG BG).trans (ZB _ _);have M:w.heap.size<s.heap.size:=(Ei.1 L).1;have j:w.grownBy s none:=⟨J.os.trans q.os,J.tape.trans q.tape,J.output.trans q.output,E5 q.size J.size,fun i hi O=>(J.block i Dp O).trans (q.block i hi O)⟩
 have u:∀(U:World) (m:Int),s.grownBy U (some w.heap.size)→w.grownBy U none:=fun U m I=>⟨I.os.trans j.os,I.tape.trans j.tape,I.output.trans j.output,E5 j.size I.size,fun i hi O=>(I.block i (by have :=j.size;omega) Dp).trans (j.block i hi O)⟩
 rcases h with⟨v,rfl,rfl⟩|rfl
 ·have hc:s.cell? ⟨w.heap.size,0,none⟩=some (.int .i64 0):=by rw[World.cell?,L];rfl
  have Y:s.frozen? ⟨w.heap.size,0,none⟩=false:=by simp[World.frozen?,L]
  apply wp_seq;apply XP;refine .inl ?_;simp[Oper.wp,go_sem,hc,Y,wpList,Exit.then];apply wp_ret
  have key:s.setCell ⟨w.heap.size,0,none⟩ (.int .i64 0)=s.putObj w.heap.size (.cells #[.int .i64 0] 68 (0,0)):=by
   simp only[World.setCell,World.putObj];congr 1;apply eU;intro i;rw[Lm,aFv];by_cases e:w.heap.size=i
   ·subst e;rw[CG rfl,CG rfl,L,CG M];rfl
   rw[CV e,CV e]
  rw[key];refine leaves_cons (f:=120) (args:= #[.pointer (some ⟨w.heap.size,0,none⟩)]) BG uy ?_;refine(ahe ⟨w.heap.size,0,none⟩ _).mono ?_;rintro e u' Z ⟨rfl,rfl,rfl⟩;refine⟨.int .i64 0,aco w.heap.size 0 _ (TL M) _ rfl,rfl,u _ 0 ⟨rfl,rfl,rfl,BG,fun i hi hne=>VL (fun e=>hne (by rw[e]))⟩⟩
 refine leaves_cons (f:=120) (args:= #[.pointer (some ⟨w.heap.size,0,none⟩)]) BG uy ?_;refine(am4 w.heap.size (.int .i64 0) n s L).mono ?_;rintro e u' Z ⟨rfl,rfl,I,h4⟩;exact⟨.int .i64 n,aco w.heap.size n _ h4 _ rfl,rfl,u _ n I⟩
def aHJ {T:Type} {res:T→AV} (g:FuncId) (f:List D) (r:Except Value T) (hr:MI Tryz.prog g (f.map .d) r res) (J:DC Tryz.prog g=true) (n:Int) (q:Q8 r=some n):
 BI 81 [.d (.fn (.func g) [] f)] [] (.d (AP n)) []:=by
 intro ok X H w z hm hs ha;obtain rfl:H=[]:=Fj hm.hlen;have Z:=ha 0 BG
 obtain⟨fv,rfl⟩:∃fv,z= #[fv]:=by
  have h1:z.size=1:=hs;exact⟨z[0],by apply XE (by simp[h1]);intro i h1 h2;simp at h2;subst h2;rfl⟩
 have Z:R ok w [] (.d (.fn (.func g) [] f)) fv:=Z;cases Z with
 |d _ _ Z=>
 cases Z with
 |fn _ _ _ vs us hl1 hl2 h1 h2=>
 obtain rfl:vs= #[]:=XO (by simpa using hl1);obtain⟨s,O⟩:∃s,s=w.alloc (.cells #[.int .i64 0] 68 (0,0)):=⟨_,rfl⟩
 have hg1:Df ok w ok s:=fun b M=>⟨M,by rw[O];exact Hl _ _ _ (hm.jl b M)⟩
 have hmc:Bo ⟨s,ok,[],[]⟩ ok [] [] s:=
  ⟨.refl _ _,fun _ h=>h,fun _ h=>.inl h,fun b M=>by rw[O];simp;exact Nat.lt_succ_of_lt (hm.jl b M),.refl _,rfl,fun k e h J=>XF,fun k e h b J=>XF,fun k k' e e' h h' b J=>XF⟩
 have I:∀i,i<(f.map AV.d).length→R ok s [] ((f.map AV.d).getD i .junk) (us.getD i undef):=fun i hi=>by
  rw[CB]at hi;have e1:(f.map AV.d).getD i .junk=.d (f.getD i Cb):=Jc
  rw[e1];exact .d _ _ ((h2 i hi).mono hg1)
 have hgr:∀{S:Nat→Prop} {H2:List BN} {Y:World},Bo ⟨s,ok,[],[]⟩ S H2 [] Y→s.grownBy Y none:=fun j=>⟨j.fr.os,j.fr.tape,j.fr.output,j.fr.size,fun b M _=>j.fr.block b M BG⟩
 have U:Calls Tryz.prog g us s fun e Y=>s.grownBy Y none∧((∃v,e=.returned v∧n=0)∨e=.panicked [{ v:=.iface 150 (.agg #[.int .i64 n]),recovered:=false }]):=by
  cases L:r with
  |ok x=>
   rw[L]at q;refine(hr.1 x L ok [] [] s us hmc (by simpa using hl2) I).mono ?_;rintro e Y ⟨v,S,H2,rfl,j,_⟩;exact⟨hgr j,.inl ⟨v,rfl,(Bl q).symm⟩⟩
  |error u=>
   rw[L]at q
   have hu:u=.iface 150 (.agg #[.int .i64 n]):=by
    unfold Q8 at q;split at q
    ·rename_i h;cases h
    ·rename_i t cs h;cases h;cases ht:(t==150)with
     |false=>rw[ht]at q;cases q
     |true=>
      rw[ht]at q;simp only[Ba]at q;obtain rfl:t=150:=by simpa using ht
      split at q
      ·rename_i m hcs;obtain rfl:=Bl q;rw[←bK (xs:=cs),hcs]
      cases q
    cases q
   refine(hr.2 u L ok [] [] s us hmc (by simpa using hl2) I).mono ?_;rintro e Y ⟨S,H2,rfl,j⟩;exact⟨hgr j,.inr (by rw[hu])⟩
 subst O;refine(asi (fun vs w=>Py J vs w) U).mono ?_;rintro e w' ⟨rfl,hg⟩;obtain⟨m1,_⟩:=hm.change (ok':=ok) (H':=[]) (es':=[]) (w':=w') (fun _=>False) hg.os hg.tape hg.output hg.size (fun b M _=>hg.block b M BG) (fun _ h=>h.elim) (fun _ h=>h) (fun _ h=>.inl h) (.refl _) rfl (fun k e h J=>XF);exact⟨_,ok,[],rfl,m1,.d _ _ (.lit _)⟩
def setCell_eq {w:World} {b:Nat} {x y:Value} {t:TypeId} (f:w.heap[b]? =some (.cells #[x] t (0,0))):w.setCell ⟨b,0,none⟩ y=w.putObj b (.cells #[y] t (0,0)):=by
 simp only[World.setCell,World.putObj];congr 1;apply eU;intro i;rw[Lm,aFv];by_cases e:b=i
 ·subst e;rw[CG rfl,CG rfl,f,CG (Ei.1 f).1];rfl
 rw[CV e,CV e]
def agj (p q:Addr) (w:World):
 CallsD Tryz.prog 369 #[.pointer (some p),.pointer (some q)] .returning w fun e f w'=>e=.returned (.tuple #[])∧f=.returning∧w'=w:=by
 refine vI Tryz.func369 rfl fun h cs j=>?_;apply NJ;apply NH;simp[wpOpsS,go_sem,recoverD,j,Tryz.ntmps369,Exit.thenS];apply NJ;apply NH;simp[wpOpsS,go_sem,Exit.thenS];refine Zj (t:=false) Yl ?_;simp only[Qu,Ic];refine wpS_of_wp (wp_skip ?_);cases h
 simp_all [bodyPostS,results,Tryz.results369]
def akX (b c:Nat) (ad:Option Addr) (n cap:Nat) (x:Value) (w:World) (L:w.heap[b]? =some (.cells #[.slice ad n cap] 26 (0,0))) (M:w.heap[c]? =some (.cells #[x] 26 (0,0))):
 CallsD Tryz.prog 369 #[.pointer (some ⟨b,0,none⟩),.pointer (some ⟨c,0,none⟩)] (.panicking [{ v:=.iface 317 (.agg #[]),recovered:=false }]) w fun e O w'=>
  e=.returned (.tuple #[])∧O=.panicking [{ v:=.iface 317 (.agg #[]),recovered:=true }]∧w.grownBy w' (some c)∧w'.heap[c]? =some (.cells #[.slice ad n cap] 26 (0,0)):=by
 have h:∀(S:TypeId) (w:World),(Instr.typeAssert (.iface 317 (.agg #[])) S 317 true).run Tryz.prog w=.ok (.tuple #[.agg #[],.bool true]) w:=fun _ _=>A8
 refine vI Tryz.func369 rfl fun Y cs U=>?_;apply NJ;apply NH;simp[wpOpsS,go_sem,recoverD,U,Tryz.ntmps369,Exit.thenS];apply NJ;apply NH;simp[wpOpsS,go_sem,Exit.thenS];refine Zj (t:=true) Yl ?_;simp only[Iu];apply NJ;apply NJ;apply NH;simp[wpOpsS,execOp,h,go_sem,Exit.thenS];apply NJ;apply NH;simp[wpOpsS,go_sem,Exit.thenS];refine Zj (t:=false) Yl ?_;simp only[Qu,Ic];refine wpS_of_wp (wp_skip ?_);simp only[Exit.thenS];have j:b<w.heap.size:=(Ei.1 L).1;have m:c<w.heap.size:=(Ei.1 M).1;have q:(w.alloc (.cells #[] 317)).heap[b]? =some (.cells #[.slice ad n cap] 26 (0,0)):=(Hl _ _ _ j).trans L;have f:(w.alloc (.cells #[] 317)).heap[c]? =some (.cells #[x] 26 (0,0)):=(Hl _ _ _ m).trans M;have s:(w.alloc (.cells #[] 317)).cell? ⟨b,0,none⟩=some (.slice ad n cap):=by rw[World.cell?,q];rfl
 have u:(w.alloc (.cells #[] 317)).cell? ⟨c,0,none⟩=some x:=aAi
 have z:(w.alloc (.cells #[] 317)).frozen? ⟨c,0,none⟩=false:=by simp[World.frozen?,f]
 apply NH;simp[wpOpsS,go_sem,Exit.thenS,s,u,z,bodyPostS,results,Tryz.results369];rw[setCell_eq f];have I:c<(w.alloc (.cells #[] 317)).heap.size:=(Ei.1 f).1;refine⟨⟨rfl,rfl,rfl,BG,fun i hi J=>?_⟩,TL I⟩;rw[VL (fun e=>J (by rw[e]))];exact Hl _ _ _ hi
def step_fin (b:Nat) (v:Value) (w:World) (f:w.heap[b]? =some (.cells #[v] 26 (0,0))) (tmps:Array Value) (h:tmps.getD 6 undef=.pointer (some ⟨b,0,none⟩)):(results Tryz.f304 tmps).run Tryz.prog w=.ok v w:=by
 have j:w.cell? ⟨b,0,none⟩=some v:=aAi
 have e:results Tryz.f304 tmps=(do let v ←loadVar 26 (←asAddr (tmps.getD 6 undef));pure v):=by simp[results,Tryz.results304]
 rw[e,h];simp[go_sem,j]
def aky {l id:Value} {ad:Option Addr} {n cap:Nat} {w:World} {Rv:Value→World→Prop} {bad:Prop}
 (u:Calls Tryz.prog 370 #[l,.slice ad n cap,id] ((w.alloc (.cells #[.slice ad n cap] 26 (0,0))).alloc (.cells #[.slice none 0 0] 26 (0,0))) fun e j=>((w.alloc (.cells #[.slice ad n cap] 26 (0,0))).alloc (.cells #[.slice none 0 0] 26 (0,0))).grownBy j none∧((∃I Z m,e=.returned (.slice I Z m)∧Rv (.slice I Z m) j)∨(e=.panicked [{ v:=.iface 317 (.agg #[]),recovered:=false }]∧bad))):
 Calls Tryz.prog 304 #[l,.slice ad n cap,id] w fun e w'=>w.grownBy w' none∧((∃v j,e=.returned v∧Rv v j∧w.grownBy j none∧w.heap.size+1<j.heap.size∧j.grownBy w' (some (w.heap.size+1)))∨(e=.returned (.slice ad n cap)∧bad)):=by
 have hmf:∀(fn:Fn) (first cap:Array Value) (w:World),(Instr.makeFunc fn first cap).run Tryz.prog w=.ok (.func fn first cap) w:=fun _ _ _ _=>rfl;obtain⟨M,q⟩:∃M,M=(w.alloc (.cells #[.slice ad n cap] 26 (0,0))).alloc (.cells #[.slice none 0 0] 26 (0,0)):=⟨_,rfl⟩
 have hs1:M.heap.size=w.heap.size+2:=by rw[q];simp
 have S:M.heap[w.heap.size]? =some (.cells #[.slice ad n cap] 26 (0,0)):=by rw[q];exact(Hl _ _ _ BG).trans (ZB w _)
 have h1c:M.heap[w.heap.size+1]? =some (.cells #[.slice none 0 0] 26 (0,0)):=by
  have :=ZB (w.alloc (.cells #[.slice ad n cap] 26 (0,0))) (.cells #[.slice none 0 0] 26 (0,0));rw[aFm]at this;rw[q];exact this
 have z:w.grownBy M none:=by
  rw[q];exact⟨rfl,rfl,rfl,Dp,fun i hi _=>(Hl _ _ _ Dp).trans (Hl _ _ _ hi)⟩
 have hcb:M.cell? ⟨w.heap.size,0,none⟩=some (.slice ad n cap):=by rw[World.cell?,S];rfl
 rw[←q]at u
 go_enter_defers Tryz.func304,Tryz.ntmps304
 apply wp_seq;apply XP;refine .inl ?_;simp[Oper.wp,go_sem,wpList,Exit.then];rw[←q];have he:∀(vs:Array Value) (w:World),(callFunc 370 vs).run Tryz.prog w=.ok (.enter 370 vs) w:=fun vs w=>Py (P:=Tryz.prog) (f:=370) A8 vs w;refine .inl ?_;apply wp_seq;apply XP;refine .inl ?_;simp[Oper.wp,go_sem,hmf,wpList,Exit.then];refine .inl ?_;apply wp_seq;apply XP;refine .inl ?_;simp[Oper.wp,go_sem,wpList,Exit.then,hcb,he];refine .inl (.inl (.inl (u.mono ?_)));rintro e j ⟨O,h⟩;have hb:j.heap[w.heap.size]? =some (.cells #[.slice ad n cap] 26 (0,0)):=(O.block _ AA BG).trans S;have U:j.heap[w.heap.size+1]? =some (.cells #[.slice none 0 0] 26 (0,0)):=(O.block _ AA BG).trans h1c;have Y:w.heap.size+1<j.heap.size:=(Ei.1 U).1;have s:w.grownBy j none:=⟨O.os.trans z.os,O.tape.trans z.tape,O.output.trans z.output,E5 z.size O.size,fun i hi hn=>(O.block i AA hn).trans (z.block i hi hn)⟩
 have L:∀(w3:World),j.grownBy w3 (some (w.heap.size+1))→w.grownBy w3 none:=fun w3 J=>⟨J.os.trans s.os,J.tape.trans s.tape,J.output.trans s.output,E5 s.size J.size,fun i hi hn=>(J.block i AA Dp).trans (s.block i hi hn)⟩
 rcases h with⟨I,Z,m,rfl,hv⟩|⟨rfl,hbad⟩
 ·have hcc:j.cell? ⟨w.heap.size+1,0,none⟩=some (.slice none 0 0):=by rw[World.cell?,U];rfl
  have hfz:j.frozen? ⟨w.heap.size+1,0,none⟩=false:=by simp[World.frozen?,U]
  simp[hcc,hfz,go_sem,wpList,Exit.then];refine .inl (wp_ret ?_);rw[setCell_eq U];refine leaves_cons (f:=369) (args:= #[.pointer (some ⟨w.heap.size,0,none⟩),.pointer (some ⟨w.heap.size+1,0,none⟩)]) BG uy ?_;refine(agj ⟨w.heap.size,0,none⟩ ⟨w.heap.size+1,0,none⟩ _).mono ?_;rintro e u' w'' ⟨rfl,rfl,rfl⟩;have J:j.grownBy (j.putObj (w.heap.size+1) (.cells #[.slice I Z m] 26 (0,0))) (some (w.heap.size+1)):=⟨rfl,rfl,rfl,BG,fun i hi hne=>VL (fun e=>hne (by rw[e]))⟩
  exact⟨.slice I Z m,step_fin (w.heap.size+1) _ _ (TL Y) _ rfl,L _ J,.inl ⟨_,rfl,j,hv,s,Y,J⟩⟩
 refine leaves_cons (f:=369) (args:= #[.pointer (some ⟨w.heap.size,0,none⟩),.pointer (some ⟨w.heap.size+1,0,none⟩)]) BG uy ?_;refine(akX w.heap.size (w.heap.size+1) ad n cap (.slice none 0 0) j hb U).mono ?_;rintro e u' w'' ⟨rfl,rfl,J,h4⟩;exact⟨.slice ad n cap,step_fin (w.heap.size+1) _ _ h4 _ rfl,L _ J,.inr ⟨rfl,hbad⟩⟩
def yA {T:Type} (s:T):Except Value T→Option T
 | .ok x=>some x
 | .error (.iface t (.agg cs))=>bif t==317&&cs.toList.isEmpty then some s else none
 | .error _=>none
def aoy {T:Type} (enc:T→List D) (dl di:D) (s:T) (r:Except Value T) (hr:MI Tryz.prog 370 [.d dl,.d (.sl (enc s)),.d di] r (fun x=>.d (.sl (enc x)))) (L:T) (S:yA s r=some L):
 BI 304 [.d dl,.d (.sl (enc s)),.d di] [] (.d (.sl (enc L))) []:=by
 intro ok X H w q Z hs ha;obtain rfl:H=[]:=Fj Z.hlen;have hsz:q.size=3:=hs
 obtain⟨l,sv,id,rfl⟩:∃l sv id,q= #[l,sv,id]:=⟨q[0],q[1],q[2],by
  apply XE (by simp[hsz]);intro i h1 h2
  match i,h2 with
  |0,_=>rfl
  |1,_=>rfl
  |2,_=>rfl⟩
 have a0:R ok w [] (.d dl) l:=ha 0 BG;have a1:R ok w [] (.d (.sl (enc s))) sv:=ha 1 BG;have a2:R ok w [] (.d di) id:=ha 2 BG
 have slv:∀{ok:Nat→Prop} {w:World} {H:List BN} {xs:List D} {v:Value},R ok w H (.d (.sl xs)) v→∃ad n cap,v=.slice ad n cap:=fun h=>by
  cases h with
  |d _ _ h=>cases h with
   |sl0 ad cap=>exact⟨_,_,_,rfl⟩
   |sl=>exact⟨_,_,_,rfl⟩
 obtain⟨ad,n,cap,rfl⟩:=slv a1;obtain⟨z,U⟩:∃z,z=(w.alloc (.cells #[.slice ad n cap] 26 (0,0))).alloc (.cells #[.slice none 0 0] 26 (0,0)):=⟨_,rfl⟩
 have hs1:z.heap.size=w.heap.size+2:=by rw[U];simp
 have hg1:Df ok w ok z:=fun b m=>⟨m,by rw[U];exact(Hl _ _ _ (by have h:=Z.jl b m;rw[aFm];omega)).trans (Hl _ _ _ (Z.jl b m))⟩
 have hmc:Bo ⟨z,ok,[],[]⟩ ok [] [] z:=
  ⟨.refl _ _,fun _ h=>h,fun _ h=>.inl h,fun b m=>by have h:=Z.jl b m;rw[hs1];omega,.refl _,rfl,fun k e h he=>by simp at he,fun k e h b he=>by simp at he,fun k k' e e' h h' b he=>by simp at he⟩
 have M:∀i,i<3→R ok z [] ([AV.d dl,.d (.sl (enc s)),.d di].getD i .junk) ((#[l,.slice ad n cap,id]:Array Value).getD i undef):=fun i hi=>by
  match i,hi with
  |0,_=>exact a0.mono hg1 (.refl _)
  |1,_=>exact a1.mono hg1 (.refl _)
  |2,_=>exact a2.mono hg1 (.refl _)
 have hgr:∀{f:Nat→Prop} {H2:List BN} {J:World},Bo ⟨z,ok,[],[]⟩ f H2 [] J→z.grownBy J none:=fun j=>⟨j.fr.os,j.fr.tape,j.fr.output,j.fr.size,fun b m _=>j.fr.block b m BG⟩
 have O:Calls Tryz.prog 370 #[l,.slice ad n cap,id] z fun e J=>z.grownBy J none∧((∃Y n' I,e=.returned (.slice Y n' I)∧∃x f,r=.ok x∧Bo ⟨z,ok,[],[]⟩ f [] [] J∧Cm f J (.sl (enc x)) (.slice Y n' I))∨(e=.panicked [{ v:=.iface 317 (.agg #[]),recovered:=false }]∧L=s)):=by
  cases hrr:r with
  |ok x=>
   refine(hr.1 x hrr ok [] [] z _ hmc rfl M).mono ?_;rintro e J ⟨v,f,H2,rfl,j,hR⟩;obtain⟨Y,n',I,rfl⟩:=slv hR;obtain rfl:H2=[]:=Fj j.hlen;exact⟨hgr j,.inl ⟨Y,n',I,rfl,x,f,rfl,j,by cases hR with |d _ _ h=>exact h⟩⟩
  |error u=>
   rw[hrr]at S
   have hu:u=.iface 317 (.agg #[])∧L=s:=by
    unfold yA at S;split at S
    ·rename_i h;cases h
    ·rename_i t cs h;cases h;cases ht:(t==317&&cs.toList.isEmpty)with
     |false=>rw[ht]at S;cases S
     |true=>
      rw[ht]at S;simp only[Bv]at ht;obtain rfl:t=317:=by simpa using ht.1
      have :cs= #[]:=by rw[←bK (xs:=cs),List.isEmpty_iff.1 ht.2]
      subst this;exact⟨rfl,(Bl S).symm⟩
    cases S
   refine(hr.2 u hrr ok [] [] z _ hmc rfl M).mono ?_;rintro e J ⟨f,H2,rfl,j⟩;exact⟨hgr j,.inr ⟨by rw[hu.1],hu.2⟩⟩
 rw[U]at O;refine(aky O (Rv:=fun v J=>∃x f,r=.ok x∧Bo ⟨_,ok,[],[]⟩ f [] [] J∧Cm f J (.sl (enc x)) v) (bad:=L=s)).mono ?_;rw[←U];rintro e w' ⟨hg,h⟩
 have mk:∀(f:Nat→Prop),(∀b,ok b→f b)→(∀b,f b→ok b∨(w.heap.size≤b∧b<w'.heap.size))→Bo ⟨w,ok,X,[]⟩ f [] [] w':=fun f h1 h2=>
  (Z.change (ok':=f) (H':=[]) (es':=[]) (w':=w') (fun _=>False) hg.os hg.tape hg.output hg.size (fun b m _=>hg.block b m BG) (fun _ h=>h.elim) h1 h2 (.refl _) rfl (fun k e h he=>by simp at he)).1
 rcases h with⟨v,J,rfl,⟨x,f,hx,j,hD⟩,hg2,hlt,h3⟩|⟨rfl,rfl⟩
 ·rw[hx]at S;obtain rfl:=Bl S
  have hgg:Df f J f w':=fun b m=>⟨m,h3.block b (j.jl b m) (fun e=>by
   obtain rfl:=Bl e;rcases j.uF _ m with h|h|h
   ·have :=Z.jl _ h;omega
   ·simp only at h;omega
   simp at h)⟩
  refine⟨v,f,[],rfl,mk f j.uD (fun b m=>?_),.d _ _ (hD.mono hgg)⟩;rcases j.uF b m with h|h|h
  ·exact .inl h
  ·simp only at h;exact .inr ⟨AA,U7 (j.jl b m) h3.size⟩
  simp at h
 have hgg:Df ok w ok w':=fun b m=>⟨m,hg.block b (Z.jl b m) BG⟩
 exact⟨_,ok,[],rfl,mk ok (fun _ h=>h) (fun _ h=>.inl h),a1.mono hgg (.refl _)⟩
end Go.Proofs.YtolgdkhlelfpoaaGreat
end
section
namespace Go.Proofs
open Go.Proofs.YtolgdkhlelfpoaaGreat
open Go.Shelf
def Tryz.RS:Go.Shelf.Ren:=⟨fun |6=>421|15=>149|14=>425|28=>204|29=>205|20=>426|21=>427|22=>428|23=>429|24=>430|25=>431|26=>432|27=>433|46=>434|47=>257|48=>258|49=>435|50=>436|57=>437|n=>n,fun |22=>349|24=>351|25=>354|3=>3|39=>89|0=>0|53=>226|55=>228|4=>4|46=>220|45=>219|50=>97|5=>5|9=>9|66=>254|70=>258|76=>300|77=>301|n=>n,fun |n=>n⟩
def Tryz.ah5:SlLaysF0.n6 Tryz.prog Tryz.RS:={
 mixed:=A8
 f6:=⟨Tryz.f421.name,BP,Tryz.func421.trans (BX some A8)⟩
 f14:=⟨Tryz.f425.name,BP,Tryz.func425.trans (BX some A8)⟩
 f15:=Tryz.func149.trans (BX some A8)
 f20:=⟨Tryz.f426.name,BP,Tryz.func426.trans (BX some A8)⟩
 f21:=⟨Tryz.f427.name,BP,Tryz.func427.trans (BX some A8)⟩
 f22:=⟨Tryz.f428.name,BP,Tryz.func428.trans (BX some A8)⟩
 f23:=⟨Tryz.f429.name,BP,Tryz.func429.trans (BX some A8)⟩
 f24:=⟨Tryz.f430.name,BP,Tryz.func430.trans (BX some A8)⟩
 f25:=⟨Tryz.f431.name,BP,Tryz.func431.trans (BX some A8)⟩
 f26:=⟨Tryz.f432.name,BP,Tryz.func432.trans (BX some A8)⟩
 f27:=⟨Tryz.f433.name,BP,Tryz.func433.trans (BX some A8)⟩
 f28:=Tryz.func204.trans (BX some A8)
 f29:=Tryz.func205.trans (BX some A8)
 f46:=⟨Tryz.f434.name,BP,Tryz.func434.trans (BX some A8)⟩
 f47:=Tryz.func257.trans (BX some A8)
 f48:=Tryz.func258.trans (BX some A8)
 f49:=⟨Tryz.f435.name,BP,Tryz.func435.trans (BX some A8)⟩
 f50:=⟨Tryz.f436.name,BP,Tryz.func436.trans (BX some A8)⟩
 f57:=⟨Tryz.f437.name,BP,Tryz.func437.trans (BX some A8)⟩
 t0:=Tryz.underlying0
 a0:=Tryz.isAgg0
 z0:=Tryz.sizeOf0
 v0:=Tryz.zeroValue0
 t3:=Gp
 a3:=XK
 z3:=Y3
 v3:=Wq
 t4:=TY
 a4:=Z4
 z4:=aV
 v4:=aC
 t5:=ng
 a5:=fV
 z5:=dK
 v5:=eI
 t9:=MV
 a9:=jG
 z9:=dA
 v9:=dP
 t22:=Tryz.underlying349
 a22:=Tryz.isAgg349
 z22:=Tryz.sizeOf349
 v22:=Tryz.zeroValue349
 t25:=Tryz.underlying354
 a25:=Tryz.isAgg354
 z25:=Tryz.sizeOf354
 v25:=Tryz.zeroValue354
 t39:=uT
 a39:=Tryz.isAgg89
 z39:=Tryz.sizeOf89
 v39:=xu
 t45:=Tryz.underlying219
 a45:=Tryz.isAgg219
 z45:=Tryz.sizeOf219
 v45:=Tryz.zeroValue219
 t46:=Tryz.underlying220
 a46:=Tryz.isAgg220
 z46:=Tryz.sizeOf220
 v46:=Tryz.zeroValue220
 t50:=Tryz.underlying97
 a50:=Tryz.isAgg97
 z50:=Tryz.sizeOf97
 v50:=Tryz.zeroValue97
 t53:=uo
 a53:=Tryz.isAgg226
 z53:=xF
 v53:=Rep
 t55:=Tryz.underlying228
 a55:=Tryz.isAgg228
 z55:=Tryz.sizeOf228
 v55:=Tryz.zeroValue228
 t66:=Tryz.underlying254
 a66:=Tryz.isAgg254
 z66:=Tryz.sizeOf254
 v66:=Tryz.zeroValue254
 t70:=Tryz.underlying258
 a70:=Tryz.isAgg258
 z70:=Tryz.sizeOf258
 v70:=Tryz.zeroValue258
 t76:=Tryz.underlying300
 a76:=Tryz.isAgg300
 z76:=Tryz.sizeOf300
 v76:=Tryz.zeroValue300
 t77:=Tryz.underlying301
 a77:=Tryz.isAgg301
 z77:=Tryz.sizeOf301
 v77:=Tryz.zeroValue301 }
end Go.Proofs
end
