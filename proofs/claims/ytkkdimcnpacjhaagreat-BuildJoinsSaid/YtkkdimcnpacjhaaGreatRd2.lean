/- Part 2 of what the laws' proofs lean on: states of the walk, typed functions of the program and their laws (short forms written by wip/shrink.py; no condition). -/
import Derived.Test.YtkkdimcnpacjhaaGreatRd1
set_option linter.defProp false
set_option linter.unnecessarySimpa false
set_option linter.unusedVariables false
set_option linter.unusedSimpArgs false
section
namespace Go.Proofs.YtkkdimcnpacjhaaGreat
open Go.RowKit
section
variable {P : Program} {o : Oper} {es : List BA}
def aFQ {ns:List (Operand×AV)} {v:AV} {es':List BA} (e:TypeId) (size:Nat) (h:BU P o ((.const (.slice none 0 0),.bn es.length)::ns) (es++[.arr e size []]) v es'):BU P o ns es v es':=by
 intro C ok H a w Q hm z;obtain⟨I,J⟩:=aIp hm e size;refine Oper.wp_mono ?_ (h C ok _ a w Q I (fun n j=>?_))
 ·rintro a' w' ⟨v',ok',H',L,M,q,u,O⟩;exact⟨v',ok',H',L,M,(Names.push _ _).trans q,u,O⟩
 rcases EX.1 j with rfl|j
 ·exact J
 exact(z n j).mono (.refl _ _) (Names.push _ _)
def R.ahb {ok:Nat→Prop} {w:World} {H:List BO} {us:List Value} {v:Value} (h:R ok w H (.d (.agg (us.map .lit))) v):v=.agg us.toArray:=by
 cases h with
 |d _ _ h=>
  cases h with
  |agg _ vs hl _ h=>
   congr 1;apply Zm
   ·simpa using hl
   intro i z L;have hi:i<(us.map D.lit).length:=AA
   have j:=h i hi;have q:i<us.length:=G9
   have I:(us.map D.lit).getD i DT=.lit (us[i]):=by simp[List.getD,q]
   have J:vs.getD i undef=vs[i]:=by simp[Array.getD,z]
   rw[I,J]at j;generalize vs[i]=u at j;cases j;simp
structure eA (P:Program) (n:Nat) (t:TypeId) (us vs:List Value) (b:Bool):Prop where
 run:∀(d:Nat) (w:World),(Op.equalIn (d+n) t (.agg us.toArray) (.agg vs.toArray)).run P w=.ok b w
def MJ {t:TypeId} {cs:Array Value} {off:Nat} {v:Value} {size:Nat} (j:EM P t false size) (h:cs[off]? =some v) (w:World):(part t cs off).run P w=.ok v w:=by
 simp[part,j.agg,h]
def Vy (d:Nat) (xs ys:Array Value):List (TypeId×Nat)→Sem Bool
 | []=>pure true
 |f::j=>do
  let a ←part f.1 xs f.2
  let b ←part f.1 ys f.2
  let r ←Op.equalIn d f.1 a b
  if(!r)=true then pure false else Vy d xs ys j
def aR3 (d:Nat) (xs ys:Array Value):∀(j:List Field),j.all (fun f=>f.name != "_")=true→Op.eqFields d xs ys j=Vy d xs ys (j.map fun f=>(f.type,f.offset))
 | [],_=>rfl
 |f::j,h=>by
  simp only[wP,CW,Rz,ne_eq]at h;simp only[Op.eqFields,Ip,Vy,ne_eq,h.1,not_false_eq_true,Jg,aR3 d xs ys j h.2]
def aAu {d:Nat} {t:TypeId} {xs ys:Array Value} {l:List (TypeId×Nat)} {b:Bool} {w:World} (ht:P.underlying t=some (.struct (P.fieldsOf t))) (hp:P.stoodInHeld t=false) (j:(P.fieldsOf t).toList.all (fun f=>f.name != "_")=true)
 (hl:(P.fieldsOf t).toList.map (fun f=>(f.type,f.offset))=l) (h:(Vy d xs ys l).run P w=.ok b w):(Op.equalIn (d+1) t (.agg xs) (.agg ys)).run P w=.ok b w:=by
 rw[run_equalIn_struct w d t xs ys ht hp,aR3 _ _ _ _ j,hl,h]
def aDb (d:Nat) (xs ys:Array Value) (w:World):(Vy d xs ys []).run P w=.ok true w:=by simp[Vy]
def WW {d:Nat} {xs ys:Array Value} {t:TypeId} {off:Nat} {j:List (TypeId×Nat)} {a b:Value} {r rs:Bool} {w:World} (ha:(part t xs off).run P w=.ok a w) (q:(part t ys off).run P w=.ok b w)
 (u:(Op.equalIn d t a b).run P w=.ok r w) (hs:(Vy d xs ys j).run P w=.ok rs w):(Vy d xs ys ((t,off)::j)).run P w=.ok (r&&rs) w:=by
 unfold Vy;simp only[FT,ha,q,u,Fh];cases r<;>simp[hs]
def agM {t t':TypeId} {x y:Operand} {n:Nat} (us vs:List Value) {b:Bool} (h:eA P n t us vs b) (hd:n≤10000) (I:P.eqGuardType P.depth t=false) (J:o.op=.binOp .eql t x y t'):
 BU P o [(x,.d (.agg (us.map .lit))),(y,.d (.agg (vs.map .lit)))] es (.d (Dx b)) es:=
 .pure fun _ _ a w _ _ q=>⟨.bool b,by
  have u:=(Ef q).1.ahb;have z:=(Ef q).2.ahb;simp only at u z;have j:(eqGuard .eql t x y (.agg us.toArray) (.agg vs.toArray)).run P w=.ok () w:=by simp[eqGuard,I]
  simp only[execOp,J,u,z,FT,j,Fh,Gj,run_eql_struct,(by have :=h.run (10000-n) w;rwa [Nat.sub_add_cancel hd]at this:(Op.equalIn 10000 t (.agg us.toArray) (.agg vs.toArray)).run P w=.ok b w)],.d _ _ (.lit _)⟩
def aMq {t t':TypeId} {x y:Operand} {n:Nat} (us vs:List Value) {b:Bool} (h:eA P n t us vs b) (hd:n≤10000) (I:P.eqGuardType P.depth t=false) (J:o.op=.binOp .neq t x y t'):
 BU P o [(x,.d (.agg (us.map .lit))),(y,.d (.agg (vs.map .lit)))] es (.d (Dx (!b))) es:=
 .pure fun _ _ a w _ _ q=>⟨.bool (!b),by
  have u:=(Ef q).1.ahb;have z:=(Ef q).2.ahb;simp only at u z;have j:(eqGuard .neq t x y (.agg us.toArray) (.agg vs.toArray)).run P w=.ok () w:=by simp[eqGuard,I]
  simp only[execOp,J,u,z,FT,j,Fh,Gj,run_neq_struct,(by have :=h.run (10000-n) w;rwa [Nat.sub_add_cancel hd]at this:(Op.equalIn 10000 t (.agg us.toArray) (.agg vs.toArray)).run P w=.ok b w)],.d _ _ (.lit _)⟩
def Qg (l:List Int):ByteArray:=l.foldl (fun r n=>r.push (UInt8.ofNat n.toNat)) ByteArray.empty
def ajS {ok:Nat→Prop} {w:World} {H:List BO} {l:List Int} {j:List Value} (h:Ez ok w H (flat (l.map Ew)) j):j=l.map (.int .u8):=by
 rw[aC3]at h;apply uQ
 ·simpa using h.1
 intro i z I;have hi:i<(l.map fun n=>AV.d (Ew n)).length:=SV
 have u:=(h.2 i hi).2;have q:i<l.length:=G9
 have J:(l.map fun n=>AV.d (Ew n)).getD i .junk=.d (Ew l[i]):=by simp[List.getD,q]
 have L:j.getD i undef=j[i]:=by simp[List.getD,z]
 rw[J,L]at u;have :=u.lit;simpa using this
def abU {w:World} {v:Value} {m:Nat} {l:List Int} (h:WY w v m 1 (l.map (.int .u8))):(Conv.bytesToString v).run P w=.ok (.string (Qg l)) w:=by
 rcases h.at_ with⟨ad,c,rfl,j⟩|⟨c,rfl,hm⟩
 ·refine run_bytesToString w ad m c l ?_;have hl:=h.len;have :=aOC (P:=P) w ad (l.map (Value.int .u8)) j;rw[CG,kN]at hl;rw[CG,hl]at this;exact this
 have hl:=h.len;rw[hm,Nat.zero_mul,CG]at hl;rw[Gf hl];simp[Conv.bytesToString,Qg]
def Value.isSlice:Value→Bool
 | .slice _ _ _=>true
 |_=>false
def agF {w:World} {v:Value} {m size:Nat} {j:List Value} (h:WY w v m size j):Value.isSlice v=true:=by
 rcases h.at_ with⟨_,_,rfl,_⟩|⟨_,rfl,_⟩<;>rfl
def an8 {s t e:TypeId} {v:Value} {w:World} {r:ByteArray} (hs:P.underlying s=some (.slice e)) (j:P.underlying e=some (.int .u8)) (ht:P.underlying t=some .string) (q:Value.isSlice v=true)
 (h:(Conv.bytesToString v).run P w=.ok (.string r) w):(convert s t v).run P w=.ok (.string r) w:=by
 cases v<;>simp[Value.isSlice]at q
 simp[convert,underlying,hs,j,ht,h]
def aj6 {s t e:TypeId} {x:Operand} {l:List Int} (hs:P.underlying s=some (.slice e)) (J:P.underlying e=some (.int .u8)) (ht:P.underlying t=some .string) (L:o.op=.convert s t x):
 BU P o [(x,.d (BL Ew l))] es (.d (DK (Qg l))) es:=
 .pure fun ok H a w _ _ M=>by
  have q:=L8 M;simp only at q;generalize O:a.eval x=v at q;refine⟨.string (Qg l),?_,.d _ _ (.lit _)⟩;cases q with
  |d _ _ h=>
   obtain⟨I,j,u⟩:=fD H h (size:=1) (fun y U=>by obtain⟨n,_,rfl⟩:=E5.1 U;rfl);obtain rfl:=ajS u;have z:=agF j;simp[execOp,L,O,an8 hs J ht z (abU j)]
def Pz {fn:Fn} {firsts j:Array Operand} {fi ca:List AV} (hl:firsts.toList.length=fi.length) (hm:j.toList.length=ca.length) (I:o.op=.makeFunc fn firsts j):
 BU P o (FM firsts.toList fi++FM j.toList ca) es (.fn fn fi ca) es:=
 .pure fun ok H a w _ _ q=>by
  have key:∀(xs:Array Operand) (vs:List AV),xs.toList.length=vs.length→(∀n∈FM xs.toList vs,R ok w H n.2 (a.eval n.1))→∀i,i<vs.length→R ok w H (vs.getD i .junk) ((xs.map a.eval).getD i undef):=by
   intro xs vs hl q i hi;have z:=qL hl q i hi
   have u:i<xs.size:=by have :xs.size=vs.length:=Lc
                        omega
   have J:(xs.toList.map a.eval).getD i undef=(xs.map a.eval).getD i undef:=by simp[List.getD,Array.getD,u]
   rw[J]at z;exact z
  refine⟨.func fn (firsts.map a.eval) (j.map a.eval),by simp[execOp,I,Instr.makeFunc],.fn fn fi ca _ _ Lc (by simpa using hm) (key _ _ hl fun n h=>q n (by simp[h])) (key _ _ hm fun n h=>q n (by simp[h]))⟩
def aJu :∀{xs:List Operand} {vs:List AV} {ys:List Operand} {us:List AV},xs.length=vs.length→FM (xs++ys) (vs++us)=FM xs vs++FM ys us
 | [],[],_,_,_=>rfl
 | [],_::_,_,_,h=>IK
 |_::_,[],_,_,h=>IK
 |x::xs,v::vs,ys,us,h=>by simp[FM,aJu (xs:=xs) (vs:=vs) JZ]
def aNs {ok:Nat→Prop} {w:World} {H:List BO} {a:Act}:∀{us:List Value} {vs:List AV},us.length=vs.length→(∀i,i<vs.length→R ok w H (vs.getD i .junk) (us.getD i undef))→∀n∈FM (us.map Operand.const) vs,R ok w H n.2 (a.eval n.1)
 | [],[],_,_,n,j=>by simp[FM]at j
 | [],_::_,h,_,_,_=>IK
 |_::_,[],h,_,_,_=>IK
 |u::us,v::vs,hl,h,n,j=>by
  simp only[Ip,FM,EX]at j;rcases j with rfl|j
  ·have :=h 0 BF;simp at this;exact this
  exact aNs (us:=us) (vs:=vs) Lc (fun i hi=>by simpa using h (i+1) G9) n j
def aVE {f:FuncId} {x:Operand} {ops:Array Operand} {ats:Array TypeId} (srcs:List Dj) {fi ca dX gV:List AV} {E E':List BA} {u:AV} (L:Ar P f gV E u E') (M:BD P f=true) (O:RU srcs es E E'=true) (hE:xA srcs es E)
 (ha:NH srcs (fi++dX++ca) gV) (hl:ops.toList.length=dX.length) (U:o.op=.call { callee:=.value x,args:=ops,argTypes:=ats }):
 BU P o ((x,.fn (.func f) fi ca)::FM ops.toList dX) es (u.up srcs es.length) (LX srcs es E'):=by
 intro C ok H a w Q hm J;have I:=J (x,.fn (.func f) fi ca) BF;simp only at I;generalize Y:a.eval x=v at I;cases I with
 |fn _ _ _ vs us q z Z h2=>
  unfold Oper.wp
  have he:(execOp a.eval o).run P w=.ok (.enter f ((vs++ops.map a.eval)++us)) w:=by
   have :=TG M (vs++ops.map a.eval++us) w;rw[Array.append_assoc]at this;simp[execOp,U,resolve,Y,Deferred.ofValue,invoke,this]
  rw[he,dS]
  have e:vs++ops.map a.eval++us=((vs.toList.map Operand.const++ops.toList++us.toList.map Operand.const).map a.eval).toArray:=by
   apply aOd;simp[xg,Act.eval]
  rw[e];have l1:(vs.toList.map Operand.const).length=fi.length:=MV
  refine(aaG hm srcs L O hE ha (by simp at hl;simp[q,z,hl]) (a:=a) ?_).mono ?_
  ·rw[aJu (by simp at hl;simp[q,hl]),aJu l1];intro n j;simp only[Hd]at j;rcases j with(j|j)|j
   ·exact aNs MV (fun i hi=>by have :=Z i hi;simpa[List.getD,Ih]using this) n j
   ·exact J n (FB _ j)
   exact aNs Me (fun i hi=>by have :=h2 i hi;simpa[List.getD,Ih]using this) n j
  rintro e w' ⟨v,ok',H',rfl,h3,h4,h5,h6⟩;exact⟨v,ok',H',rfl,h3,h4,h5,h6⟩
def R.dfn {ok:Nat→Prop} {w:World} {H:List BO} {f:Fn} {fi ca:List D} {v:Value} (h:R ok w H (.d (.fn f fi ca)) v):R ok w H (.fn f (fi.map .d) (ca.map .d)) v:=by
 cases h with
 |d _ _ h=>
  cases h with
  |fn _ _ _ vs us u z I J=>
   refine .fn f _ _ vs us TP Me (fun i hi=>?_) (fun i hi=>?_)
   ·have j:i<fi.length:=G9
    have q:(fi.map AV.d).getD i .junk=.d (fi.getD i DT):=by simp[List.getD,j]
    rw[q];exact .d _ _ (I i j)
   have j:i<ca.length:=G9
   have q:(ca.map AV.d).getD i .junk=.d (ca.getD i DT):=by simp[List.getD,j]
   rw[q];exact .d _ _ (J i j)
def am6 {f:FuncId} {x:Operand} {ops:Array Operand} {ats:Array TypeId} (srcs:List Dj) {fi ca:List D} {dX gV:List AV} {E E':List BA} {q:AV} (z:Ar P f gV E q E') (I:BD P f=true) (J:RU srcs es E E'=true) (hE:xA srcs es E)
 (ha:NH srcs (fi.map .d++dX++ca.map .d) gV) (hl:ops.toList.length=dX.length) (L:o.op=.call { callee:=.value x,args:=ops,argTypes:=ats }):
 BU P o ((x,.d (.fn (.func f) fi ca))::FM ops.toList dX) es (q.up srcs es.length) (LX srcs es E'):=by
 intro C ok H a w Q hm u;refine aVE (fi:=fi.map .d) (ca:=ca.map .d) srcs z I J hE ha hl L C ok H a w Q hm (fun n j=>?_);rcases EX.1 j with rfl|j
 ·exact R.dfn (u (x,.d (.fn (.func f) fi ca)) BF)
 exact u n (FB _ j)
def U8 (S:List Dj) (es:List BA):List Dj→List BA→Prop
 |s::srcs,e::E=>(match s with | .ent k=>es[k]? =some (e.up S es.length)| .nil sz=>∃t,e=.arr t sz [])∧U8 S es srcs E
 | [],_=>True
 |_::_,[]=>False
def P6 {S:List Dj} {es:List BA} {k:Nat} {e:BA} {srcs:List Dj} {E:List BA} (h:es[k]? =some (e.up S es.length)) (hs:U8 S es srcs E):U8 S es (.ent k::srcs) (e::E):=⟨h,hs⟩
def aT4 {S:List Dj} {es:List BA}:∀{srcs:List Dj} {E:List BA},U8 S es srcs E→∀(i:Nat) (s:Dj),srcs[i]? =some s→match s with | .ent k=>(E[i]?).map (BA.up S es.length)=es[k]? | .nil sz=>∃e,E[i]? =some (.arr e sz [])
 | [],_,_,i,s,hs=>by simp at hs
 |_::_,[],h,_,_,_=>h.elim
 |s::srcs,e::E,h,0,j,hs=>by
  simp at hs;subst hs;have q:=h.1;cases s with
  |ent k=>simp only at q;simp[q]
  |nil sz=>obtain⟨t,rfl⟩:=q;exact⟨t,rfl⟩
 |s::srcs,e::E,h,i+1,j,hs=>by
  have :=aT4 h.2 i j ru;cases j with
  |ent k=>simpa using this
  |nil sz=>simpa using this
def aJi {es:List BA} {srcs:List Dj} {E:List BA} (h:U8 srcs es srcs E):xA srcs es E:=aT4 h
def apo {f:FuncId} {ops:Array Operand} {ats:Array TypeId} (srcs:List Dj) {dX gV:List AV} {E E':List BA} {j res':AV} (q:Ar P f gV E j E') (u:BD P f=true) (z:RU srcs es E E'=true) (hE:U8 srcs es srcs E) (ha:NH srcs dX gV) (hl:ops.toList.length=dX.length)
 (I:res'=j.up srcs es.length) (J:o.op=.call { callee:=.value (.func f),args:=ops,argTypes:=ats }):BU P o (FM ops.toList dX) es res' (LX srcs es E'):=I▸aQc srcs q u z (aJi hE) ha hl J
def ag9 {f:FuncId} {x:Operand} {ops:Array Operand} {ats:Array TypeId} (srcs:List Dj) (fi ca:List AV) {dX gV:List AV} {E E':List BA} {j res':AV} (q:Ar P f gV E j E') (u:BD P f=true) (z:RU srcs es E E'=true) (hE:U8 srcs es srcs E)
 (ha:NH srcs (fi++dX++ca) gV) (hl:ops.toList.length=dX.length) (I:res'=j.up srcs es.length) (J:o.op=.call { callee:=.value x,args:=ops,argTypes:=ats }):
 BU P o ((x,.fn (.func f) fi ca)::FM ops.toList dX) es res' (LX srcs es E'):=I▸aVE srcs q u z (aJi hE) ha hl J
def aq3 {f:FuncId} {x:Operand} {ops:Array Operand} {ats:Array TypeId} (srcs:List Dj) (fi ca:List D) {dX gV:List AV} {E E':List BA} {j res':AV} (q:Ar P f gV E j E') (u:BD P f=true) (z:RU srcs es E E'=true) (hE:U8 srcs es srcs E)
 (ha:NH srcs (fi.map .d++dX++ca.map .d) gV) (hl:ops.toList.length=dX.length) (I:res'=j.up srcs es.length) (J:o.op=.call { callee:=.value x,args:=ops,argTypes:=ats }):
 BU P o ((x,.d (.fn (.func f) fi ca))::FM ops.toList dX) es res' (LX srcs es E'):=I▸am6 srcs q u z (aJi hE) ha hl J
end
structure Turns (v:Value) (w w':World):Prop where
 os:w'.os=w.os
 tape:w'.tape=w.tape
 output:w'.output=w.output
 size:w.heap.size≤w'.heap.size
 block:∀c,c<w.heap.size→Cx v≠some c→w'.heap[c]? =w.heap[c]?
def Turns.refl (v:Value) (w:World):Turns v w w:=⟨rfl,rfl,rfl,Dq _,fun _ _ _=>rfl⟩
def Turns.aAe {g o n c:Nat} {s:Option Nat} {w w':World} (h:w.grownBy w' (some g)):Turns (.slice (some ⟨g,o,s⟩) n c) w w':=
 ⟨h.os,h.tape,h.output,h.size,fun k q j=>h.block k q (fun e=>j (by cases e;rfl))⟩
def Dc.ado {ok:Nat→Prop} {w:World} {u v:Value} (h:Dc ok w (.lit u) v):v=u:=by cases h;rfl
def aH5 :∀(l:List Int),flat (l.map Ac)=l.map fun n=>.d (Ac n)
 | []=>rfl
 |n::l=>by rw[Ip,UN,aH5 l];rfl
def Mem {ok:Nat→Prop} {w:World} {H:List BO} {h:BO} {e:TypeId} {l:List Int}:Eo ok w H h (.arr e 1 (List.map Ac l))↔h.size=1∧lM w e 1 h.v l.length (l.map (.int .i64)):=by
 constructor
 ·rintro⟨u,_,xs,q,z,I⟩;refine⟨u,?_⟩;rw[CG]at q
  have :xs=l.map (.int .i64):=by
   rw[aH5]at z I;rw[CG]at z;refine uQ (by simp[z]) fun i hi M=>?_;have j:i<l.length:=AA
   have J:=(I i WS).2;simp only[List.getD,JG,D8 j,Ii,MK,D8 hi]at J;cases J with |d _ _ h=>rw[Dc.ado h];simp
  rw[←this];exact q
 rintro⟨u,q⟩;refine⟨u,fun x L=>?_,l.map (.int .i64),by rw[CG];exact q,?_⟩
 ·obtain⟨n,_,rfl⟩:=E5.1 L;rfl
 rw[aH5];refine⟨BF,fun i hi=>?_⟩;have j:i<l.length:=G9
 simp only[List.getD,JG,D8 j,Ii,MK];exact⟨rfl,.d _ _ (.lit _)⟩
def aVk {j:Array Value} (hs:j.size=1):j= #[j.getD 0 undef]:=by
 refine Zm (by simp[hs]) fun i u q=>?_;simp at q;subst q;simp[Array.getD,hs]
def Ar.aCB {P:Program} {f:FuncId} {e:TypeId} {l r:List Int}
 (h:∀(v:Value) (w:World),lM w e 1 v l.length (l.map (.int .i64))→Calls P f #[v] w fun x w'=>x=.returned (.tuple #[])∧lM w' e 1 v r.length (r.map (.int .i64))∧Turns v w w'):
 Ar P f [.bn 0] [.arr e 1 (List.map Ac l)] (.eu []) [.arr e 1 (List.map Ac r)]:=by
 intro ok X H w Y hm hs ha;have h0:=ha 0 BK;rw[aVk hs];obtain⟨hd,L,M⟩:=GR hm.ent hm.hlen (k:=0) rfl;obtain hv:=O5 h0 L;rw[hv];obtain⟨hz,O⟩:=Mem.1 M;refine(h hd.v w O).mono ?_;rintro x w' ⟨rfl,z,ht⟩;have q:=fun b I=>hm.blk 0 _ hd b rfl rfl L I
 have hg:=hm.change (ok':=ok) (H':=H) (w':=w') (es':=[.arr e 1 (List.map Ac r)]) (fun c=>Cx hd.v=some c) ht.os ht.tape ht.output ht.size ht.block (fun c Z _=>⟨(q c Z).1,(q c Z).2.2⟩) (fun _ h=>h) (fun _ h=>.inl h) (.refl _) hm.hlen (by
  intro k e' h' j J
  match k,j with
  |0,j=>
   simp at j;subst j;rw[L]at J;obtain rfl:=CV J;refine .inr ⟨Mem.2 ⟨hz,z⟩,fun _ b I=>⟨(q b I).1,Uu (q b I).2.1 ht.size,(q b I).2.2,fun k' e'' h'' U u=>?_⟩⟩
   match k',u with
   |0,_=>exact absurd rfl U
   |k'+1,u=>simp at u
  |k+1,j=>simp at j)
 exact⟨_,ok,H,rfl,hg.1,.eu [] #[] rfl (fun i hi=>P7)⟩
def Ar.turned {P:Program} {f:FuncId} {e:TypeId} {l r:List Int}
 (h:∀(v:Value) (w:World),lM w e 1 v l.length (l.map (.int .i64))→Calls P f #[v] w fun x w'=>∃v',x=.returned v'∧lM w' e 1 v' r.length (r.map (.int .i64))∧Turns v w w'∧∀g,Cx v'=some g→Cx v=some g∨w.heap.size≤g):
 Ar P f [.bn 0] [.arr e 1 (List.map Ac l)] (.bn 1) [.dead,.arr e 1 (List.map Ac r)]:=by
 intro ok X H w J hm hs ha;have O:=ha 0 BK;rw[aVk hs];obtain⟨hd,L,z⟩:=GR hm.ent hm.hlen (k:=0) rfl;obtain U:=O5 O L;rw[U];obtain⟨Y,I⟩:=Mem.1 z;refine(h hd.v w I).mono ?_;rintro x w' ⟨v',rfl,j,ht,q⟩;have u:=hm.turn (e:=.arr e 1 (List.map Ac r)) (h':=⟨v',1⟩) (w':=w') (k:=0) rfl rfl L ht.os ht.tape ht.output ht.size ht.block (fun g u=>⟨wR j u,q g u⟩) (fun _=>Mem.2 ⟨rfl,j⟩);refine⟨v',ok,H++[⟨v',1⟩],rfl,u.1,?_⟩;have hl:H.length=1:=hm.hlen;have M:(H++[(⟨v',1⟩:BO)])[1]? =some ⟨v',1⟩:=by rw[←hl];simp
 rcases j.2 with⟨rfl,_⟩|⟨g,cap,cur,rfl,_⟩
 ·exact .bn 1 _ _ _ 1 M
 exact .bn 1 _ _ _ 1 M
def Ar.plain {P:Program} {f:FuncId} {vs:List Value} {j:AV} {v:Value} (M:∀ok w H,R ok w H j v)
 (h:∀w,Calls P f vs.toArray w fun x w'=>x=.returned v∧Below w.heap.size w w'):Ar P f (vs.map fun u=>.d (.lit u)) [] j []:=by
 intro ok X H w q hm hs ha
 have e:q=vs.toArray:=by
  refine Zm ru fun i O U=>?_;have z:i<vs.length:=Fin
  have L:=ha i Me;simp only[List.getD,JG,D8 z,Ii,MK]at L;cases L with |d _ _ h=>have :=Dc.ado h;simpa[Array.getD,O]using this
 rw[e];refine(h w).mono ?_;rintro x w' ⟨rfl,I⟩
 have Y:=hm.change (ok':=ok) (H':=H) (w':=w') (es':=[]) (fun _=>False) I.os I.tape I.output I.size (fun c Z _=>I.block c Z) (fun _ h=>h.elim) (fun _ h=>h) (fun _ h=>.inl h) (.refl _) hm.hlen (by
  intro k e' h' J hh'
  simp at J)
 exact⟨v,ok,H,rfl,Y.1,M _ _ _⟩
def Chain.ayB {P:Program} {ops:Array Oper} {l O:List Oper} {σ σ':Am} (h:Chain P ops l σ σ') {ro:Option Nat} {C:ES} {H0:List BO} {Q:Exit→Act→World→Prop}:
 ∀{ok:Nat→Prop} {H:List BO} {a:Act} {w:World},Holds C ok H σ a w→Names H0 H→(∀ok' H' a' w',Holds C ok' H' σ' a' w'→Names H0 H'→wpListIn (J3 ro) 0 P ops Q O a' w')→wpListIn (J3 ro) 0 P ops Q (l++O) a w:=by
 induction h with
 |nil σ=>intro ok H a w j U z;exact z ok H a w j U
 | @op o rest σ σ' ns x d Y U L hd k M=>
   intro ok H a w j q z;subst hd;rw[Yj];unfold wpListIn;rw[CS (Pe j L)];refine Rh ?_ (Y.inR ro C ok H a w Q j.mem (fun n I=>Qs U n I▸j.get n.1));rintro a' w' ⟨v,ok',H',rfl,J,u,hm,Z⟩;exact M (j.put o.dst J u hm Z) (q.trans u) z
 | @oe o rest σ σ' ns x es' d E Y he U L hd k M=>
   intro ok H a w j q z;subst hd;subst he;rw[Yj];unfold wpListIn;rw[CS (Pe j L)];refine Rh ?_ (Y.inR ro C ok H a w Q j.mem (fun n I=>Qs U n I▸j.get n.1));rintro a' w' ⟨v,ok',H',rfl,J,u,hm,Z⟩;exact M (j.put o.dst J u hm Z) (q.trans u) z
 | @skip o rest σ σ' d L hd k M=>
   intro ok H a w j q z;subst hd;rw[Yj];unfold wpListIn;rw[CY iH];exact⟨fun _ _=>trivial,M (j.put o.dst (.refl _ _) (.refl _) j.mem (.d _ _ (.lit _))) q z⟩
 | @any o rest σ σ' x d hs hd k M=>
   intro ok H a w j q z;subst hd;rw[Yj];unfold wpListIn;rcases hs.1 with⟨ns,Y,U,_,L⟩|⟨rfl,_,L⟩
   ·rw[CS (Pe j L)];refine Rh ?_ (Y.inR ro C ok H a w Q j.mem (fun n I=>Qs U n I▸j.get n.1));rintro a' w' ⟨v,ok',H',rfl,J,u,hm,Z⟩;exact M (j.put o.dst J u hm Z) (q.trans u) z
   rw[CY iH];exact⟨fun _ _=>trivial,M (j.put o.dst (.refl _ _) (.refl _) j.mem (.d _ _ (.lit _))) q z⟩
 | @ag5 o rest σ σ' x E bar d hs hd k M=>
   intro ok H a w j q z;subst hd;rw[Yj];unfold wpListIn;rcases hs.1 with⟨ns,Y,U,_,L⟩|⟨rfl,rfl,L⟩
   ·rw[CS (Pe j L)];refine Rh ?_ (Y.inR ro C ok H a w Q j.mem (fun n I=>Qs U n I▸j.get n.1));rintro a' w' ⟨v,ok',H',rfl,J,u,hm,Z⟩;exact M (j.put o.dst J u hm Z) (q.trans u) z
   rw[CY iH];exact⟨fun _ _=>trivial,M (j.put o.dst (.refl _ _) (.refl _) j.mem (.d _ _ (.lit _))) q z⟩
 |conv σ2 hc k M=>
  intro ok H a w j q z;obtain⟨ok',hh'⟩:=hc C ok H a w j;exact M hh' q z
def AQ.aw0 {P:Program} {σ I:Am} {Q:Exit→Am→Prop} {id:Nat} {ops:Array Oper} {q:Oper} {x:Operand} {t t' e d:Nat} {es:List D} (k:Nat) (j:ops.toList.drop k=[q]) (h:Chain P ops (ops.toList.take k) σ I)
 (O:q.op=.binOp .eql t x (.const (.slice none 0 0)) t') (hd:q.dst=some d) (U:q.guard=none) (ht:P.underlying t=some (.slice e)) (Y:I.get x=.d (.sl es)) (Z:∀b,(es≠[]→b=false)→Q .normal (I.rZ (some d) (.d (.lit (.bool b))))):AQ P (.region id ops false) σ Q:=by
 refine⟨fun ro _ C ok H a w hh=>aPe ?_⟩;rw[←Qb k ops.toList,j];refine h.ayB hh (.refl H) fun ok' H' a' w' J _=>?_;have z:=Y▸J.get x
 obtain⟨b,hb,hr⟩:∃b,(es≠[]→b=false)∧(execOp a'.eval q).run P w'=.ok (.value (.bool b)) w':=by
  cases z with
  |d _ _ z=>
   generalize u:a'.eval x=v at z
   have key:∀(ad:Option Addr) (n c:Nat),v=.slice ad n c→(execOp a'.eval q).run P w'=.ok (.value (.bool ad.isNone)) w':=fun ad n c L=>by
    have M:(eqGuard .eql t x (.const (.slice none 0 0)) (.slice ad n c) (.slice none 0 0)).run P w'=.ok () w':=by simp[eqGuard]
    have e0:a'.eval (.const (.slice none 0 0))=.slice none 0 0:=rfl;rw[L]at u;simp only[execOp,O,u,e0,FT,M,Fh,Lib.run_eql_slice_nil w' t e ad n c 0 0 ht,Gj]
   cases z with
   |sl0 ad cap=>exact⟨ad.isNone,fun h=>absurd rfl h,key _ _ _ rfl⟩
   |sl es b off cap size=>exact⟨false,fun _=>rfl,key _ _ _ rfl⟩
 unfold wpListIn;rw[CS (by unfold Region.wanted;rw[U])];unfold Oper.wpIn;rw[eM _ _ _ (by rw[O];intro c h;cases h),hr,Oper.uponIn_value];refine⟨fun _ _=>trivial,?_⟩;unfold wpListIn;exact⟨ok',H',_,by rw[hd];exact J.put (some d) (.refl _ _) (.refl _) J.mem (.d _ _ (.lit _)),Z b hb⟩
def oH {P:Program} {σ u:Am} {Q:Exit→Am→Prop} {id:Nat} {ops:Array Oper} {y:Code} {q:Oper} {x:Operand} {t t' e d:Nat} {es:List D} (k:Nat) (j:ops.toList.drop k=[q]) (h:Chain P ops (ops.toList.take k) σ u)
 (I:q.op=.binOp .eql t x (.const (.slice none 0 0)) t') (hd:q.dst=some d) (J:q.guard=none) (ht:P.underlying t=some (.slice e)) (L:u.get x=.d (.sl es)) (M:∀b,(es≠[]→b=false)→AQ P y (u.rZ (some d) (.d (.lit (.bool b)))) Q):AQ P (.seq (.region id ops false) y) σ Q:=
 AQ.seq (fun s=>∃b,(es≠[]→b=false)∧s=u.rZ (some d) (.d (.lit (.bool b)))) (AQ.aw0 k j h I hd J ht L fun b z=>⟨b,z,rfl⟩) (by rintro _ ⟨b,z,rfl⟩;exact M b z)
def uo {α:Type} {l:List α} {e:α→D} (h:List.map e l≠[]→true=false):l=[]:=by
 cases l with
 |nil=>rfl
 |cons a l=>exact absurd (h BF) BK
def aSS {α:Type} {p:Nat→α→Prop}:∀n,(∀i,i<n→∃x,p i x)→∃l:List α,l.length=n∧∀i (h:i<l.length),p i l[i]
 |0,_=>⟨[],rfl,fun i h=>IK⟩
 |n+1,h=>by
  obtain⟨l,j,q⟩:=aSS n (fun i hi=>h i AA);obtain⟨x,u⟩:=h n AA;refine⟨l++[x],by simp[j],fun i hi=>?_⟩;simp at hi;by_cases e:i<l.length
  ·rw[aLF e];exact q i e
  have :i=n:=AA
  subst this;rw[aWx AA];simpa[j]using u
def pieces :List Nat→Nat→List Value→List Value
 | [],_,_=>[]
 |n::r,o,cs=>(cs.drop o).take n++pieces r (o+n) cs
def pieces_eq :∀(ns:List Nat) (o:Nat) (cs:List Value),cs.length=o+ns.sum→pieces ns o cs=cs.drop o
 | [],o,cs,h=>by simp at h;simp[pieces,h]
 |n::r,o,cs,h=>by
  simp only[List.sum_cons]at h;unfold pieces;rw[pieces_eq r (o+n) cs AA,←aOj,Qb]
def CO (w:World) (q:List D) (cs:List Value):Prop:=cs.length=q.length∧∀j,j<q.length→(q.getD j DT).leaf=true∧Dc (fun b=>b<w.heap.size) w (q.getD j DT) (cs.getD j undef)
def CO.nil (w:World):CO w [] []:=⟨rfl,fun j h=>IK⟩
def CO.append {w:World} {q es:List D} {cs us:List Value} (h:CO w q cs) (k:CO w es us):CO w (q++es) (cs++us):=by
 refine⟨by simp[h.1,k.1],fun j J=>?_⟩;by_cases e:j<q.length
 ·have u:(q++es).getD j DT=q.getD j DT:=aPW
  have z:(cs++us).getD j undef=cs.getD j undef:=by simp[List.getD,Gq (show j<cs.length by rw[h.1];exact e)]
  rw[u,z];exact h.2 j e
 have I:j-q.length<es.length:=lN
 have u:(q++es).getD j DT=es.getD (j-q.length) DT:=by simp[List.getD,Ju (UU e)]
 have z:(cs++us).getD j undef=us.getD (j-q.length) undef:=by
  have L:=h.1;simp only[List.getD,Ju (show cs.length≤j by omega),L]
 rw[u,z];exact k.2 _ I
section
variable {H : Type} {enc : TypeId × Value → H} {w : World} {base : Nat} {spare : Nat → Bool} {held : Bool} {P : Program} {t : TypeId}
def L6 {α:Type} (enc:TypeId×Value→H) (P:Program) (w:World) (base:Nat) (spare:Nat→Bool) (held:Bool) (t:TypeId) (e:α→D) (V:α→Prop):Prop:=
 ∀Ag cs x,DataW.trod enc P w base spare held Ag t cs=some x→∃a:α,V a∧CO w (e a).cells cs
def CO.one {w:World} {x:D} {v:Value} (q:x.cells=[x]) (hl:x.leaf=true) (h:Dc (fun b=>b<w.heap.size) w x v):CO w x.cells [v]:=by
 rw[q];refine⟨rfl,fun j u=>?_⟩
 match j,u with
 |0,_=>exact⟨hl,h⟩
def QG {α:Type} {e:TypeId} {sz:Nat} {U:α→D} {V:α→Prop} (ht:P.underlying t=some (.slice e)) (hc:P.cellsOf e=sz) (Z:0<sz) (hsz:∀a,(U a).cells.length=sz) (hR:L6 enc P w base spare held e U V):
 L6 enc P w base spare held t (BL U) (fun l=>l.length≤maxLen∧∀x∈l,V x):=by
 intro Ag cs x h;rcases Go.Deep.open_slice ht h with⟨rfl, -⟩|⟨a,len,cap,m,n,D,Pl,rfl, -,hl,hm,hmm, -,hx⟩
 ·exact⟨[],⟨Du _,fun x h=>IK⟩,.one rfl rfl (.sl0 none 0)⟩
 have hlm:len≤m:=by rw[hmm];split<;>omega
 rw[hc]at hx
 have hex:∀i,i<len→∃y:α,V y∧∃z:List Value,w.cells? base (a.add (i*sz)) sz=some z∧CO w (U y).cells z:=by
  intro i hi;obtain⟨z,Y,h2⟩:=hx i AA;obtain⟨y,h3,I⟩:=hR _ _ _ h2;exact⟨y,h3,z,Y,I⟩
 obtain⟨l,hlen,hall⟩:=aSS len hex;subst hlen;refine⟨l,⟨AA,fun x hx=>?_⟩,?_⟩
 ·obtain⟨i,hi,rfl⟩:=Fv hx;exact(hall i hi).1
 rcases WT l.length with h0|hlp
 ·have :l=[]:=Gf h0;subst this;exact .one rfl rfl (.sl0 _ _)
 have q:∀i,(hi:i<l.length)→∀j,j<sz→∃u,w.cell? ((a.add (i*sz)).add j)=some u∧((U l[i]).cells.getD j DT).leaf=true∧Dc (fun b=>b<w.heap.size) w ((U l[i]).cells.getD j DT) u:=by
  intro i hi j hj;obtain⟨-,z,Y,h2⟩:=hall i hi;obtain⟨-,h6,h5⟩:=World.cells?_some Y;have hcl:z.length=sz:=by rw[h2.1,hsz]
  have h7:=h5 j hj;rw[D8 AA]at h7;refine⟨_,h7,?_⟩;have h8:=h2.2 j (by rw[hsz];exact hj);simpa[List.getD,show j<z.length by omega]using h8
 have L:a.spot=none:=by
  obtain⟨u,I, -⟩:=q 0 hlp 0 Z;have e0:(a.add (0*sz)).add 0=a:=by simp[Addr.add]
  rw[e0]at I;unfold World.cell? at I;cases hsp:a.spot with
  |none=>rfl
  |some s=>
   rw[hsp]at I;cases hh:w.heap[a.block]? with
   |none=>rw[hh]at I;simp at I
   |some o=>rw[hh]at I;cases o<;>simp at I
 have hblk:a.block<w.heap.size:=by
  obtain⟨u,I, -⟩:=q 0 hlp 0 Z;have e0:(a.add (0*sz)).add 0=a:=by simp[Addr.add]
  rw[e0]at I;unfold World.cell? at I;apply Xa;intro hn;rw[Array.getElem?_eq_none (UU hn)]at I;simp at I
 obtain⟨b,o,s⟩:=a;simp only at L hblk;subst L;have J:(List.map U l).length=l.length:=CG _;have M:∀i,(hi:i<l.length)→(List.map U l).getD i DT=U l[i]:=fun i hi=>N7
 have O:∀i j,((⟨b,o,none⟩:Addr).add (i*sz)).add j=⟨b,o+(i*sz+j),none⟩:=fun i j=>by simp only[Addr.add];split<;>split<;>simp_all<;>omega
 refine .one rfl rfl ?_
 have :=Dc.sl (ok:=fun b=>b<w.heap.size) (w:=w) (List.map U l) b o cap sz (by rw[J];exact hl) (fun _ _=>hblk) (fun i hi=>by rw[J]at hi;rw[M i hi];exact hsz _)
  (fun i hi j hj=>by rw[J]at hi;obtain⟨u,_,h2,_⟩:=q i hi j hj;rw[M i hi];exact h2)
  (fun i hi j hj=>by rw[J]at hi;obtain⟨u,Y,_,_⟩:=q i hi j hj;rw[O]at Y;rw[Y];rfl)
  (fun i hi j hj=>by rw[J]at hi;obtain⟨u,Y,_,h3⟩:=q i hi j hj;rw[O]at Y;rw[M i hi];unfold cellAt;rw[Y];exact h3)
 rw[J]at this;exact this
def FZ {k:IntKind} (ht:P.underlying t=some (.int k)):L6 enc P w base spare held t (fun n=>D.lit (.int k n)) (fun n:Int=>k.min≤n∧n≤k.max):=by
 intro Ag cs x h;obtain⟨n,rfl, -,j⟩:=DataW.trod_int ht h;exact⟨n,by simpa[Lit.wf]using j,.one rfl rfl (.lit _)⟩
def KC (ht:P.underlying t=some .string):L6 enc P w base spare held t DK (fun s=>s.size≤maxLen):=by
 intro Ag cs x h;obtain⟨n,rfl, -,j⟩:=DataW.trod_string ht h;exact⟨n,j,.one rfl rfl (.lit _)⟩
def aAI (ht:P.underlying t=some .bool):L6 enc P w base spare held t Dx (fun _=>True):=by
 intro Ag cs x h;obtain⟨n,rfl, -⟩:=DataW.trod_bool ht h;exact⟨n,trivial,.one rfl rfl (.lit _)⟩
def DF {α:Type} {I:Array Field} {Ag:Nat} {cs:List Value} {x:DataW H×List MemPlace} (ht:P.underlying t=some (.struct I)) (h:DataW.trod enc P w base spare held Ag t cs=some x) (i:Nat) (u o n:Nat) (q:(I[i]?).map (fun f=>(f.type,f.offset,P.cellsOf f.type))=some (u,o,n))
 {J:α→D} {V:α→Prop} (M:L6 enc P w base spare held u J V):∃a:α,V a∧CO w (J a).cells ((cs.drop o).take n):=by
 obtain⟨xs,k, -, -, -,hlen,z⟩:=DataW.trod_struct ht h;cases j:I[i]? with
 |none=>rw[j]at q;simp at q
 |some f=>
  rw[j]at q;simp only[Ii,LQ,QL]at q;obtain⟨rfl,rfl,rfl⟩:=q;have L:=z i f j;have hi:i<I.size:=(GX.1 j).1;rw[D8 AA]at L;exact M _ _ _ L
def Q7 {j:Array Field} {Ag:Nat} {cs:List Value} {x:DataW H×List MemPlace} (ht:P.underlying t=some (.struct j)) (h:DataW.trod enc P w base spare held Ag t cs=some x) (n:Nat) (q:P.cellsOf t=n):cs.length=n:=by
 obtain⟨xs,k, -, -,hlen, -⟩:=DataW.trod_struct ht h;rw[hlen,q]
def PW {cs:List Value} {j:List D} (ns:List Nat) (hl:cs.length=ns.sum) (h:CO w j (pieces ns 0 cs)):CO w j cs:=by
 rw[pieces_eq ns 0 cs AA]at h;simpa using h
end
def aYG {w:World} {x:D} {j:List D} {cs:Array Value} (q:x=.agg j) (h:CO w x.cells (Value.agg cs).cells.toList):Dc (fun b=>b<w.heap.size) w x (.agg cs):=by
 subst q;have h':CO w j cs.toList:=h
 exact .agg j cs (by simpa using h'.1) (fun i hi=>(h'.2 i hi).1) fun i hi=>by
  have :=(h'.2 i hi).2;simpa[Ih,List.getD]using this
def aXo {w:World} {x:D} {v:Value} (j:x.cells=[x]) (q:v.cells= #[v]) (h:CO w x.cells v.cells.toList):Dc (fun b=>b<w.heap.size) w x v:=by
 rw[j,q]at h;exact(h.2 0 BF).2
def Ar.start {P:Program} {f:FuncId} {xs:List D} {j:Array Value} {W:World} {x:D} (h:Ar P f (xs.map .d) [] (.d x) []) (hs:j.size=xs.length) (ha:∀i,i<xs.length→Dc (fun b=>b<W.heap.size) W (xs.getD i DT) (j.getD i undef)):
 Calls P f j W fun e W'=>∃v ok,e=.returned v∧Dc ok W' x v∧Below W.heap.size W W':=by
 refine(h (fun b=>b<W.heap.size) [] [] W j ⟨.refl _ _,fun _ h=>h,fun _ h=>.inl h,fun _ h=>h,.refl _,rfl,fun k e h q=>nC,fun k e h b q=>nC,fun k k' e e' h h' b q=>nC⟩ ru (fun i hi=>?_)).mono ?_
 ·have u:i<xs.length:=G9
  have :(xs.map AV.d).getD i .junk=.d (xs.getD i DT):=aKv
  rw[this];exact .d _ _ (ha i u)
 rintro e W' ⟨v,ok',H',rfl,hm,z⟩;cases z with
 |d _ _ z=>exact⟨v,ok',rfl,z,hm.fr.below⟩
def Ar.law {P:Program} {f:FuncId} {xs:List D} {j:Array Value} {W:World} (h:Ar P f (xs.map .d) [] (.d (Dx true)) []) (hs:j.size=xs.length) (ha:∀i,i<xs.length→Dc (fun b=>b<W.heap.size) W (xs.getD i DT) (j.getD i undef)):
 Calls P f j W fun e W'=>e=.returned (.bool true)∧Below W.heap.size W W':=by
 refine(h.start hs ha).mono ?_;rintro e W' ⟨v,ok,rfl,q,u⟩;exact⟨by rw[Dc.ado q],u⟩
end Go.Proofs.YtkkdimcnpacjhaaGreat
end
section
namespace Go.Proofs.YtkkdimcnpacjhaaGreat
def D9 (l:List Int) (x:Int):Bool:=l.contains x
def JY {l:List Int} {x:Int}:D9 l x=true↔x∈l:=by unfold D9;simp
def OO {l:List Int} {x:Int}:D9 l x=false↔x∉l:=by unfold D9;simp
def put (l:List Int) (x:Int):List Int:=if D9 l x then l else l.takeWhile (decide<| · <x)++x::l.dropWhile (decide<| · <x)
def EG (l:List Int):List Int:=l.foldl put []
def Hr (a b:List Int):List Int:=b.foldl put (EG a)
def Ob (a b:List Int):List Int:=(EG a).filter (fun x=> !D9 b x)
abbrev Inc (l:List Int):Prop:=l.Pairwise (· < ·)
def aib {l:List Int} {x:Int}:∀y∈l.takeWhile (decide<| · <x),y<x:=by
 intro y j;have :=List.all_takeWhile (l:=l) (p:=(decide<| · <x));rw[DY]at this;simpa using this y j
def aRJ :∀{l:List Int} {x:Int},Inc l→∀y∈l.dropWhile (decide<| · <x),x≤y
 | [],x,_,y,j=>wE
 |a::l,x,h,y,j=>by
  have h':=OC.1 h;by_cases ha:a<x
  ·rw[aXR (by simpa using ha)]at j;exact aRJ h'.2 y j
  rw[aQy (by simpa using ha)]at j;rcases EX.1 j with rfl|j
  ·omega
  have :=h'.1 y j;omega
def VW {l:List Int} {x y:Int}:y∈put l x↔y∈l∨y=x:=by
 unfold put;split
 ·rename_i h;have j:x∈l:=JY.1 h;constructor
  ·exact .inl
  rintro(h|rfl)
  ·exact h
  exact j
 have e:l.takeWhile (decide<| · <x)++l.dropWhile (decide<| · <x)=l:=nE
 have :y∈l↔y∈l.takeWhile (decide<| · <x)∨y∈l.dropWhile (decide<| · <x):=by
  conv=>lhs;rw[←e]
  exact Hd
 rw[this,Hd,EX];constructor
 ·rintro(h|h|h)
  ·exact .inl (.inl h)
  ·exact .inr h
  exact .inl (.inr h)
 rintro((h|h)|h)
 ·exact .inl h
 ·exact .inr (.inr h)
 exact .inr (.inl h)
def Si {l:List Int} {x:Int} (h:Inc l):Inc (put l x):=by
 unfold put;split
 ·exact h
 rename_i I;have j:x∉l:=fun h=>I (JY.2 h)
 have hd:∀y∈l.dropWhile (decide<| · <x),x<y:=by
  intro y u;have z:=aRJ h y u;have J:y∈l:=(aKK _).mem u;have :y≠x:=fun e=>j (e▸J);omega
 refine Ur.2 ⟨h.sublist (List.takeWhile_sublist _),OC.2 ⟨hd,h.sublist (aKK _)⟩,?_⟩;intro a ha b q;have z:=aib a ha;rcases EX.1 q with rfl|q
 ·exact z
 have :=hd b q;omega
def aK1 {l:List Int}:∀{acc:List Int} {y:Int},y∈l.foldl put acc↔y∈acc∨y∈l:=by
 induction l with
 |nil=>intro acc y;simp
 |cons a l j=>intro acc y;rw[F5,j,VW,EX,or_assoc]
def aCd {l:List Int}:∀{acc:List Int},Inc acc→Inc (l.foldl put acc):=by
 induction l with
 |nil=>intro acc h;exact h
 |cons a l j=>intro acc h;exact j (Si h)
def IQ {l:List Int} {y:Int}:y∈EG l↔y∈l:=by unfold EG;rw[aK1];simp
def Jo (l:List Int):Inc (EG l):=aCd List.Pairwise.nil
def Ak :∀{a b:List Int},Inc a→Inc b→(∀x,x∈a↔x∈b)→a=b
 | [],[],_,_,_=>rfl
 | [],b::bs,_,_,h=>by have :=(h b).2 BF;simp at this
 |a::aJZ,[],_,_,h=>by have :=(h a).1 BF;simp at this
 |a::aJZ,b::bs,ha,J,h=>by
  have q:=OC.1 ha;have u:=OC.1 J
  have e:a=b:=by
   rcases EX.1 ((h a).1 BF)with j|j
   ·exact j
   rcases EX.1 ((h b).2 BF)with z|z
   ·exact z.symm
   have :=q.1 b z;have :=u.1 a j;omega
  subst e;congr 1;refine Ak q.2 u.2 fun x=>?_;have I:=h x;rw[EX,EX]at I;constructor
  ·intro j;rcases I.1 (.inr j)with rfl|z
   ·exact absurd (q.1 x j) AA
   exact z
  intro j;rcases I.2 (.inr j)with rfl|z
  ·exact absurd (u.1 x j) AA
  exact z
def ak8 {l:List Int} (h:Inc l):EG l=l:=Ak (Jo l) h fun _=>IQ
def vN (a b:List Int):Hr a b=EG (a++b):=by unfold Hr EG;rw[TY]
def UA {a b:List Int} {x:Int}:x∈Hr a b↔x∈a∨x∈b:=by rw[vN,IQ,Hd]
def qo (a b:List Int):Inc (Hr a b):=by rw[vN];exact Jo _
def aLR {a b:List Int} {x:Int}:x∈Ob a b↔x∈a∧x∉b:=by unfold Ob;rw[FU,IQ];simp[D9]
def aIB (a b:List Int):Inc (Ob a b):=(Jo a).sublist Qp
def alE (Cc:List Int):∀m,m≤Cc.length→∀x,x∈Lib.compactUpTo Cc.toArray m↔x∈Cc.take m:=by
 intro m
 induction m with
 |zero=>intro _ x;simp[Lib.compactUpTo]
 |succ m u=>
  intro hm x;rw[Lib.compactUpTo_succ,Hd,u AA,Nw AA,Hd];have z:Cc.toArray[m]! =Cc[m]' AA:=by simp[show m<Cc.length by omega]
  by_cases q:Lib.keeps Cc.toArray m=true
  ·rw[CS q,z]
  rw[CY q];have j:Lib.keeps Cc.toArray m=false:=MV
  have I:m≠0:=by intro e;subst e;simp[Lib.keeps]at j
  have J:Cc[m]' AA=Cc[m-1]' AA:=by
   simp[Lib.keeps,I]at j;simpa[show m<Cc.length by omega,show m-1<Cc.length by omega]using j
  constructor
  ·intro h;rcases h with h|h
   ·exact .inl h
   simp at h
  rintro(h|h)
  ·exact .inl h
  refine .inl ?_;simp at h;subst h;rw[J];rw[aTH];exact⟨m-1,AA,rfl⟩
def alk (Cc:List Int) (hs:Cc.Pairwise (· ≤ ·)):∀m,m≤Cc.length→Inc (Lib.compactUpTo Cc.toArray m)∧∀x∈Lib.compactUpTo Cc.toArray m,∃i,∃_:i<m,∃u:i<Cc.length,x=Cc[i]:=by
 intro m
 induction m with
 |zero=>intro _;refine⟨by simp[Lib.compactUpTo],fun x q=>by simp[Lib.compactUpTo]at q⟩
 |succ m O=>
  intro hm;obtain⟨L,u⟩:=O AA;have U:Cc.toArray[m]! =Cc[m]' AA:=by simp[show m<Cc.length by omega]
  rw[Lib.compactUpTo_succ];by_cases z:Lib.keeps Cc.toArray m=true
  ·rw[CS z,U];refine⟨Ur.2 ⟨L,BF,?_⟩,?_⟩
   ·intro a ha b M;simp at M;subst M;obtain⟨i,hi,Y,rfl⟩:=u a ha
    have I:∀j,(Z:j<m)→Cc[j]' AA≤Cc[m-1]' AA:=by
     intro j Z;by_cases e:j=m-1
     ·subst e;omega
     exact IW.1 hs j (m-1) AA AA AA
    have h3:=I i hi;have h4:=IW.1 hs (m-1) m AA AA AA
    have h5:Cc[m]' AA≠Cc[m-1]' AA:=by
     have J:m≠0:=AA
     simp[Lib.keeps,J]at z;simpa[show m<Cc.length by omega,show m-1<Cc.length by omega]using z
    omega
   intro x q;rcases Hd.1 q with q|q
   ·obtain⟨i,a,b,c⟩:=u x q;exact⟨i,AA,b,c⟩
   simp at q;exact⟨m,AA,AA,q⟩
  rw[CY z,Oe];refine⟨L,fun x q=>?_⟩;obtain⟨i,a,b,c⟩:=u x q;exact⟨i,AA,b,c⟩
def aID (l:List Int):Lib.compact (l.mergeSort fun x y=>decide (x≤y))=EG l:=by
 have hs:(l.mergeSort fun x y=>decide (x≤y)).Pairwise (· ≤ ·):=by
  have :=List.pairwise_mergeSort (le:=fun x y:Int=>decide (x≤y)) (by intro a b c;simp;omega) (by intro a b;simp;omega) l;exact this.imp (by intro a b h;simpa using h)
 refine Ak (alk _ hs _ (Dq _)).1 (Jo l) fun x=>?_;rw[IQ];unfold Lib.compact;rw[alE _ _ (Dq _),FV];exact List.mem_mergeSort
def dL {R:Type} (o:Option R) (Q:R→Prop):Prop:=∃r,o=some r∧Q r
section
variable {R A B α : Type} {Q : R → Prop}
def dL.ret {r:R} (h:Q r):dL (some r) Q:=⟨r,rfl,h⟩
def dL.bind {o:Option A} {f:A→Option R} {P:A→Prop} (h:dL o P) (k:∀x,P x→dL (f x) Q):dL (o.bind f) Q:=by
 obtain⟨x,rfl,j⟩:=h;exact k x j
def dL.mono {o:Option R} {P:R→Prop} (h:dL o P) (k:∀r,P r→Q r):dL o Q:=by
 obtain⟨x,rfl,j⟩:=h;exact⟨x,rfl,k x j⟩
def dL.bif {b:Bool} {x y:Option R} (j:b=true→dL x Q) (q:b=false→dL y Q):dL (bif b then x else y) Q:=by
 cases b with
 |true=>exact j rfl
 |false=>exact q rfl
def dL.eq {o:Option R} {r:R} (h:dL o (· =r)):o=some r:=by obtain⟨x,rfl,rfl⟩:=h;rfl
def dL.of {o:Option R} {r:R} (h:o=some r):dL o (· =r):=⟨r,h,rfl⟩
def aDf (l:List α) (i:Nat):Af l (i:Int)=l[i]? :=by unfold Af;rw[CS (aMp i)];simp
def Bd {l:List α} {i:Nat} (h:i<l.length):Af l (i:Int)=some l[i]:=by rw[aDf];simp[h]
def D6 {b:Nat} {l m:List α} (h:(l.length+m.length)*b≤140737488355328):C9 b l m=some (l++m):=by unfold C9;rw[CS h]
def jq {l:List α} {lo hi:Nat} (j:lo≤hi) (q:hi≤l.length):He l (lo:Int) (hi:Int)=some ((l.drop lo).take (hi-lo)):=by
 unfold He;rw[CS ⟨AA,AA,AA⟩];simp
def wrap_succ (i:Nat) (h:i<9223372036854775807):Ai ((i:Int)+1)=((i+1:Nat):Int):=by
 rw[ay];omega
def NG {x:Int} (j: -9223372036854775808≤x) (q:x≤9223372036854775807):Ai x=x:=by
 rw[ay];omega
def aQZ {body:(A→Option R)→A→Option R} (I:Nat→A→Prop) (hs:∀m a k,I m a→(∀j a',j<m→I j a'→dL (k a') Q)→dL (body k a) Q):
 ∀n m a,m<n→I m a→dL (bI body n a) Q
 |0,m,a,h,_=>AA
 |n+1,m,a,h,hi=>hs m a _ hi fun j a' h' q=>aQZ I hs n j a' AA q
def Z8 {body:(A→B→Option R)→A→B→Option R} (I:Nat→A→B→Prop) (hs:∀m a b k,I m a b→(∀j a' q,j<m→I j a' q→dL (k a' q) Q)→dL (body k a b) Q):
 ∀n m a b,m<n→I m a b→dL (aV body n a b) Q
 |0,m,a,b,h,_=>AA
 |n+1,m,a,b,h,hi=>hs m a b _ hi fun j a' q h' u=>Z8 I hs n j a' q AA u
def jF {body:(Int→Option R)→Int→Option R} (N:Nat) (j:N<Ag) (I:Nat→Prop) (q:I 0)
 (hs:∀i k,i<N→I i→(I (i+1)→dL (k ((i+1:Nat):Int)) Q)→dL (body k (i:Int)) Q) (u:∀k,I N→dL (body k (N:Int)) Q):dL (bI body Ag 0) Q:=by
 refine aQZ (body:=body) (Q:=Q) (fun m a=>∃i:Nat,a=i∧i+m=N∧I i) ?_ Ag N 0 j ⟨0,rfl,AA,q⟩;rintro m a k ⟨i,rfl,hm,hi⟩ z;by_cases e:i<N
 ·exact hs i k e hi fun h=>z (m-1) _ AA ⟨i+1,rfl,AA,h⟩
 have :i=N:=AA
 subst this;exact u k hi
def J5 {body:(A→Int→Option R)→A→Int→Option R} (N:Nat) (j:N<Ag) (I:Nat→A→Prop) {a0:A} (q:I 0 a0)
 (hs:∀i a k,i<N→I i a→(∀a',I (i+1) a'→dL (k a' ((i+1:Nat):Int)) Q)→dL (body k a (i:Int)) Q) (u:∀a k,I N a→dL (body k a (N:Int)) Q):dL (aV body Ag a0 0) Q:=by
 refine Z8 (body:=body) (Q:=Q) (fun m a b=>∃i:Nat,b=i∧i+m=N∧I i a) ?_ Ag N a0 0 j ⟨0,rfl,AA,q⟩;rintro m a b k ⟨i,rfl,hm,hi⟩ z;by_cases e:i<N
 ·exact hs i a k e hi fun a' h=>z (m-1) _ _ AA ⟨i+1,rfl,AA,h⟩
 have :i=N:=AA
 subst this;exact u a k hi
end
end Go.Proofs.YtkkdimcnpacjhaaGreat
end
section
namespace Go.Proofs
open Go.Proofs.YtkkdimcnpacjhaaGreat
open Go.Shelf
def Tryz.auB:Go.Shelf.Ren:=⟨fun |137=>140|217=>231|266=>316|n=>n,fun |9=>9|5=>5|3=>3|n=>n,fun |n=>n⟩
def Tryz.lays137:Go.Proofs.Lays.n137 Tryz.prog Tryz.auB:={
 mixed:=A8
 f137:=Tryz.func140.trans (Aq some A8)
 f217:=Tryz.func231.trans (Aq some A8)
 f266:=Tryz.func316.trans (Aq some A8)
 t3:=FX
 a3:=eB
 z3:=jU
 v3:=eI
 t5:=xK
 a5:=vH
 z5:=yE
 v5:=tY
 t9:=Ir
 a9:=yG
 z9:=sW
 v9:=xk }
open Go.RowKit in
def Tryz.strings_IndexByte (s:ByteArray) (c:Int) (w:World):
 Calls Tryz.prog 140 #[.string s,.int .u8 c] w fun e w'=>e=.returned (.int .i64 (Lib.indexByte s.data.toList c.toNat.toUInt8))∧w'=w:=Any.strings_IndexByte Tryz.lays137 s c w
def Tryz.auC:Go.Shelf.Ren:=⟨fun |219=>317|217=>231|225=>370|224=>371|267=>372|266=>316|314=>399|n=>n,fun |9=>9|3=>3|4=>4|5=>5|46=>148|146=>328|51=>212|n=>n,fun |1=>0|n=>n⟩
def Tryz.lays219:Go.Proofs.Lays.n219 Tryz.prog Tryz.auC:={
 mixed:=A8
 f217:=Tryz.func231.trans (Aq some A8)
 f219:=Tryz.func317.trans (Aq some A8)
 f224:=Tryz.func371.trans (Aq some A8)
 f225:=Tryz.func370.trans (Aq some A8)
 f266:=Tryz.func316.trans (Aq some A8)
 f267:=Tryz.func372.trans (Aq some A8)
 f314:=Tryz.func399.trans (Aq some A8)
 t3:=FX
 a3:=eB
 z3:=jU
 v3:=eI
 t4:=Tv
 a4:=sH
 z4:=ou
 v4:=sQ
 t5:=xK
 a5:=vH
 z5:=yE
 v5:=tY
 t9:=Ir
 a9:=yG
 z9:=sW
 v9:=xk
 t46:=aDQ
 a46:=Tryz.isAgg148
 z46:=aBO
 v46:=aBx
 t51:=aCJ
 a51:=Tryz.isAgg212
 z51:=aC6
 v51:=aF8
 t146:=Tryz.underlying328
 a146:=Tryz.isAgg328
 z146:=Tryz.sizeOf328
 v146:=Tryz.zeroValue328
 g1:=by kernel_rfl }
open Go.RowKit Go.Lib in
def Tryz.stringslite_Index_one (s:ByteArray) (c:UInt8) (w:World):
 Calls Tryz.prog 317 #[.string s,.string ⟨#[c]⟩] w fun e w'=>e=.returned (.int .i64 (Lib.indexByte s.data.toList c))∧w'=w:=Any.stringslite_Index_one Tryz.lays219 s c w
def Tryz.auD:Go.Shelf.Ren:=⟨fun |189=>61|125=>124|257=>123|128=>215|129=>216|294=>207|295=>208|296=>209|297=>210|298=>211|299=>212|216=>205|300=>213|301=>214|328=>306|329=>307|330=>308|331=>309|332=>310|215=>270|343=>362|n=>n,fun |28=>35|3=>3|46=>148|0=>0|51=>212|53=>214|4=>4|183=>206|182=>205|131=>47|5=>5|9=>9|218=>279|222=>283|228=>305|229=>306|n=>n,fun |n=>n⟩
def Tryz.lays189:Go.Proofs.Lays.n189 Tryz.prog Tryz.auD:={
 mixed:=A8
 f125:=Tryz.func124.trans (Aq some A8)
 f128:=Tryz.func215.trans (Aq some A8)
 f129:=Tryz.func216.trans (Aq some A8)
 f189:=Tryz.func61.trans (Aq some A8)
 f215:=Tryz.func270.trans (Aq some A8)
 f216:=Tryz.func205.trans (Aq some A8)
 f257:=Tryz.func123.trans (Aq some A8)
 f294:=Tryz.func207.trans (Aq some A8)
 f295:=Tryz.func208.trans (Aq some A8)
 f296:=Tryz.func209.trans (Aq some A8)
 f297:=Tryz.func210.trans (Aq some A8)
 f298:=Tryz.func211.trans (Aq some A8)
 f299:=Tryz.func212.trans (Aq some A8)
 f300:=Tryz.func213.trans (Aq some A8)
 f301:=Tryz.func214.trans (Aq some A8)
 f328:=Tryz.func306.trans (Aq some A8)
 f329:=Tryz.func307.trans (Aq some A8)
 f330:=Tryz.func308.trans (Aq some A8)
 f331:=Tryz.func309.trans (Aq some A8)
 f332:=Tryz.func310.trans (Aq some A8)
 f343:=Tryz.func362.trans (Aq some A8)
 t0:=aBG
 a0:=Tryz.isAgg0
 z0:=Tryz.sizeOf0
 v0:=aDD
 t3:=FX
 a3:=eB
 z3:=jU
 v3:=eI
 t4:=Tv
 a4:=sH
 z4:=ou
 v4:=sQ
 t5:=xK
 a5:=vH
 z5:=yE
 v5:=tY
 t9:=Ir
 a9:=yG
 z9:=sW
 v9:=xk
 t28:=jd
 a28:=Tryz.isAgg35
 z28:=Tryz.sizeOf35
 v28:=Tryz.zeroValue35
 t46:=aDQ
 a46:=Tryz.isAgg148
 z46:=aBO
 v46:=aBx
 t51:=aCJ
 a51:=Tryz.isAgg212
 z51:=aC6
 v51:=aF8
 t53:=Tryz.underlying214
 a53:=Tryz.isAgg214
 z53:=Tryz.sizeOf214
 v53:=Tryz.zeroValue214
 t131:=Tryz.underlying47
 a131:=Tryz.isAgg47
 z131:=Tryz.sizeOf47
 v131:=Tryz.zeroValue47
 t182:=Tryz.underlying205
 a182:=Tryz.isAgg205
 z182:=Tryz.sizeOf205
 v182:=Tryz.zeroValue205
 t183:=Tryz.underlying206
 a183:=Tryz.isAgg206
 z183:=Tryz.sizeOf206
 v183:=Tryz.zeroValue206
 t218:=Tryz.underlying279
 a218:=Tryz.isAgg279
 z218:=Tryz.sizeOf279
 v218:=Tryz.zeroValue279
 t222:=Tryz.underlying283
 a222:=Tryz.isAgg283
 z222:=Tryz.sizeOf283
 v222:=Tryz.zeroValue283
 t228:=Tryz.underlying305
 a228:=Tryz.isAgg305
 z228:=Tryz.sizeOf305
 v228:=Tryz.zeroValue305
 t229:=Tryz.underlying306
 a229:=Tryz.isAgg306
 z229:=Tryz.sizeOf306
 v229:=Tryz.zeroValue306 }
open Go.Sort Go.RowKit in
def Tryz.slices_Sort_int (blk off cap:Nat) (Cc:List Int) (w:World) (hH:Holds CP w blk off Cc.toArray) (hblk:blk<w.heap.size) (hsz:Cc.length<4611686018427387904):
 Calls Tryz.prog 61 #[.slice (some ⟨blk,off,none⟩) Cc.length cap] w fun e w'=>
  e=.returned (.tuple #[])∧∃n os,w'=grow (putRow CP (Sort.ahead w n) blk off (Cc.mergeSort fun x y=>decide (x≤y)).toArray) os:=Any.slices_Sort_int Tryz.lays189 blk off cap Cc w hH hblk hsz
def Tryz.aqG:Go.Shelf.Ren:=⟨fun |20=>62|n=>n,fun |22=>35|3=>3|4=>4|0=>0|n=>n,fun |n=>n⟩
def Tryz.apM:Go.Proofs.Lays2.n20 Tryz.prog Tryz.aqG:={
 mixed:=A8
 f20:=Tryz.func62.trans (Aq some A8)
 t0:=aBG
 a0:=Tryz.isAgg0
 z0:=Tryz.sizeOf0
 v0:=aDD
 t3:=FX
 a3:=eB
 z3:=jU
 v3:=eI
 t4:=Tv
 a4:=sH
 z4:=ou
 v4:=sQ
 t22:=jd
 a22:=Tryz.isAgg35
 z22:=Tryz.sizeOf35
 v22:=Tryz.zeroValue35
 i3:=by kernel_rfl }
open Go.RowKit Go.Lib Go.Sort in
def Tryz.slices_Compact_int (blk off cap:Nat) (Cc:List Int) (w:World) (hH:Holds CP w blk off Cc.toArray) (hsz:Cc.length≤9223372036854775807) (hcap:Cc.length≤cap):
 Calls Tryz.prog 62 #[.slice (some ⟨blk,off,none⟩) Cc.length cap] w fun e w'=>e=.returned (.slice (some ⟨blk,off,none⟩) (Lib.compact Cc).length cap)∧∃q,w'=putRow CP (Sort.ahead w q) blk off (Lib.compact Cc++List.replicate (Cc.length-(Lib.compact Cc).length) 0).toArray:=Any.slices_Compact_int Tryz.apM blk off cap Cc w hH hsz hcap
open Go.RowKit Go.Lib Go.Sort in
def Tryz.slices_Compact_int_empty (a:Option Addr) (cap:Nat) (w:World):
 Calls Tryz.prog 62 #[.slice a 0 cap] w fun e w'=>e=.returned (.slice a 0 cap)∧w'=w:=Any.slices_Compact_int_empty Tryz.apM a cap w
open Go.RowKit Go.Sort in
def Tryz.slices_Sort_int_none (p:Option Addr) (cap:Nat) (w:World):
 Calls Tryz.prog 61 #[.slice p 0 cap] w fun e w'=>e=.returned (.tuple #[])∧w'=w:=Any.slices_Sort_int_none Tryz.lays189 p cap w
end Go.Proofs
end
section
namespace Go.Proofs.YtkkdimcnpacjhaaGreat
open Go.RowKit
def Zp (x:Int):List Int→List Int
 | []=>[x]
 |y::l=>bif decide (x≤y)then x::y::l else y::Zp x l
def Q8 (l:List Int):List Int:=l.foldr Zp []
def aPx (x:Int):∀l,(Zp x l).Perm (x::l)
 | []=>.refl _
 |y::l=>by
  unfold Zp;cases h:decide (x≤y)with
  |true=>exact .refl _
  |false=>exact((aPx x l).cons y).trans (.swap x y l)
def Ti :∀l,(Q8 l).Perm l
 | []=>.refl _
 |x::l=>(aPx x (Q8 l)).trans ((Ti l).cons x)
def aYd (x:Int):∀l,l.Pairwise (· ≤ ·)→(Zp x l).Pairwise (· ≤ ·)
 | [],_=>by simp[Zp]
 |y::l,h=>by
  have h':=OC.1 h;unfold Zp;cases u:decide (x≤y)with
  |true=>
   have q:x≤y:=Rk u;refine OC.2 ⟨fun z j=>?_,h⟩;rcases EX.1 j with rfl|j
   ·exact q
   have :=h'.1 z j;omega
  |false=>
   have q:¬x≤y:=Je u;refine OC.2 ⟨fun z j=>?_,aYd x l h'.2⟩;rcases EX.1 ((aPx x l).mem_iff.1 j)with rfl|j
   ·omega
   exact h'.1 z j
def yJ :∀l,(Q8 l).Pairwise (· ≤ ·)
 | []=>.nil
 |x::l=>aYd x _ (yJ l)
def aNI (l:List Int):Q8 l=l.mergeSort fun x y=>decide (x≤y):=by
 have hs:(l.mergeSort fun x y=>decide (x≤y)).Pairwise (· ≤ ·):=by
  have :=List.pairwise_mergeSort (le:=fun x y:Int=>decide (x≤y)) (by intro a b c;simp;omega) (by intro a b;simp;omega) l;exact this.imp (by intro a b h;simpa using h)
 exact((Ti l).trans (List.mergeSort_perm l _).symm).eq_of_pairwise (fun a b _ _ h k=>AA) (yJ l) hs
abbrev AB:=List Int
def Ls (l:List Int):Option AB:=if l.length≤1099511627776 then some (Q8 l)else none
def WM (l:List Int):Option AB:=if l.length≤1099511627776 then some (Lib.compact l)else none
def lM.nil (w:World) (e size:Nat):lM w e size (.slice none 0 0) 0 []:=.of (aEU w 0 e size)
def agd {w:World} {g cap n:Nat} {e:TypeId} {os:Array Obj} {cur:Array Value} {j q:List Int} (hl:q.length=j.length) (u:w.heap[g]? =some (.cells cur e (0,0)))
 (z:j.length≤cap) (I:cap≤maxLen) (J:cap*1≤cur.size):
 lM (Go.Sort.grow (Go.Sort.putRow CP (Go.Sort.ahead w n) g 0 q.toArray) os) e 1 (.slice (some ⟨g,0,none⟩) j.length cap) j.length (q.map CP):=
 ⟨dM,.inr ⟨g,cap,_,rfl,Du _,heap_sortedI _ u,z,I,by simpa[Go.Sort.putCells]using J,by rw[kN,←hl];exact take_putCellsI cur q AA⟩⟩
def ahj {w:World} {e:TypeId} {g n cap q k:Nat} {Cc ys:List Int} (h:lM w e 1 (.slice (some ⟨g,0,none⟩) n cap) n (Cc.map CP)) (J:ys.length=n) (L:k≤n):
 lM (Go.Sort.putRow CP (Go.Sort.ahead w q) g 0 ys.toArray) e 1 (.slice (some ⟨g,0,none⟩) k cap) k ((ys.take k).map CP):=by
 rcases h.2 with⟨j,_⟩|⟨M,u,cur,j,z,I,O,hm,hs,ht⟩
 ·cases j
 injection j with e1 _ e3
 injection e1 with e1
 injection e1 with e1
 subst e1;subst e3;refine⟨Dh,.inr ⟨g,cap,Go.Sort.putCells CP 0 ys.toArray cur,rfl,z,?_,AA,hm,by simpa[Go.Sort.putCells]using hs,?_⟩⟩
 ·simp[Go.Sort.putRow,Go.Sort.mapBlock,Go.Sort.ahead,Nh,I,Go.Sort.onCells]
 have :=take_putCellsI cur ys AA;rw[kN,ZA,←this,aM5,vO AA]
def acQ {l m:List Int} (h:l.Perm m):Q8 l=Q8 m:=by
 have hs:∀(l:List Int),(Q8 l).Pairwise (· ≤ ·):=yJ;exact((Ti l).trans (h.trans (Ti m).symm)).eq_of_pairwise (fun a b _ _ j q=>AA) (hs l) (hs m)
def ag7 {l m:List Int} (h:l.Perm m):Ls l=Ls m:=by
 unfold Ls;rw[h.length_eq,acQ h]
abbrev BI:=Ar Tryz.prog
def ny (l r:List Int) (h:Ls l=some r):BI 61 [.bn 0] [.arr 3 1 (List.map Ac l)] (.eu []) [.arr 3 1 (List.map Ac r)]:=by
 unfold Ls at h;split at h
 ·rename_i O;obtain rfl:=CV h;refine Ar.aCB fun v w q=>?_;rcases q.2 with⟨rfl,M⟩|⟨g,cap,cur,rfl,u,z,I,J,L,j⟩
  ·have hl:l=[]:=Gf M;subst hl;refine(Tryz.slices_Sort_int_none _ _ _).mono ?_;rintro e w' ⟨rfl,h⟩;subst h;exact⟨rfl,lM.nil _ _ _,Turns.refl _ _⟩
  have hs:(l.mergeSort fun x y=>decide (x≤y)).length=l.length:=List.length_mergeSort _;refine(Tryz.slices_Sort_int g 0 cap l w (holds_of_blockI z WS) (GX.1 z).1 AA).mono ?_;rintro e w' ⟨rfl,n,os,rfl⟩;rw[aNI];refine⟨rfl,?_,Turns.aAe (grownBy_sortedI _)⟩;rw[hs];exact agd (os:=os) (n:=n) hs z I J L
 cases h
def aKe (l r:List Int) (h:WM l=some r):BI 62 [.bn 0] [.arr 3 1 (List.map Ac l)] (.bn 1) [.dead,.arr 3 1 (List.map Ac r)]:=by
 unfold WM at h;split at h
 ·rename_i hn;obtain rfl:=CV h;refine Ar.turned fun v w u=>?_;rcases u.2 with⟨rfl,O⟩|⟨g,cap,cur,rfl,I,z,J,U,Y,j⟩
  ·have hl:l=[]:=Gf O;subst hl;refine(Tryz.slices_Compact_int_empty _ _ _).mono ?_;rintro e w' ⟨rfl,h⟩;subst h;exact⟨_,rfl,lM.nil _ _ _,Turns.refl _ _,fun g z=>by simp[Cx]at z⟩
  refine(Tryz.slices_Compact_int g 0 cap l w (holds_of_blockI z WS) AA J).mono ?_;rintro e w' ⟨rfl,q,rfl⟩;have L:=Lib.compact_length_le l;have Z:(Lib.compact l++List.replicate (l.length-(Lib.compact l).length) 0).length=l.length:=Dh
  refine⟨_,rfl,?_,?_,fun g z=>.inl z⟩
  ·have :=ahj (q:=q) u Z L;rw[vW rfl]at this;exact this
  exact⟨rfl,rfl,rfl,by simp[Sort.putRow,Sort.mapBlock,Sort.ahead],fun k hk M=>by
   have :g≠k:=fun e=>M lV
   simp[Sort.putRow,Sort.mapBlock,Sort.ahead,Nh,this]⟩
 cases h
def strings_IndexByte (s:ByteArray) (c:Int):Option Int:=some (Lib.indexByte s.data.toList c.toNat.toUInt8)
def apF (s:ByteArray) (c:Int) (r:Int) (h:strings_IndexByte s c=some r):BI 140 [.d (DK s),.d (Ew c)] [] (.d (Ac r)) []:=by
 rw[←CV h];exact Ar.plain (vs:=[.string s,.int .u8 c]) (v:=.int .i64 (Lib.indexByte s.data.toList c.toNat.toUInt8)) (fun _ _ _=>.d _ _ (.lit _)) fun w=>(Tryz.strings_IndexByte s c w).mono fun e w' ⟨j,q⟩=>⟨j,by rw[q];exact⟨rfl,rfl,rfl,Dq _,fun _ _=>rfl⟩⟩
def zN (s t:ByteArray):Option Int:=match t.data.toList with
 | [c]=>some (Lib.indexByte s.data.toList c)
 |_=>none
def ah8 (s t:ByteArray) (r:Int) (h:zN s t=some r):BI 317 [.d (DK s),.d (DK t)] [] (.d (Ac r)) []:=by
 unfold zN at h;split at h
 ·rename_i c j;rw[←CV h];obtain⟨⟨l⟩⟩:=t;simp only at j;subst j;exact Ar.plain (vs:=[.string s,.string ⟨#[c]⟩]) (v:=.int .i64 (Lib.indexByte s.data.toList c)) (fun _ _ _=>.d _ _ (.lit _)) fun w=>(Tryz.stringslite_Index_one s c w).mono fun e w' ⟨q,u⟩=>⟨q,by rw[u];exact⟨rfl,rfl,rfl,Dq _,fun _ _=>rfl⟩⟩
 cases h
structure Yg (P:Program) (t:TypeId) (s:Nat) (z:Value):Prop where
 und:∃n e,P.underlying t=some (.array n e)∧∃i,P.info? e=some i∧i.size=s
 zero:(P.info? t).bind (·.zero)=some z
 one:z.cells.all (·.oneCell')=true
def ab1 (P:Program) (t:TypeId) (s:Nat):Bool:=
 match P.underlying t with
 |some (.array _ e)=>match P.info? e with
  |some i=>decide (i.size=s)
  |none=>false
 |_=>false
def pW {P:Program} {t:TypeId} {s:Nat} {z:Value} (h:ab1 P t s=true) (j:(P.info? t).bind (·.zero)=some z) (q:z.cells.all (·.oneCell')=true):Yg P t s z:=by
 unfold ab1 at h;split at h
 ·rename_i n e u;split at h
  ·rename_i i hi;exact⟨⟨n,e,u,i,hi,Rk h⟩,j,q⟩
  cases h
 cases h
section
variable {P : Program} {o : Oper} {es : List BA} {α : Type}
def akm {t:TypeId} {j:Array (Nat×Operand)} {s:Nat} {z:Value} (hA:Yg P t s z) (vs:List AV) (hp:NI (fun i=>some (i*s,s)) (Fb z).length j.toList vs=true)
 (hd:(Jz (fun i=>some (i*s,s)) (Fb z) j.toList vs).all AV.Au=true) (ho:o.op=.build t j):
 BU P o (NS j.toList vs) es (.d (.agg (Iy (Jz (fun i=>some (i*s,s)) (Fb z) j.toList vs)))) es:=
 .pure fun ok H a w _ _ hn=>by
  obtain⟨⟨n,e,hu,i,hi,hs⟩,hz,h1⟩:=hA;have u:=aFq (P:=P) hz w;have I:(underlying t).run P w=.ok (.array n e) w:=aDm
  have J:(sizeOf e).run P w=.ok s w:=aI9
  obtain⟨q,hc,L⟩:=wQ (place:=fun i=>some (i*s,s)) j.toList vs (Fb z) z.cells (aGX (ok:=ok) (w:=w) (H:=H) h1) hp hn;refine⟨.agg q,?_,.d _ _ ?_⟩
  ·have e:(j.map fun(i,x)=>(i,a.eval x)).toList=j.toList.map fun p=>(p.1,a.eval p.2):=BF
   simp only[execOp,ho,Instr.build,FT,u,I,J,Fh];rw[e,hc];rfl
  rw[aah hd]at L;generalize Iy (Jz (fun i=>some (i*s,s)) (Fb z) j.toList vs)=xs at L ⊢;obtain⟨Z,M⟩:=L;simp only[CG]at Z M
  have hg:∀i,i<xs.length→(xs.map AV.d).getD i .junk=.d (xs.getD i DT):=by
   intro i hi;simp[List.getD,hi]
  have O:q.size=xs.length:=by simpa using Z
  refine .agg xs q O ?_ ?_<;>intro i hi
  ·have :=(M i hi).1;rw[hg i hi]at this;exact this
  have U:=(M i hi).2;rw[hg i hi]at U;have Y:i<q.size:=AA
  have e:q.toList.getD i undef=q.getD i undef:=by simp[List.getD,Array.getD,Y]
  rw[e]at U;cases U with |d _ _ h=>exact h
def MN (enc:α→D) (l:List α):D:=.agg (l.map enc)
def aDc {x y:Operand} {t e:TypeId} {n:Nat} {k:IntKind} {i:Int} (enc:α→D) {l:List α} {a:α} (h:Af l i=some a) (ht:P.underlying t=some (.array n e)) (I:EM P e false 1) (hl:l.length=n) (U:o.op=.index t x y):
 BU P o [(x,.d (MN enc l)),(y,.d (.lit (.int k i)))] es (.d (enc a)) es:=
 .pure fun ok H Y w _ _ J=>by
  obtain⟨Z,L⟩:=LU h;have q:=(Ef J).1;have M:=(Ef J).2.lit;simp only at q M;have u:=(FP.1 L).1;have hu:(underlying t).run P w=.ok (.array n e) w:=OH
  generalize hv:Y.eval x=v at q;cases q with
  |d _ _ q=>
   cases q with
   |agg _ vs z hf O=>
    rw[CG]at z hf O;have j:i.toNat<vs.size:=AA
    refine⟨vs[i.toNat],?_,?_⟩
    ·have hb:0≤i∧i<n:=⟨Z,AA⟩
     simp only[execOp,U,hv,M,Instr.index,asIntOf,FT,Gj,hu,Fh,hb,and_self,Jg,I.size w,part,I.agg w];simp[j]
    have :=O i.toNat u;simp only[Array.getD,j,dif_pos]at this;have e2:(l.map enc).getD i.toNat DT=enc a:=by simp[List.getD,L]
    rw[e2]at this;exact .d _ _ this
def afj {x:Operand} {k off:Nat} (q:o.op=.nilCheck x):BU P o [(x,.ptr k off)] es (.ptr k off) es:=
 .pure fun ok H a w _ _ z=>by
  have j:=L8 z;simp only at j;generalize I:a.eval x=u at j;cases j with
  |ptr _ _ b s h=>exact⟨_,by simp[execOp,q,I],.ptr _ _ b s h⟩
def aht {x:Operand} {k i off:Nat} (q:o.op=.nilCheck x):BU P o [(x,.lD k i off)] es (.lD k i off) es:=
 .pure fun ok H a w _ _ z=>by
  have j:=L8 z;simp only at j;generalize I:a.eval x=u at j;cases j with
  |lD _ _ _ b n cap s h=>exact⟨_,by simp[execOp,q,I],.lD _ _ _ b n cap s h⟩
def anF {x:Operand} {cs:List D} {off:Nat} (z:o.op=.nilCheck x):BU P o [(x,.d (.ref cs off))] es (.d (.ref cs off)) es:=
 .pure fun ok H a w _ _ I=>by
  have j:=L8 I;simp only at j;generalize J:a.eval x=u at j;cases j with
  |d _ _ h=>cases h with
   |ref _ _ b p q L M O=>exact⟨_,by simp[execOp,z,J],.d _ _ (.ref _ _ b p q L M O)⟩
def aTg (n:Nat):D:=.fn (.func n) [] []
end
def QT {α:Type} (p:α→Prop):List α→Prop
 | []=>True
 |x::l=>p x∧QT p l
def QT.mem {α:Type} {p:α→Prop}:∀{l:List α},QT p l→∀x∈l,p x
 | [],_,x,h=>IK
 |y::l,hl,x,h=>by
  rcases EX.1 h with rfl|h
  ·exact hl.1
  exact hl.2.mem x h
class Kn (P:Program) where
 und:List (Nat×TypeDesc)
 alD:QT (fun p:Nat×TypeDesc=>P.underlying p.1=some p.2) und
 ty:List (Nat×Bool×Nat)
 hty:QT (fun p:Nat×Bool×Nat=>EM P p.1 p.2.1 p.2.2) ty
 fld:List ((Nat×Nat)×Nat)
 hfld:QT (fun p:(Nat×Nat)×Nat=>D7 P p.1.1 p.1.2 p.2) fld
 part:List ((Nat×Nat)×Nat×Bool×Nat)
 hpart:QT (fun p:(Nat×Nat)×Nat×Bool×Nat=>kU P p.1.1 p.1.2 p.2.1 p.2.2.1 p.2.2.2=true) part
 zero:List (Nat×Value)
 hzero:QT (fun p:Nat×Value=>(P.info? p.1).bind (·.zero)=some p.2∧p.2.cells.all (·.oneCell')=true) zero
 st:List (Nat×List (Nat×Nat)×Value)
 hst:QT (fun p:Nat×List (Nat×Nat)×Value=>JE P p.1 p.2.1 p.2.2) st
 arr:List (Nat×Nat×Value)
 harr:QT (fun p:Nat×Nat×Value=>Yg P p.1 p.2.1 p.2.2) arr
def QJ {β:Type} (t:Nat):List (Nat×β)→Option β
 | []=>none
 |(u,b)::l=>match Nat.beq t u with |true=>some b|false=>QJ t l
def Ny {β:Type} {t:Nat} {b:β}:∀{l:List (Nat×β)},QJ t l=some b→(t,b)∈l
 | [],h=>Gy
 |(u,c)::l,h=>by
  unfold QJ at h;split at h
  ·rename_i e;cases h;rw[aNo e];exact EU
  exact FB _ (Ny h)
def uD {β:Type} (t f:Nat):List ((Nat×Nat)×β)→Option β
 | []=>none
 |((u,g),b)::l=>match Nat.beq t u&&Nat.beq f g with |true=>some b|false=>uD t f l
def qK {β:Type} {t f:Nat} {b:β}:∀{l:List ((Nat×Nat)×β)},uD t f l=some b→((t,f),b)∈l
 | [],h=>Gy
 |((u,g),c)::l,h=>by
  unfold uD at h;split at h
  ·rename_i e;cases h;rw[CW]at e;rw[aNo e.1,aNo e.2];exact EU
  exact FB _ (qK h)
structure Py where
 ns:List (Operand×AV)
 x:AV
 E:List BA
 bar:Bool
def aLg (op:BinOp) (k:IntKind) (a b:Int):Option Value:=
 match op with
 | .add=>some (.int k (k.wrap (a+b)))
 | .sub=>some (.int k (k.wrap (a-b)))
 | .mul=>some (.int k (k.wrap (a*b)))
 | .eql=>some (.bool (a==b))
 | .neq=>some (.bool (a != b))
 | .lss=>some (.bool (decide (a<b)))
 | .leq=>some (.bool (decide (a≤b)))
 | .gtr=>some (.bool (decide (a>b)))
 | .geq=>some (.bool (decide (a≥b)))
 |_=>none
def ahy {op:BinOp} {k:IntKind} {a b:Int} {r:Value} {t:TypeId} {P:Program} (h:aLg op k a b=some r) (w:World):(binOp op t (.int k a) (.int k b)).run P w=.ok r w:=by
 unfold aLg at h;cases op<;>first|(cases h;done)|(cases h;simp[binOp,Op.intArith,Op.intCmp];done)|(cases h;cases k<;>rfl)
def aMy (op:BinOp) (a b:ByteArray):Option Value:=
 match op with
 | .eql=>some (.bool (a.toList==b.toList))
 | .neq=>some (.bool (!(a.toList==b.toList)))
 | .lss=>some (.bool (Op.bytesLess a.toList b.toList))
 | .leq=>some (.bool (Op.bytesLess a.toList b.toList||a.toList==b.toList))
 | .gtr=>some (.bool (!(Op.bytesLess a.toList b.toList||a.toList==b.toList)))
 | .geq=>some (.bool (!Op.bytesLess a.toList b.toList))
 |_=>none
def afo {op:BinOp} {a b:ByteArray} {r:Value} {t:TypeId} {P:Program} (h:aMy op a b=some r) (w:World):(binOp op t (.string a) (.string b)).run P w=.ok r w:=by
 unfold aMy at h;cases op<;>first|(cases h;done)|(cases h;rfl)
def BU.aD2 {P:Program} {o:Oper} {ns j:List (Operand×AV)} {es es':List BA} {x:AV} (h:BU P o ns es x es') (q:∀n∈ns,n∈j∨n=(.const (.slice none 0 0),.d (.sl []))):BU P o j es x es':=by
 intro C ok H a w Q hm z;refine h C ok H a w Q hm (fun n u=>?_);rcases q n u with I|rfl
 ·exact z n I
 exact .d _ _ (.sl0 none 0)
def AV.aJV:AV→Option Value
 | .d (.lit v)=>some v
 |_=>none
def aMD {P:Program} (K:Kn P) (σ:Am) (o:Oper):Option Py:=
 match o.op with
 | .move x=>match x with
   | .const (.slice none 0 0)=>some ⟨[],.d (.sl []),σ.ents,false⟩
   |x=>some ⟨[(x,σ.get x)],σ.get x,σ.ents,false⟩
 | .assign x=>match x with
   | .const (.slice none 0 0)=>some ⟨[],.d (.sl []),σ.ents,false⟩
   |x=>some ⟨[(x,σ.get x)],σ.get x,σ.ents,false⟩
 | .pick c x y=>match σ.get c with
   | .d (.lit (.bool true))=>some ⟨[(c,.d (.lit (.bool true))),(x,σ.get x)],σ.get x,σ.ents,false⟩
   | .d (.lit (.bool false))=>some ⟨[(c,.d (.lit (.bool false))),(y,σ.get y)],σ.get y,σ.ents,false⟩
   |_=>none
 | .binOp op t x y _=>match σ.get x,σ.get y with
   | .d (.lit (.int k a)),.d (.lit (.int k' b))=>if k=k' then(aLg op k a b).map fun r=>⟨[(x,.d (.lit (.int k a))),(y,.d (.lit (.int k b)))],.d (.lit r),σ.ents,false⟩else none
   | .d (.lit (.string a)),.d (.lit (.string b))=>(aMy op a b).map fun r=>⟨[(x,.d (.lit (.string a))),(y,.d (.lit (.string b)))],.d (.lit r),σ.ents,false⟩
   | .d (.lit (.bool a)),.d (.lit (.bool b))=>match QJ t K.und with
     |some .bool=>match op with
      | .eql=>some ⟨[(x,.d (Dx a)),(y,.d (Dx b))],.d (Dx (a==b)),σ.ents,false⟩
      | .neq=>some ⟨[(x,.d (Dx a)),(y,.d (Dx b))],.d (Dx (!(a==b))),σ.ents,false⟩
      |_=>none
     |_=>none
   |_,_=>none
 | .unOp op _ x=>match σ.get x with
   | .d (.lit (.bool b))=>match op with
     | .not=>some ⟨[(x,.d (.lit (.bool b)))],.d (.lit (.bool !b)),σ.ents,false⟩
     |_=>none
   | .d (.lit (.int k n))=>match op with
     | .neg=>some ⟨[(x,.d (.lit (.int k n)))],.d (.lit (.int k (k.wrap (0-n)))),σ.ents,false⟩
     |_=>none
   |_=>none
 | .convert s t x=>match QJ s K.und,QJ t K.und,σ.get x with
   |some (.int J),some (.int k),.d (.lit (.int L n))=>if J=L then some ⟨[(x,.d (.lit (.int J n)))],.d (.lit (.int k (k.wrap n))),σ.ents,false⟩else none
   |some .string,some .string,.d (.lit (.string u))=>some ⟨[(x,.d (DK u))],.d (DK u),σ.ents,false⟩
   |_,_,_=>none
 | .extract x i=>match σ.get x with
   | .eu xs=>match xs[i]? with
     |some v=>some ⟨[(x,.eu xs)],v,σ.ents,false⟩
     |none=>none
   |_=>none
 | .fieldAddr t x f=>match uD t f K.fld,σ.get x with
   |some off,.ptr k I=>some ⟨[(x,.ptr k I)],.ptr k (I+off),σ.ents,false⟩
   |some off,.lD k i I=>some ⟨[(x,.lD k i I)],.lD k i (I+off),σ.ents,false⟩
   |some off,.d (.ref cs I)=>some ⟨[(x,.d (.ref cs I))],.d (.ref cs (I+off)),σ.ents,false⟩
   |_,_=>none
 | .nilCheck x=>match σ.get x with
   | .ptr k I=>some ⟨[(x,.ptr k I)],.ptr k I,σ.ents,false⟩
   | .lD k i I=>some ⟨[(x,.lD k i I)],.lD k i I,σ.ents,false⟩
   | .d (.ref cs I)=>some ⟨[(x,.d (.ref cs I))],.d (.ref cs I),σ.ents,false⟩
   |_=>none
 | .field t x f=>match uD t f K.part,σ.get x with
   |some (off,agg,n),.d (.agg cs)=>if off+n≤cs.length∧(agg=false→n=1)then some ⟨[(x,.d (.agg cs))],.d (QD agg cs off n),σ.ents,false⟩else none
   |_,_=>none
 | .load t x=>match QJ t K.ty,σ.get x with
   |some (agg,n),.d (.ref cs off)=>if off+n≤cs.length∧(agg=false→n=1)then some ⟨[(x,.d (.ref cs off))],.d (QD agg cs off n),σ.ents,false⟩else none
   |some (agg,n),.ptr k off=>match σ.ents[k]? with
    |some (.box cs)=>if(off+n≤cs.length∧(agg=false→n=1))∧cs.all AV.Au=true then some ⟨[(x,.ptr k off)],.d (QD agg (Iy cs) off n),σ.ents,false⟩else match agg,n,cs[off]? with
     |false,1,some v=>some ⟨[(x,.ptr k off)],v,σ.ents,false⟩
     |_,_,_=>none
    |_=>none
   |_,_=>none
 | .box _ x=>if(σ.get x).cells.all AV.leaf=true then some ⟨[(x,σ.get x)],.ptr σ.ents.length 0,σ.ents++[.box (σ.get x).cells],true⟩else none
 | .alloc t=>match QJ t K.zero with
   |some z=>some ⟨[],.ptr σ.ents.length 0,σ.ents++[.box (Fb z)],true⟩
   |none=>none
 | .store t x y=>match QJ t K.ty,σ.get x with
   |some (_,n),.ptr k off=>match σ.ents[k]? with
    |some (.box cs)=>match y with
     | .const (.slice none 0 0)=>if n=1∧off+1≤cs.length then some ⟨[(x,.ptr k off)],.junk,σ.ents.set k (.box (setAt cs off [.d (.sl [])])),true⟩else none
     |y=>if((σ.get y).cells.all AV.leaf=true∧(σ.get y).cells.length=n)∧off+n≤cs.length then some ⟨[(x,.ptr k off),(y,σ.get y)],.junk,σ.ents.set k (.box (setAt cs off (σ.get y).cells)),true⟩else none
    |_=>none
   |_,_=>none
 | .build t j=>match QJ t K.st with
   |some (q,z)=>
    if NI (fun(i:Nat)=>q[i]?) (Fb z).length j.toList (j.toList.map fun p=>σ.get p.2)=true∧(Jz (fun(i:Nat)=>q[i]?) (Fb z) j.toList (j.toList.map fun p=>σ.get p.2)).all AV.Au=true
    then some ⟨NS j.toList (j.toList.map fun p=>σ.get p.2),.d (.agg (Iy (Jz (fun(i:Nat)=>q[i]?) (Fb z) j.toList (j.toList.map fun p=>σ.get p.2)))),σ.ents,false⟩
    else none
   |none=>match QJ t K.arr with
    |some (s,z)=>
     if NI (fun i=>some (i*s,s)) (Fb z).length j.toList (j.toList.map fun p=>σ.get p.2)=true∧(Jz (fun i=>some (i*s,s)) (Fb z) j.toList (j.toList.map fun p=>σ.get p.2)).all AV.Au=true
     then some ⟨NS j.toList (j.toList.map fun p=>σ.get p.2),.d (.agg (Iy (Jz (fun i=>some (i*s,s)) (Fb z) j.toList (j.toList.map fun p=>σ.get p.2)))),σ.ents,false⟩
     else none
    |none=>none
 | .call c=>match c.callee,c.args.toList,c.argTypes.toList with
   | .builtin .len,[x],[t]=>match QJ t K.und,σ.get x with
     |some .string,.d (.lit (.string s))=>some ⟨[(x,.d (DK s))],.d (Ac s.size),σ.ents,false⟩
     |_,_=>none
   |_,_,_=>none
 |_=>none
def aNS (σ:Am):∀(l:List (Nat×Operand)),needs σ (NS l (l.map fun p=>σ.get p.2))
 | []=>trivial
 |(_,x)::l=>⟨rfl,aNS σ l⟩
def ahV {P:Program} (K:Kn P) {σ:Am} {o:Oper} {r:Py} (h:aMD K σ o=some r):BU P o r.ns σ.ents r.x r.E∧needs σ r.ns∧(r.bar=false→r.E=σ.ents):=by
 unfold aMD at h;split at h
 ·rename_i x j;split at h
  ·cases h;exact⟨ak9 j,trivial,fun _=>rfl⟩
  cases h;exact⟨agB j,⟨rfl,trivial⟩,fun _=>rfl⟩
 ·rename_i x j;split at h
  ·cases h;exact⟨aoS j,trivial,fun _=>rfl⟩
  cases h;exact⟨ahr j,⟨rfl,trivial⟩,fun _=>rfl⟩
 ·rename_i c x y j;split at h
  ·rename_i e;cases h;exact⟨ad7 true rfl j,⟨e,rfl,trivial⟩,fun _=>rfl⟩
  ·rename_i e;cases h;exact⟨aed false rfl j,⟨e,rfl,trivial⟩,fun _=>rfl⟩
  cases h
 ·rename_i op t x y t' j;split at h
  ·rename_i k a k' b U Y;split at h
   ·rename_i J;subst J;rw[Rw]at h;obtain⟨v,M,rfl⟩:=h;exact⟨MC j (ahy M) ⟨rfl,rfl⟩,⟨U,Y,trivial⟩,fun _=>rfl⟩
   cases h
  ·rename_i a b U Y;rw[Rw]at h;obtain⟨v,M,rfl⟩:=h;exact⟨MC j (afo M) ⟨rfl,rfl⟩,⟨U,Y,trivial⟩,fun _=>rfl⟩
  ·rename_i a b U Y;split at h
   ·rename_i Z;have Z:=K.alD.mem _ (Ny Z);split at h
    ·cases h;exact⟨aeX Z j,⟨U,Y,trivial⟩,fun _=>rfl⟩
    ·cases h;exact⟨ank Z j,⟨U,Y,trivial⟩,fun _=>rfl⟩
    cases h
   cases h
  cases h
 ·rename_i op t x j;split at h
  ·rename_i b e;split at h
   ·cases h;exact⟨aNY j (fun _=>rfl),⟨e,trivial⟩,fun _=>rfl⟩
   cases h
  ·rename_i k n e;split at h
   ·cases h;exact⟨aNY j (fun _=>rfl),⟨e,trivial⟩,fun _=>rfl⟩
   cases h
  cases h
 ·rename_i s t x j;split at h
  ·rename_i k0 k k1 n I h2 e;split at h
   ·rename_i J;subst J;cases h;exact⟨ae8 (K.alD.mem _ (Ny I)) (K.alD.mem _ (Ny h2)) j,⟨e,trivial⟩,fun _=>rfl⟩
   cases h
  ·rename_i u I h2 e;cases h;exact⟨acK (K.alD.mem _ (Ny I)) (K.alD.mem _ (Ny h2)) j,⟨e,trivial⟩,fun _=>rfl⟩
  cases h
 ·rename_i x i j;split at h
  ·rename_i xs e;split at h
   ·rename_i v M;cases h;exact⟨aoI j M,⟨e,trivial⟩,fun _=>rfl⟩
   cases h
  cases h
 ·rename_i t x f j;split at h
  ·rename_i off k o' I e;cases h;exact⟨aoi (K.hfld.mem _ (qK I)) j,⟨e,trivial⟩,fun _=>rfl⟩
  ·rename_i off k i o' I e;cases h;exact⟨ak7 (K.hfld.mem _ (qK I)) j,⟨e,trivial⟩,fun _=>rfl⟩
  ·rename_i off cs o' I e;cases h;exact⟨ahi (K.hfld.mem _ (qK I)) j,⟨e,trivial⟩,fun _=>rfl⟩
  cases h
 ·rename_i x j;split at h
  ·rename_i e;cases h;exact⟨afj j,⟨e,trivial⟩,fun _=>rfl⟩
  ·rename_i e;cases h;exact⟨aht j,⟨e,trivial⟩,fun _=>rfl⟩
  ·rename_i e;cases h;exact⟨anF j,⟨e,trivial⟩,fun _=>rfl⟩
  cases h
 ·rename_i t x f j;split at h
  ·rename_i off agg n cs I e;split at h
   ·rename_i q;cases h;exact⟨ajQ rfl (K.hpart.mem _ (qK I)) q.1 q.2 j,⟨e,trivial⟩,fun _=>rfl⟩
   cases h
  cases h
 ·rename_i t x j;split at h
  ·rename_i agg n cs off I e;split at h
   ·rename_i q;cases h;exact⟨amZ rfl (K.hty.mem _ (Ny I)) q.1 q.2 j,⟨e,trivial⟩,fun _=>rfl⟩
   cases h
  ·rename_i agg n k off I e;split at h
   ·rename_i cs J;split at h
    ·rename_i q;cases h;exact⟨ao1 rfl J q.2 (K.hty.mem _ (Ny I)) q.1.1 q.1.2 j,⟨e,trivial⟩,fun _=>rfl⟩
    split at h
    ·rename_i v M _;cases h;exact⟨aRU J M (K.hty.mem _ (Ny I)) j,⟨e,trivial⟩,fun _=>rfl⟩
    cases h
   cases h
  cases h
 ·rename_i t x j;split at h
  ·rename_i q;cases h;exact⟨alI q j,⟨rfl,trivial⟩,fun O=>by cases O⟩
  cases h
 ·rename_i t j;split at h
  ·rename_i z hz;cases h;exact⟨aom (K.hzero.mem _ (Ny hz)).1 (K.hzero.mem _ (Ny hz)).2 j,trivial,fun O=>by cases O⟩
  cases h
 ·rename_i t x y j;split at h
  ·rename_i agg n k off I e;split at h
   ·rename_i cs J;split at h
    ·split at h
     ·rename_i q;cases h;refine⟨BU.aD2 (aTT (v:=.d (.sl [])) J rfl (by have h9:=(K.hty.mem _ (Ny I)).size;rw[q.1]at h9;exact h9) rfl q.2 j) (fun n hn=>?_),⟨e,trivial⟩,fun O=>by cases O⟩;simp only[EX,Ei,iU]at hn;rcases hn with rfl|rfl
      ·exact .inl BF
      exact .inr rfl
     cases h
    split at h
    ·rename_i q;cases h;exact⟨aTT J q.1.1 (K.hty.mem _ (Ny I)).size q.1.2 q.2 j,⟨e,rfl,trivial⟩,fun O=>by cases O⟩
    cases h
   cases h
  cases h
 ·rename_i t parts j;split at h
  ·rename_i places z hs;split at h
   ·rename_i q;cases h;exact⟨akh (K.hst.mem _ (Ny hs)) _ j rfl q.1 q.2,aNS σ _,fun _=>rfl⟩
   cases h
  split at h
  ·rename_i s z hs;split at h
   ·rename_i q;cases h;exact⟨akm (K.harr.mem _ (Ny hs)) _ q.1 q.2 j,aNS σ _,fun _=>rfl⟩
   cases h
  cases h
 ·rename_i c j;split at h
  ·rename_i x t L ha ht
   have j:o.op=.call { callee:=.builtin .len,args:= #[x],argTypes:= #[t] }:=by
    obtain⟨cal,aJZ,ts⟩:=c;simp only at L ha ht;rw[j,L,show aJZ= #[x]from by rw[←bg (xs:=aJZ),ha],show ts= #[t]from by rw[←bg (xs:=ts),ht]]
   split at h
   ·rename_i s I e;cases h;exact⟨ajY s (K.alD.mem _ (Ny I)) j,⟨e,trivial⟩,fun _=>rfl⟩
   cases h
  cases h
 cases h
def Ja (ops:Array Oper) (σ:Am):Option (Nat×Bool)→Option Bool
 |none=>some true
 |some (j,q)=>match(ops[j]?).bind (·.dst)with
  |some d=>match σ.slots.getD d .junk with
   | .d (.lit (.bool b))=>some (b==q)
   | .d (.lit (.tuple a))=>match a.toList with
     | []=>some false
     |_=>none
   |_=>none
  |none=>none
def MO {ops:Array Oper} {σ:Am} {g:Option (Nat×Bool)} (h:Ja ops σ g=some true):Wi ops σ g:=by
 unfold Ja at h;split at h
 ·exact .inl rfl
 rename_i j q;split at h
 ·rename_i d hd;split at h
  ·rename_i b hs;refine .inr ⟨j,q,d,b,rfl,hd,hs,?_⟩;simpa using h
  ·split at h<;>cases h
  cases h
 cases h
def ads {ops:Array Oper} {σ:Am} {g:Option (Nat×Bool)} (h:Ja ops σ g=some false):Xw ops σ g:=by
 unfold Ja at h;split at h
 ·cases h
 rename_i j q;split at h
 ·rename_i d hd;split at h
  ·rename_i b hs;refine akL j q d b rfl hd hs ?_;have :(b==q)=false:=CV h;cases b<;>cases q<;>first|rfl|cases this
  ·rename_i a hs;split at h
   ·rename_i ha;have ha:a= #[]:=by rw[←bg (xs:=a),ha]
    subst ha;exact alK j q d rfl hd hs
   cases h
  cases h
 cases h
def Vb {P:Program} (K:Kn P) (ops:Array Oper) (σ:Am) (o:Oper):Option Py:=
 match Ja ops σ o.guard with
 |some true=>match aMD K σ o with
  |some r=>if(Nv r.ns).all (tmpsOf o).contains=true then some r else none
  |none=>none
 |some false=>some ⟨[],.d (.lit undef),σ.ents,false⟩
 |none=>none
def YZ {P:Program} (K:Kn P) {ops:Array Oper} {σ:Am} {o:Oper} {r:Py} (h:Vb K ops σ o=some r):RV P ops σ r.x r.E r.bar o:=by
 unfold Vb at h;split at h
 ·rename_i j;split at h
  ·rename_i J q;split at h
   ·rename_i ht;cases h;obtain⟨u,z,I⟩:=ahV K q;exact⟨.inl ⟨_,u,z,ht,MO j⟩,I⟩
   cases h
  cases h
 ·rename_i j;cases h;exact⟨.inr ⟨rfl,rfl,ads j⟩,fun _=>rfl⟩
 cases h
def I5 {P:Program} (K:Kn P) (ops:Array Oper):Nat→List Oper→Am→Option (Am×List Py)
 |0,_,σ=>some (σ,[])
 |n+1,l,σ=>match l with
  |o::l=>match Vb K ops σ o with
   |some r=>match I5 K ops n l (σ.put o.dst r.x r.E)with
    |some (σ',rs)=>some (σ',r::rs)
    |none=>none
   |none=>none
  | []=>none
def SK :Option (Am×List Py)→Am
 |some (σ,_)=>σ
 |none=>⟨[],[],0⟩
def bT :Option (Am×List Py)→List Py
 |some (_,rs)=>rs
 |none=>[]
def Chain.auto {P:Program} (K:Kn P) {ops:Array Oper}:∀(n:Nat) {l:List Oper} {σ σ':Am},(I5 K ops n l σ).isSome=true→Chain P ops (l.drop n) (SK (I5 K ops n l σ)) σ'→Chain P ops l σ σ'
 |0,l,σ,σ',_,k=>by simpa[I5,SK]using k
 |n+1,l,σ,σ',h,k=>by
  unfold I5 at h k;split at h
  ·rename_i o l';split at h
   ·rename_i r q;split at h
    ·rename_i u rs j;simp only[q,j]at k;refine .ag5 o.dst (YZ K q) rfl (Chain.auto K n vG ?_);rw[j];exact k
    cases h
   cases h
  cases h
def Ep.auto {P:Program} (K:Kn P) {ops:Array Oper}:∀(n:Nat) {l:List Oper} {σ σ':Am} {rs:List AV} {ess:List (List BA)} {bs:List Bool},(I5 K ops n l σ).isSome=true→Ep P ops (l.drop n) (SK (I5 K ops n l σ)) rs ess bs σ'→
 Ep P ops l σ ((bT (I5 K ops n l σ)).map Py.x++rs) ((bT (I5 K ops n l σ)).map Py.E++ess) ((bT (I5 K ops n l σ)).map Py.bar++bs) σ'
 |0,l,σ,σ',rs,ess,bs,_,k=>by simpa[I5,SK,bT]using k
 |n+1,l,σ,σ',rs,ess,bs,h,k=>by
  unfold I5 at h k ⊢;split at h
  ·rename_i o l';split at h
   ·rename_i r q;split at h
    ·rename_i z u j;simp only[q,j]at k ⊢;refine .ag5 o.dst (YZ K q) rfl ?_;have :=Ep.auto K n (l:=l') (σ:=σ.put o.dst r.x r.E) (σ':=σ') (rs:=rs) (ess:=ess) (bs:=bs) vG (by rw[j];exact k);rw[j]at this;exact this
    cases h
   cases h
  cases h
def Chain.a {P:Program} [T:Kn P] {ops:Array Oper} {l:List Oper} {σ σ':Am} (n:Nat) (k:Chain P ops (l.drop n) (SK (I5 T ops n l σ)) σ') (h:(I5 T ops n l σ).isSome=true:=by kernel_rfl):Chain P ops l σ σ':=Chain.auto T n h k
def Ep.a {P:Program} [T:Kn P] {ops:Array Oper} {l:List Oper} {σ σ':Am} {rs:List AV} {ess:List (List BA)} {bs:List Bool} (n:Nat) (k:Ep P ops (l.drop n) (SK (I5 T ops n l σ)) rs ess bs σ') (h:(I5 T ops n l σ).isSome=true:=by kernel_rfl):
 Ep P ops l σ ((bT (I5 T ops n l σ)).map Py.x++rs) ((bT (I5 T ops n l σ)).map Py.E++ess) ((bT (I5 T ops n l σ)).map Py.bar++bs) σ':=Ep.auto T n h k
def Chain.c {P:Program} [T:Kn P] {ops:Array Oper} {o:Oper} {rest:List Oper} {σ σ':Am} {e c:Bool} (h:some e=some c) (k:Chain P ops rest (σ.rZ o.dst (.d (.lit (.bool c)))) σ') (hs:(Vb T ops σ o).map (fun r=>(r.x,r.E,r.bar))=some (.d (.lit (.bool e)),σ.ents,false):=by kernel_rfl):Chain P ops (o::rest) σ σ':=by
 rw[Rw]at hs;obtain⟨r,u,j⟩:=hs;have q:=YZ T u;simp only[QL]at j;rw[j.1,j.2.1,j.2.2,CV h]at q;exact .ag5 o.dst q rfl k
def Ep.c {P:Program} [T:Kn P] {ops:Array Oper} {o:Oper} {rest:List Oper} {σ σ':Am} {rs:List AV} {ess:List (List BA)} {bs:List Bool} {e c:Bool} (h:some e=some c) (k:Ep P ops rest (σ.rZ o.dst (.d (.lit (.bool c)))) rs ess bs σ') (hs:(Vb T ops σ o).map (fun r=>(r.x,r.E,r.bar))=some (.d (.lit (.bool e)),σ.ents,false):=by kernel_rfl):
 Ep P ops (o::rest) σ (.d (.lit (.bool c))::rs) (σ.ents::ess) (false::bs) σ':=by
 rw[Rw]at hs;obtain⟨r,u,j⟩:=hs;have q:=YZ T u;simp only[QL]at j;rw[j.1,j.2.1,j.2.2,CV h]at q;exact .ag5 o.dst q rfl k
def aaN (σ:Am) (ns:List (Operand×AV)):Prop:=(ns.map fun n=>σ.get n.1)=ns.map (·.2)
def Ud {σ:Am}:∀{ns:List (Operand×AV)},aaN σ ns→needs σ ns
 | [],_=>trivial
 |n::ns,h=>by
  simp only[aaN,Ip,aLL]at h;exact⟨h.1,Ud h.2⟩
def Chain.p {P:Program} {ops:Array Oper} {o:Oper} {rest:List Oper} {σ σ':Am} {ns:List (Operand×AV)} {x:AV} (h:BU P o ns σ.ents x σ.ents) (k:Chain P ops rest (σ.rZ o.dst x) σ') (j:(ns.map fun n=>σ.get n.1)=ns.map (·.2):=by kernel_rfl) (q:Ja ops σ o.guard=some true:=by kernel_rfl):Chain P ops (o::rest) σ σ':=
 .op o.dst h (Ud j) (MO q) rfl k
def Ep.p {P:Program} {ops:Array Oper} {o:Oper} {rest:List Oper} {σ σ':Am} {ns:List (Operand×AV)} {x:AV} {rs:List AV} {ess:List (List BA)} {bs:List Bool} (h:BU P o ns σ.ents x σ.ents) (k:Ep P ops rest (σ.rZ o.dst x) rs ess bs σ') (j:(ns.map fun n=>σ.get n.1)=ns.map (·.2):=by kernel_rfl) (q:Ja ops σ o.guard=some true:=by kernel_rfl)
 (ht:(Nv ns).all (tmpsOf o).contains=true:=by kernel_rfl):Ep P ops (o::rest) σ (x::rs) (σ.ents::ess) (false::bs) σ':=
 .op o.dst h (Ud j) (MO q) rfl ht k
def Chain.e {P:Program} {ops:Array Oper} {o:Oper} {rest:List Oper} {σ σ':Am} {ns:List (Operand×AV)} {x:AV} {es':List BA} (E:List BA) (h:BU P o ns σ.ents x es') (k:Chain P ops rest (σ.put o.dst x E) σ') (j:es'=E:=by kernel_rfl) (q:(ns.map fun n=>σ.get n.1)=ns.map (·.2):=by kernel_rfl) (u:Ja ops σ o.guard=some true:=by kernel_rfl):Chain P ops (o::rest) σ σ':=
 .oe o.dst E h j (Ud q) (MO u) rfl k
def Ep.e {P:Program} {ops:Array Oper} {o:Oper} {rest:List Oper} {σ σ':Am} {ns:List (Operand×AV)} {x:AV} {es':List BA} {rs:List AV} {ess:List (List BA)} {bs:List Bool} (E:List BA) (h:BU P o ns σ.ents x es') (k:Ep P ops rest (σ.put o.dst x E) rs ess bs σ') (j:es'=E:=by kernel_rfl) (q:(ns.map fun n=>σ.get n.1)=ns.map (·.2):=by kernel_rfl) (u:Ja ops σ o.guard=some true:=by kernel_rfl)
 (ht:(Nv ns).all (tmpsOf o).contains=true:=by kernel_rfl):Ep P ops (o::rest) σ (x::rs) (E::ess) (true::bs) σ':=
 .oe o.dst E h j (Ud q) (MO u) rfl ht k
def V4 (σ:Am) (o:Oper):Option (FuncId×List AV):=
 match o.op with
 | .call c=>match c.callee with
   | .value (.func f)=>some (f,c.args.toList.map σ.get)
   |_=>none
 |_=>none
def aSQ {srcs:List Dj}:∀{l:List AV},l.all AV.Au=true→NH srcs l l
 | [],_=>trivial
 |x::l,h=>by
  simp only[wP,CW]at h;refine⟨?_,aSQ h.2⟩;cases x with
  |d x=>exact .inl rfl
  |_=>cases h.1
def aUe (σ:Am):∀(l:List Operand),needs σ (FM l (l.map σ.get))
 | []=>trivial
 |_::l=>⟨rfl,aUe σ l⟩
def aAT {P:Program} {σ:Am} {o:Oper} {f:FuncId} {dX:List AV} {u:AV} (L:Ar P f dX [] u []) (M:BD P f=true) (q:V4 σ o=some (f,dX)) (hd:dX.all AV.Au=true):∃ns,BU P o ns σ.ents (u.up [] σ.ents.length) σ.ents∧needs σ ns∧(Nv ns).all (tmpsOf o).contains=true:=by
 unfold V4 at q;split at q
 ·rename_i c J;split at q
  ·rename_i Y j;cases q;obtain⟨callee,args,ats⟩:=c;simp only at j;subst j;refine⟨_,aQW L M (aSQ hd) BF rfl J,aUe σ _,?_⟩;rw[DY];intro t ht;unfold Nv at ht;rw[Tj]at ht;obtain⟨n,O,I⟩:=ht
   have z:n.1∈args.toList:=by
    have :∀(l:List Operand) (vs:List AV),n∈FM l vs→n.1∈l:=by
     intro l
     induction l with
     |nil=>intro vs h;cases vs<;>simp[FM]at h
     |cons x l U=>
      intro vs h;cases vs with
      |nil=>simp[FM]at h
      |cons v vs=>
       simp only[FM,EX]at h;rcases h with rfl|h
       ·exact EU
       exact FB _ (U vs h)
    exact this _ _ O
   unfold tmpsOf;simp only[List.contains_iff_mem,Tj];refine⟨n.1,?_,I⟩;rw[J];show n.1∈(#[Operand.func f]++args).toList;simp[z]
  cases q
 cases q
def Chain.call {P:Program} {ops:Array Oper} {o:Oper} {rest:List Oper} {σ σ':Am} {f:FuncId} {dX:List AV} {j:AV} (q:Ar P f dX [] j []) (u:BD P f=true) (k:Chain P ops rest (σ.rZ o.dst (j.up [] σ.ents.length)) σ') (z:V4 σ o=some (f,dX):=by kernel_rfl)
 (hd:dX.all AV.Au=true:=by kernel_rfl) (I:Ja ops σ o.guard=some true:=by kernel_rfl):Chain P ops (o::rest) σ σ':=by
 obtain⟨ns,J,L,_⟩:=aAT q u z hd;exact .op o.dst J L (MO I) rfl k
def Ep.call {P:Program} {ops:Array Oper} {o:Oper} {rest:List Oper} {σ σ':Am} {f:FuncId} {dX:List AV} {j:AV} {rs:List AV} {ess:List (List BA)} {bs:List Bool} (q:Ar P f dX [] j []) (u:BD P f=true) (k:Ep P ops rest (σ.rZ o.dst (j.up [] σ.ents.length)) rs ess bs σ') (z:V4 σ o=some (f,dX):=by kernel_rfl)
 (hd:dX.all AV.Au=true:=by kernel_rfl) (I:Ja ops σ o.guard=some true:=by kernel_rfl):Ep P ops (o::rest) σ (j.up [] σ.ents.length::rs) (σ.ents::ess) (false::bs) σ':=by
 obtain⟨ns,J,L,M⟩:=aAT q u z hd;exact .op o.dst J L (MO I) rfl M k
def oZ (v:Value):Exit:=.panic [{ v,recovered:=false }]
structure Ci (P:Program) (ops:Array Oper) (l:List Oper) (σ:Am) (K:Exit→Am→Prop):Prop where
 run:∀(ro:Option Nat) (l2:List Oper) (Q:Exit→Act→World→Prop) (C:ES) (ok:Nat→Prop) (H:List BO) (a:Act) (w:World),Holds C ok H σ a w→
  ((∀σ' ok' H' a' w',K .normal σ'→Holds C ok' H' σ' a' w'→wpListIn (J3 ro) 0 P ops Q l2 a' w')∧(∀v σ' ok' H' a' w',K (oZ v) σ'→Holds C ok' H' σ' a' w'→Q (oZ v) a' w'))→wpListIn (J3 ro) 0 P ops Q (l++l2) a w
section
variable {P : Program} {ops : Array Oper} {o : Oper} {rest l : List Oper} {σ : Am} {K : Exit → Am → Prop}
def Ci.nil (h:K .normal σ):Ci P ops [] σ K:=⟨fun _ _ _ _ _ _ _ _ j q=>q.1 _ _ _ _ _ h j⟩
def Ci.bU {M:Am→Prop} (h:M σ):Ci P ops [] σ (KZ M K):=.nil h
def Ci.step {x:AV} {E:List BA} {bar:Bool} (hs:RV P ops σ x E bar o) (k:Ci P ops rest (σ.put o.dst x E) K):Ci P ops (o::rest) σ K:=by
 refine⟨fun ro q Q C ok H a w j L=>?_⟩;show wpListIn (J3 ro) 0 P ops Q (o::(rest++q)) a w;unfold wpListIn;rcases hs.1 with⟨ns,M,O,_,u⟩|⟨rfl,rfl,u⟩
 ·rw[CS (Pe j u)];refine Rh ?_ (M.inR ro C ok H a w Q j.mem (fun n z=>Qs O n z▸j.get n.1));rintro a' w' ⟨v,ok',H',rfl,I,J,hm,U⟩;exact k.run ro q Q C _ _ _ _ (j.put o.dst I J hm U) L
 rw[CY (by rw[aKP j u];simp)];exact⟨fun _ _=>trivial,k.run ro q Q C _ _ _ _ (j.put o.dst (.refl _ _) (.refl _) j.mem (.d _ _ (.lit _))) L⟩
def Ci.conv (q:Am) (h:∀C ok H a w,Holds C ok H σ a w→∃ok',Holds C ok' H q a w) (k:Ci P ops l q K):Ci P ops l σ K:=⟨fun ro u Q C ok H a w z I=>by
 obtain⟨ok',j⟩:=h C ok H a w z
 exact k.run ro u Q C _ _ _ _ j I⟩
def Ci.auto (T:Kn P):∀(n:Nat) {l:List Oper} {σ:Am},(I5 T ops n l σ).isSome=true→Ci P ops (l.drop n) (SK (I5 T ops n l σ)) K→Ci P ops l σ K
 |0,l,σ,_,k=>by simpa[I5,SK]using k
 |n+1,l,σ,h,k=>by
  unfold I5 at h k;split at h
  ·rename_i o l';split at h
   ·rename_i r q;split at h
    ·rename_i u rs j;simp only[q,j]at k;refine .step (YZ T q) (Ci.auto T n vG ?_);rw[j];exact k
    cases h
   cases h
  cases h
def Ci.a [T:Kn P] (n:Nat) (k:Ci P ops (l.drop n) (SK (I5 T ops n l σ)) K) (h:(I5 T ops n l σ).isSome=true:=by kernel_rfl):Ci P ops l σ K:=Ci.auto T n h k
def Ci.p {ns:List (Operand×AV)} {x:AV} (h:BU P o ns σ.ents x σ.ents) (k:Ci P ops rest (σ.rZ o.dst x) K) (j:(ns.map fun n=>σ.get n.1)=ns.map (·.2):=by kernel_rfl) (q:Ja ops σ o.guard=some true:=by kernel_rfl) (ht:(Nv ns).all (tmpsOf o).contains=true:=by kernel_rfl):Ci P ops (o::rest) σ K:=
 .step (aVl h (Ud j) (MO q) ht) k
def Ci.e {ns:List (Operand×AV)} {x:AV} {es':List BA} (E:List BA) (h:BU P o ns σ.ents x es') (k:Ci P ops rest (σ.put o.dst x E) K) (j:es'=E:=by kernel_rfl) (q:(ns.map fun n=>σ.get n.1)=ns.map (·.2):=by kernel_rfl) (u:Ja ops σ o.guard=some true:=by kernel_rfl) (ht:(Nv ns).all (tmpsOf o).contains=true:=by kernel_rfl):Ci P ops (o::rest) σ K:=
 .step (bar:=true) ⟨.inl ⟨ns,j▸h,Ud q,ht,MO u⟩,fun h=>Gy⟩ k
def Ci.call {f:FuncId} {dX:List AV} {j:AV} (q:Ar P f dX [] j []) (u:BD P f=true) (k:Ci P ops rest (σ.rZ o.dst (j.up [] σ.ents.length)) K) (z:V4 σ o=some (f,dX):=by kernel_rfl)
 (hd:dX.all AV.Au=true:=by kernel_rfl) (I:Ja ops σ o.guard=some true:=by kernel_rfl):Ci P ops (o::rest) σ K:=by
 obtain⟨ns,J,L,M⟩:=aAT q u z hd;exact .step (aVl J L (MO I) M) k
def Ci.c [T:Kn P] {e c:Bool} (h:some e=some c) (k:Ci P ops rest (σ.rZ o.dst (.d (.lit (.bool c)))) K) (hs:(Vb T ops σ o).map (fun r=>(r.x,r.E,r.bar))=some (.d (.lit (.bool e)),σ.ents,false):=by kernel_rfl):Ci P ops (o::rest) σ K:=by
 rw[Rw]at hs;obtain⟨r,u,j⟩:=hs;have q:=YZ T u;simp only[QL]at j;rw[j.1,j.2.1,j.2.2,CV h]at q;exact .step q k
def Am.wipe (j:List Nat) (σ:Am):Am:=⟨j.foldl (fun l d=>l.set d .junk) σ.slots,σ.ents,σ.base⟩
def Holds.wipe {C:ES} {ok:Nat→Prop} {H:List BO} {a:Act} {w:World}:∀(j:List Nat) {σ:Am},Holds C ok H σ a w→Holds C ok H (σ.wipe j) a w
 | [],σ,h=>h
 |d::j,σ,h=>by
  refine Holds.wipe j (σ:=⟨σ.slots.set d .junk,σ.ents,σ.base⟩) ⟨h.mem,by simpa using h.size,h.defers,h.base,fun t ht=>?_⟩;simp only[dY]at ht;by_cases e:d=t
  ·subst e;have q:(σ.slots.set d .junk).getD d .junk=.junk:=aOt
   rw[q];exact .junk _
  have q:(σ.slots.set d .junk).getD t .junk=σ.slots.getD t .junk:=aKD
  rw[q];exact h.slot t ht
def ag8 (n:Nat) (l j:List Oper):l++j=l.take n++(l.drop n++j):=by
 rw[←Hw,Qb]
def Ci.join (n:Nat) (M:Am→Prop) (z:∀s,M s→Ci P ops (l.drop n) s K) (I:Ci P ops (l.take n) σ (KZ M K)):Ci P ops l σ K:=⟨fun ro q Q C ok H a w J u=>by
 rw[ag8 n l q]
 exact I.run ro _ Q C ok H a w J ⟨fun σ' ok' H' a' w' L j=>(z σ' L).run ro q Q C ok' H' a' w' j u,u.2⟩⟩
def Ci.merge (n:Nat) (j:List Nat) (d:Nat) (x:AV) (u:Ci P ops (l.take n) σ (KZ (fun s=>s.wipe j=(σ.wipe j).rZ (some d) x) K)) (z:Ci P ops (l.drop n) ((σ.wipe j).rZ (some d) x) K):Ci P ops l σ K:=
 .join n _ (fun s hs=>⟨fun ro I Q C ok H a w J L=>by
  have e:s.wipe j=(σ.wipe j).rZ (some d) x:=hs;have q:=J.wipe j;rw[e]at q
  exact z.run ro I Q C ok H a w q L⟩) u
def BJ {id:Nat} {Q:Exit→Am→Prop} (h:Ci P ops ops.toList σ Q):AQ P (.region id ops false) σ Q:=⟨fun ro _ C ok H a w u=>by
 refine aPe ?_;have :=h.run ro [] (fun e a' w'=>∃ok' H' σ',Holds C ok' H' σ' a' w'∧Q e σ') C ok H a w u ⟨fun σ' ok' H' a' w' q j=>⟨ok',H',σ',j,q⟩,fun v σ' ok' H' a' w' q j=>⟨ok',H',σ',j,q⟩⟩
 rwa [Oe]at this⟩
def AP {id:Nat} {y:Code} {Q:Exit→Am→Prop} (h:Ci P ops ops.toList σ (KZ (fun s=>AQ P y s Q) Q)):AQ P (.seq (.region id ops false) y) σ Q:=
 AQ.seq (fun s=>AQ P y s Q) (BJ h) (fun _ h=>h)
end
def BM (n:Nat) (l:List (Nat×AV)):List AV:=(List.range n).map fun i=>(QJ i l).getD .junk
def mk (n w:Nat):List Bool:=(List.range n).map fun i=>Nat.testBit w i
def aq0 {σ S:Am} (m:List Bool) (π:List (Nat×Bool)) (j:VH σ.base σ.ents π=true:=by kernel_rfl) (q:S=⟨LD π m σ.slots,SL σ.ents π,σ.base⟩:=by kernel_rfl):CX σ S:=aDU.sub ⟨m,π,j,q⟩
inductive MQ (P:Program) where
 |call (i:Nat) (f:FuncId) (dX:List AV) (res:AV) (run:Ar P f dX [] res []) (ent:BD P f=true) (dat:dX.all AV.Au=true)
 |dat (i:Nat) (op:Op) (ns:List (Operand×AV)) (x:AV) (h:∀(o:Oper) (es:List BA),o.op=op→BU P o ns es x es)
 |at_ (i:Nat) (op:Op) (ns:List (Operand×AV)) (k:Nat) (e:BA) (x:AV) (h:∀(o:Oper) (es:List BA),es[k]? =some e→o.op=op→BU P o ns es x es)
 |fix (i:Nat) (op:Op) (ns:List (Operand×AV)) (es:List BA) (x:AV) (E:List BA) (h:∀(o:Oper),o.op=op→BU P o ns es x E)
def MQ.ix {P:Program}:MQ P→Nat
 | .call i .. =>i
 | .dat i .. =>i
 | .at_ i .. =>i
 | .fix i .. =>i
inductive YA where
 |call (c:Option (FuncId×List AV))
 |dat (op:Op) (vs:List AV)
 |at_ (op:Op) (vs:List AV) (e:Option BA)
 |fix (op:Op) (vs:List AV) (es:List BA)
def aHx {P:Program} (i:Nat):List (MQ P)→Option (MQ P)
 | []=>none
 |c::l=>match Nat.beq i c.ix with |true=>some c|false=>aHx i l
section
variable {P : Program}
def sZ (σ:Am) (o:Oper):MQ P→Am×Option YA
 | .call _ _ _ j _ _ _=>(σ.rZ o.dst (j.up [] σ.ents.length),some (.call (V4 σ o)))
 | .dat _ _ ns x _=>(σ.rZ o.dst x,some (.dat o.op (ns.map fun n=>σ.get n.1)))
 | .at_ _ _ ns k _ x _=>(σ.rZ o.dst x,some (.at_ o.op (ns.map fun n=>σ.get n.1) σ.ents[k]?))
 | .fix _ _ ns _ x E _=>(σ.put o.dst x E,some (.fix o.op (ns.map fun n=>σ.get n.1) σ.ents))
def oO :MQ P→YA
 | .call _ f dX _ _ _ _=>.call (some (f,dX))
 | .dat _ op ns _ _=>.dat op (ns.map (·.2))
 | .at_ _ op ns _ e _ _=>.at_ op (ns.map (·.2)) (some e)
 | .fix _ op ns es _ _ _=>.fix op (ns.map (·.2)) es
def Vz (T:Kn P) (L:List (MQ P)) (ops:Array Oper) (σ:Am) (i:Nat):Option (Am×Option YA):=
 match ops[i]? with
 |none=>none
 |some o=>match aHx i L with
  |some c=>match Ja ops σ o.guard with
   |some true=>some (sZ σ o c)
   |_=>none
  |none=>match Vb T ops σ o with
   |some r=>some (σ.put o.dst r.x r.E,none)
   |none=>none
def MI (T:Kn P) (L:List (MQ P)) (ops:Array Oper) (σ:Am):List Nat→Am
 | []=>σ
 |i::l=>match Vz T L ops (MI T L ops σ l) i with
  |some (σ',_)=>σ'
  |none=>σ
def Zg (ops:Array Oper) (m:List Nat) (i:Nat):Bool:=match ops[i]? with
 |some o=>o.after.toList.all fun e=> !Region.binds .any e||(m.contains e.on&&decide (e.on<ops.size))
 |none=>false
def aLU (ops:Array Oper) (N:List (List Nat)) (F:List Nat) (k:Nat) (m:List Nat) (T:List (Nat×Nat×Nat)):Bool:=
 ((List.range ops.size).all fun i=>m.contains i|| !Zg ops m i||
   T.any fun t=>t.2.1==i&&decide (t.2.2<N.length)&&(fun q=>(List.range ops.size).all fun j=>q.contains j==(m.contains j||j==i)) (N.getD t.2.2 []))&&
 (F.contains k||(List.range ops.size).any fun i=> !m.contains i&&Zg ops m i)
def zo (ops:Array Oper) (N:List (List Nat)) (F:List Nat):Nat→List (List Nat)→List (Nat×Nat×Nat)→Bool
 |_,[],_=>true
 |k,m::M,Tr=>aLU ops N F k m (Tr.takeWhile fun t=>t.1==k)&&zo ops N F (k+1) M (Tr.dropWhile fun t=>t.1==k)
def xw (ops:Array Oper) (N:List (List Nat)) (Tr:List (Nat×Nat×Nat)) (F:List Nat):Bool:=zo ops N F 0 N Tr
def aRB {α:Type} {p:α→Bool}:∀{l:List α} {x:α},x∈l.takeWhile p→p x=true
 | [],_,h=>IK
 |y::l,x,h=>by
  rw[List.takeWhile_cons]at h;cases j:p y with
  |true=>
   rw[j]at h;rcases EX.1 h with rfl|h
   ·exact j
   exact aRB h
  |false=>rw[j]at h;simp at h
def aYz {ops:Array Oper} {N:List (List Nat)} {F:List Nat}:∀(M:List (List Nat)) (k:Nat) (Tr:List (Nat×Nat×Nat)),zo ops N F k M Tr=true→∀j,j<M.length→
 ∃T,aLU ops N F (k+j) (M.getD j []) T=true∧∀t∈T,t∈Tr∧t.1=k+j
 | [],_,_,_,j,q=>nC
 |m::M,k,Tr,h,j,q=>by
  unfold zo at h;rw[CW]at h;cases j with
  |zero=>exact⟨_,h.1,fun t ht=>⟨(List.takeWhile_sublist _).subset ht,by have :=aRB ht;simpa using this⟩⟩
  |succ j=>
   obtain⟨T,z,u⟩:=aYz M (k+1) _ h.2 j MV;refine⟨T,?_,fun t ht=>⟨(aKK _).subset (u t ht).1,?_⟩⟩
   ·rw[show k+(j+1)=k+1+j by omega];simpa using z
   rw[(u t ht).2];omega
def XT (L:List (MQ P)) (i:Nat):Option YA:=(aHx i L).map oO
def aiA (T:Kn P) {L:List (MQ P)} {ops:Array Oper} {σ σ':Am} {i:Nat} {o:Oper} (I:ops[i]? =some o) (h:Vz T L ops σ i=some (σ',XT L i)):
 ∃x E,((∃ns,BU P o ns σ.ents x E∧needs σ ns∧Wi ops σ o.guard)∨(x=.d (.lit undef)∧E=σ.ents∧Xw ops σ o.guard))∧σ'=σ.put o.dst x E:=by
 unfold Vz XT at h;rw[I]at h;simp only at h;split at h
 ·rename_i c J;split at h
  ·rename_i q;simp only[J,Ii,LQ]at h;cases c with
   |call i f dX M run ent dat=>
    simp only[sZ,oO,QL,LQ,YA.call.injEq]at h;obtain⟨ns,u,z,U⟩:=aAT run ent h.2 dat;exact⟨_,_,.inl ⟨ns,u,z,MO q⟩,h.1.symm⟩
   |dat i op ns x j=>
    simp only[sZ,oO,QL,LQ,YA.dat.injEq]at h;exact⟨_,_,.inl ⟨ns,j o _ h.2.1,Ud h.2.2,MO q⟩,h.1.symm⟩
   |at_ i op ns k e x j=>
    simp only[sZ,oO,QL,LQ,YA.at_.injEq]at h;exact⟨_,_,.inl ⟨ns,j o _ h.2.2.2 h.2.1,Ud h.2.2.1,MO q⟩,h.1.symm⟩
   |fix i op ns es x E j=>
    simp only[sZ,oO,QL,LQ,YA.fix.injEq]at h;exact⟨_,_,.inl ⟨ns,h.2.2.2▸j o h.2.1,Ud h.2.2.1,MO q⟩,h.1.symm⟩
  cases h
 split at h
 ·rename_i r O;simp only[LQ,QL]at h;obtain⟨u,z⟩:=YZ T O;refine⟨_,_,?_,h.1.symm⟩;rcases u with⟨ns,a,b,_,c⟩|⟨a,b,c⟩
  ·exact .inl ⟨ns,a,b,c⟩
  exact .inr ⟨a,b,c⟩
 cases h
def rJ (s t:Am):Prop:=∀C ok H a w,Holds C ok H s a w→∃ok' H',Holds C ok' H' t a w
def ak4 (s:Am):rJ s s:=fun _ ok H _ _ h=>⟨ok,H,h⟩
def fK {s t:Am} (h:CX s t):rJ s t:=h
def AQ.nodes (T:Kn P) {id:Nat} {ops:Array Oper} {σ:Am} {Q:Exit→Am→Prop} (L:List (MQ P)) (N:List (List Nat)) (Tr:List (Nat×Nat×Nat)) (F:List Nat) (fin:Am) (hm:P.follows .mixedOrders=true) (hN:xw ops N Tr F=true) (h0:N.getD 0 [0]=[])
 (hT:(Tr.map fun t=>Vz T L ops (MI T L ops σ (N.getD t.1 [])) t.2.1)=Tr.map fun t=>some (MI T L ops σ (N.getD t.2.2 []),XT L t.2.1))
 (hF:QT (fun k=>rJ (MI T L ops σ (N.getD k [])) fin) F) (hQ:Q .normal fin):AQ P (.region id ops true) σ Q:=by
 refine⟨fun ro _ C ok H a w q=>?_⟩;refine wpIn_region_any hm ?_
 let S:Nat→Am:=fun k=>MI T L ops σ (N.getD k [])
 let I:Array Bool→Act→World→Prop:=fun l a w=>l.size=ops.size∧∃k ok H,k<N.length∧(∀i,i<ops.size→l.getD i false=(N.getD k []).contains i)∧Holds C ok H (S k) a w
 have hNN:∀k,k<N.length→(((List.range ops.size).all fun i=>(N.getD k []).contains i|| !Zg ops (N.getD k []) i||
  Tr.any fun t=>t.1==k&&t.2.1==i&&decide (t.2.2<N.length)&&(List.range ops.size).all fun j=>(N.getD t.2.2 []).contains j==((N.getD k []).contains j||j==i))&&
  (F.contains k||(List.range ops.size).any fun i=> !(N.getD k []).contains i&&Zg ops (N.getD k []) i))=true:=fun k hk=>by
  obtain⟨T,J,O⟩:=aYz N 0 Tr hN k hk;unfold aLU at J;rw[JJ,CW,DY]at J;rw[CW,DY];refine⟨fun i hi=>?_,J.2⟩;have u:=J.1 i hi;rw[XJ]at u ⊢;rcases u with u|u
  ·exact .inl u
  obtain⟨t,ht,h4⟩:=Gn.1 u;obtain⟨Z,U⟩:=O t ht;rw[JJ]at U;refine .inr (Gn.2 ⟨t,Z,?_⟩);rw[show(t.1==k)=true by simpa using U,GL];exact h4
 refine aNf I (fun l a w h=>h.1) ?_ ?_ ops.size _ _ _ ?_ ?_
 ·rintro l a w ⟨J,k,ok,H,hk,hl,q⟩ i hi;unfold Region.ready at hi;rw[FU]at hi;obtain⟨hi1,hi2⟩:=hi;have hi':i<ops.size:=by simpa using hi1
  have ho:ops[i]? =some ops[i]:=by simp[hi']
  simp only[CW]at hi2;have z:=hi2.2;rw[ho]at z;simp only[Ii,MK]at z;have Y:=fun e he=>(U3.1 z) e he
  have hself:l.getD i false=false:=by
   have h8:=hi2.1;have hil:i<l.size:=AA
   simp[Array.getD,hil]at h8 ⊢;exact h8
  have hnc:(N.getD k []).contains i=false:=by rw[←hl i hi'];exact hself
  have hrd:Zg ops (N.getD k []) i=true:=by
   unfold Zg;rw[ho];simp only[DY];intro e he;have h9:=Y e aAV;cases hb:Region.binds .any e with
   |false=>simp
   |true=>
    simp only[hb,EF,NJ]at h9 ⊢;by_cases hon:e.on<ops.size
    ·rw[←hl e.on hon,h9];simp[hon]
    have :l.getD e.on false=false:=by simp[Array.getD,show ¬e.on<l.size by omega]
    rw[this]at h9;cases h9
  have O:=hNN k hk;simp only[CW,DY]at O;have u:=O.1 i (by simpa using hi');rw[hnc,hrd]at u;simp only[EF,Bool.or_self,NJ,Gn]at u;obtain⟨⟨k',M,t⟩,htm,h4⟩:=u;simp only[CW,Lm,Gg,DY]at h4;obtain⟨⟨⟨rfl,rfl⟩,ht⟩,Z⟩:=h4;have U:Vz T L ops (S k') M=some (S t,XT L M):=List.map_inj_left.1 hT (k',M,t) htm;obtain⟨x,E,hs,he⟩:=aiA T ho U
  have hnew:∀(a':Act) (w':World) (ok':Nat→Prop) (H':List BO),Holds C ok' H' ((S k').put ops[M].dst x E) a' w'→I (l.setIfInBounds M true) a' w':=by
   intro a' w' ok' H' hp;refine⟨by simp[J],t,ok',H',ht,fun j hj=>?_,he▸hp⟩;have h7:=Z j (by simpa using hj);rw[h7,←hl j hj];by_cases hij:M=j
   ·subst hij;simp[Array.getD,J,hj]
   have :(j==M)=false:=Dh
   rw[this,LC];simp only[Ih,O8 hij]
  unfold wpOpIn;rw[ho];show if Region.wanted ops[M] (yielded ops a.tmps)=true then _ else _
  rcases hs with⟨ns,hop,amT,hg⟩|⟨rfl,rfl,hg⟩
  ·rw[CS (Pe q hg)];refine Rh ?_ (hop.inR ro C ok H a w _ q.mem (fun n hn'=>Qs amT n hn'▸q.get n.1));rintro a' w' ⟨v,ok',H',rfl,hgr,hnn,hm',hx⟩;exact hnew _ _ _ _ (q.put ops[M].dst hgr hnn hm' hx)
  rw[CY (by rw[aKP q hg];simp)];exact⟨fun _ _=>trivial,hnew _ _ _ _ (q.put ops[M].dst (.refl _ _) (.refl _) q.mem (.d _ _ (.lit _)))⟩
 ·rintro l a w ⟨J,k,ok,H,hk,hl,q⟩ hr;have O:=hNN k hk;simp only[CW,XJ]at O
  have hFk:k∈F:=by
   rcases O.2 with h|h
   ·simpa using h
   rw[Gn]at h;obtain⟨i,hi,u⟩:=h;simp only[qg]at hi;simp only[CW,MF]at u;obtain⟨h4,Z⟩:=u;have ho:ops[i]? =some ops[i]:=Tf
   have hmem:i∈Region.ready .any ops l:=by
    unfold Region.ready;rw[FU];refine⟨G9,?_⟩;have hf:l.getD i false=false:=by rw[hl i hi];exact h4
    have hil:i<l.size:=AA
    have hf':l.getD i true=false:=aPa
    rw[hf',ho];simp only[Io,GL,Ii,MK];rw[U3];intro e he;unfold Zg at Z;rw[ho]at Z;simp only[DY]at Z;have U:=Z e aAV;cases hb:Region.binds .any e with
    |false=>simp
    |true=>
     simp only[hb,EF,NJ]at U ⊢;rw[CW,Gg]at U;rw[hl e.on U.2];exact U.1
   rw[hr]at hmem;simp at hmem
  obtain⟨ok',H',u⟩:=hF.mem k hFk C ok H a w q;exact⟨ok',H',fin,u,hQ⟩
 ·unfold toCome;simp
 refine⟨BF,0,ok,H,?_,fun i hi=>?_,?_⟩
 ·cases N with
  |nil=>cases h0
  |cons x l=>simp
 ·have e:N.getD 0 []=[]:=by
   cases N with
   |nil=>rfl
   |cons x l=>simpa using h0
  rw[e];simp[Array.getD]
 have e:S 0=σ:=by
  show MI T L ops σ (N.getD 0 [])=σ;cases N with
  |nil=>rfl
  |cons x l=>have :x=[]:=by simpa using h0
             subst this;rfl
 rw[e];refine⟨⟨⟨q.mem.fr.os,q.mem.fr.tape,q.mem.fr.output,q.mem.fr.size,q.mem.fr.block⟩,q.mem.yR,q.mem.yS,q.mem.kP,q.mem.names,q.mem.hlen,fun k e h J O=>(q.mem.ent k e h J O).drew,q.mem.blk,q.mem.DU⟩,q.size,q.defers.mono (fun b hb=>⟨hb,rfl⟩),q.base,fun t ht=>R.mono (w:=w) (ok:=ok) (w':={ w with drawn:=w.drawn+1 }) (fun b hb=>⟨hb,rfl⟩) (.refl _) (q.slot t ht)⟩
def aFJ {f:FuncId} {dX:List AV} {j:AV} (i:Nat) (run:Ar P f dX [] j []) (ent:BD P f=true) (dat:dX.all AV.Au=true:=by kernel_rfl):MQ P:=.call i f dX j run ent dat
def aCc {ns:List (Operand×AV)} {x:AV} (i:Nat) (op:Op) (k:Nat) (e:BA) (h:∀(o:Oper) (es:List BA),es[k]? =some e→o.op=op→BU P o ns es x es):MQ P:=.at_ i op ns k e x h
def aUb {ns:List (Operand×AV)} {x:AV} (i:Nat) (op:Op) (es E:List BA) (h:∀(o:Oper),o.op=op→BU P o ns es x E):MQ P:=.fix i op ns es x E h
section
variable [T : Kn P] {id : Nat} {ops : Array Oper} {σ : Am} {Q : Exit → Am → Prop} {y : Code}
def AQ.aFg (L:List (MQ P)) (N:List (List Nat)) (Tr:List (Nat×Nat×Nat)) (j:Nat) (q:AQ P y (MI T L ops σ (N.getD j [])) Q) (hm:P.follows .mixedOrders=true:=by kernel_rfl) (u:xw ops N Tr [j]=true:=by kernel_rfl) (z:N.getD 0 [0]=[]:=by kernel_rfl)
 (I:(Tr.map fun t=>Vz T L ops (MI T L ops σ (N.getD t.1 [])) t.2.1)=Tr.map fun t=>some (MI T L ops σ (N.getD t.2.2 []),XT L t.2.1):=by kernel_rfl):AQ P (.seq (.region id ops true) y) σ Q:=
 AQ.seq1 _ (AQ.nodes T L N Tr [j] _ hm u z I ⟨ak4 _,trivial⟩ rfl) q
def AQ.aFh (L:List (MQ P)) (N:List (List Nat)) (Tr:List (Nat×Nat×Nat)) (F:List Nat) (j:Am) (q:QT (fun k=>rJ (MI T L ops σ (N.getD k [])) j) F) (u:AQ P y j Q) (hm:P.follows .mixedOrders=true:=by kernel_rfl) (z:xw ops N Tr F=true:=by kernel_rfl) (I:N.getD 0 [0]=[]:=by kernel_rfl)
 (J:(Tr.map fun t=>Vz T L ops (MI T L ops σ (N.getD t.1 [])) t.2.1)=Tr.map fun t=>some (MI T L ops σ (N.getD t.2.2 []),XT L t.2.1):=by kernel_rfl):AQ P (.seq (.region id ops true) y) σ Q:=
 AQ.seq1 j (AQ.nodes T L N Tr F j hm z I J q rfl) u
end
end
section
variable {P : Program} {ops : Array Oper} {es : List BA}
def Yf (n:Nat) (sl:List Nat):List (Nat×Nat):=sl.flatMap fun i=>((List.range (n+1)).filter fun m=>decide (i≤m)).map fun m=>(i,m)
def qI (ops:Array Oper) (σ:Am) (rs:List AV) (ess:List (List BA)) (i:Nat):Am:=FY ops σ (fun i=>rs.getD i .junk) (fun i=>ess.getD i []) i
def aFC (T:Kn P) (ops:Array Oper) (σ:Am) (rs:List AV) (ess:List (List BA)) (p:Nat×Nat):Option (AV×List BA×Bool):=
 match ops[p.1]? with
 |some o=>(Vb T ops ⟨(qI ops σ rs ess p.1).slots,(qI ops σ rs ess p.2).ents,σ.base⟩ o).map fun r=>(r.x,r.E,r.bar)
 |none=>none
def aSR (T:Kn P) {σ:Am} {rs:List AV} {ess:List (List BA)} {bs:List Bool} {sl:List Nat} (u:(sl.all fun i=> !(bs.getD i false))=true)
 (z:(Yf ops.size sl).map (aFC T ops σ rs ess)=(Yf ops.size sl).map fun p=>some (rs.getD p.1 .junk,(qI ops σ rs ess p.2).ents,false)):
 ∀i,i∈sl→bs.getD i false=false∧∀m,i≤m→m≤ops.size→∀o,ops[i]? =some o→RV P ops ⟨(FY ops σ (fun i=>rs.getD i .junk) (fun i=>ess.getD i []) i).slots,(FY ops σ (fun i=>rs.getD i .junk) (fun i=>ess.getD i []) m).ents,σ.base⟩ (rs.getD i .junk) (FY ops σ (fun i=>rs.getD i .junk) (fun i=>ess.getD i []) m).ents false o:=by
 intro i hi;refine⟨by have :=DY.1 u i hi;simpa using this,fun m J O o L=>?_⟩
 have hp:(i,m)∈Yf ops.size sl:=by
  unfold Yf;rw[SI];exact⟨i,hi,E5.2 ⟨m,FU.2 ⟨Dh,Rs⟩,rfl⟩⟩
 have j:=List.map_inj_left.1 z (i,m) hp;unfold aFC at j;rw[L]at j;simp only[Rw]at j;obtain⟨r,M,q⟩:=j;have I:=YZ T M;simp only[QL]at q;rw[q.1,q.2.1,q.2.2]at I;exact I
def AQ.aFi [T:Kn P] {id:Nat} {σ σ':Am} {Q:Exit→Am→Prop} {rs:List AV} {ess:List (List BA)} {bs:List Bool} (sl:List Nat) (h:Ep P ops ops.toList σ rs ess bs σ') (I:Q .normal σ') (hm:P.follows .mixedOrders=true:=by kernel_rfl)
 (j:(Vs ops&&X6 ops&&X7 ops σ.slots.length&&Vw ops)=true:=by kernel_rfl) (q:Tt ops bs sl=true:=by kernel_rfl) (u:(sl.all fun i=> !(bs.getD i false))=true:=by kernel_rfl)
 (z:(Yf ops.size sl).map (aFC T ops σ rs ess)=(Yf ops.size sl).map fun p=>some (rs.getD p.1 .junk,(qI ops σ rs ess p.2).ents,false):=by kernel_rfl):AQ P (.region id ops true) σ Q:=
 AQ.awL hm j sl q h (aSR T u z) I
def AQ.aB8 [T:Kn P] {id:Nat} {y:Code} {σ σ':Am} {Q:Exit→Am→Prop} {rs:List AV} {ess:List (List BA)} {bs:List Bool} (sl:List Nat) (h:Ep P ops ops.toList σ rs ess bs σ') (I:AQ P y σ' Q) (hm:P.follows .mixedOrders=true:=by kernel_rfl)
 (j:(Vs ops&&X6 ops&&X7 ops σ.slots.length&&Vw ops)=true:=by kernel_rfl) (q:Tt ops bs sl=true:=by kernel_rfl) (u:(sl.all fun i=> !(bs.getD i false))=true:=by kernel_rfl)
 (z:(Yf ops.size sl).map (aFC T ops σ rs ess)=(Yf ops.size sl).map fun p=>some (rs.getD p.1 .junk,(qI ops σ rs ess p.2).ents,false):=by kernel_rfl):AQ P (.seq (.region id ops true) y) σ Q:=
 AQ.seq1 σ' (AQ.awL hm j sl q h (aSR T u z) rfl) I
def Am.ajF (σ:Am) (k j:Nat) (xs:List D) (cs:List AV):Am:=⟨σ.slots.map (AV.thaw k xs),(σ.ents.set k .dead).set j (.box (cs.map (AV.thaw k xs))),σ.base⟩
def apW {σ:Am} (k j:Nat) {e s:Nat} {xs:List D} {cs:List AV} (hk:σ.ents[k]? =some (.arr e s xs)) (hj:σ.ents[j]? =some (.box cs)) (hl:(cs.map (AV.thaw k xs)).all AV.leaf=true):∀C ok H a w,Holds C ok H σ a w→∃ok',Holds C ok' H (σ.ajF k j xs cs) a w:=by
 intro C ok H a w u;have hkj:k≠j:=fun e=>by subst e;rw[hk]at hj;cases hj
 obtain⟨hd,Z,hok⟩:=GR u.mem.ent u.mem.hlen hk;have hkl:k<σ.ents.length:=(FP.1 hk).1;have hjl:j<(σ.ents.set k .dead).length:=by rw[dY];exact(FP.1 hj).1
 let ok':Nat→Prop:=fun b=>ok b∨Cx hd.v=some b
 have O:=fun b q=>u.mem.blk k _ hd b hk rfl Z q;have hg:ER ok w ok' w:=fun b q=>⟨.inl q,rfl⟩
 have z:∀{x:AV} {v:Value},R ok w H x v→R ok' w H (x.thaw k xs) v:=by
  intro x v hR0;have hR:=hR0.mono hg (Names.refl H);cases x with
  |bn i=>
   simp only[AV.thaw];split
   ·rename_i hi;subst hi;obtain rfl:=O5 hR Z;exact .d _ _ (dD hok (fun b q=>.inl q) (fun b q=>.inr q))
   exact hR
  |lD i i2 off=>
   simp only[AV.thaw];split
   ·exact .junk _
   exact hR
  |_=>exact hR
 have U:∀(i:Nat) (e':BA),((σ.ents.set k .dead).set j (.box (cs.map (AV.thaw k xs))))[i]? =some e'→(i=j∧e'=.box (cs.map (AV.thaw k xs)))∨(i≠j∧((i=k∧e'=.dead)∨(i≠k∧σ.ents[i]? =some e'))):=by
  intro i e' he;rcases LH hjl he with⟨rfl,rfl⟩|⟨h1,h2⟩
  ·exact .inl ⟨rfl,rfl⟩
  refine .inr ⟨h1,?_⟩;rcases LH hkl h2 with⟨rfl,rfl⟩|⟨Y,h4⟩
  ·exact .inl ⟨rfl,rfl⟩
  exact .inr ⟨Y,h4⟩
 have I:∀(i:Nat) (e':BA),((σ.ents.set k .dead).set j (.box (cs.map (AV.thaw k xs))))[i]? =some e'→e'.live=true→i≠k∧∃e0,σ.ents[i]? =some e0∧e0.live=true:=by
  intro i e' he M;rcases U i e' he with⟨rfl,rfl⟩|⟨h1,⟨rfl,rfl⟩|⟨h2,Y⟩⟩
  ·exact⟨Ne.symm hkj,_,hj,rfl⟩
  ·cases M
  exact⟨h2,_,Y,M⟩
 refine⟨ok',⟨u.mem.fr,fun b q=>.inl (u.mem.yR b q),?_,?_,u.mem.names,by simp[Am.ajF,u.mem.hlen],?_,?_,?_⟩,by simp[Am.ajF,u.size],u.defers.mono hg,u.base,?_⟩
 ·rintro b (q|q)
  ·exact u.mem.yS b q
  exact .inr (O b q).2.2
 ·rintro b (q|q)
  ·exact u.mem.kP b q
  exact(O b q).2.1
 ·intro i e' h' he J;rcases U i e' he with⟨rfl,rfl⟩|⟨_,⟨rfl,rfl⟩|⟨_,he'⟩⟩
  ·obtain⟨b,vs,T,h1,h2,Y,h4⟩:=u.mem.ent i _ h' hj J;refine⟨b,vs,T,h1,h2,Vl,fun n hn=>?_⟩;rw[CG]at hn;rw[SY _ _ _ hn];refine⟨?_,z (h4 n hn).2⟩;rw[DY]at hl;exact hl _ (E5.2 ⟨_,by simp[List.getD,hn],rfl⟩)
  ·trivial
  exact(u.mem.ent i e' h' he' J).mono hg (.refl _) (fun _ _ _=>rfl)
 ·intro i e' h' b he M J q;obtain⟨hik,e0,he0,hl0⟩:=I i e' he M;have Y:=u.mem.blk i e0 h' b he0 hl0 J q;refine⟨fun L=>?_,Y.2⟩;rcases L with L|L
  ·exact Y.1 L
  exact hik (u.mem.DU i k e0 _ h' hd b he0 hk hl0 rfl J Z q L)
 ·intro i i' e1 e2 h1 h2 b he1 he2 hl1 hl2 hh1 hh2 hb1 hb2;obtain⟨_,e1',ar5,aGm⟩:=I i e1 he1 hl1;obtain⟨_,e2',aly,aGn⟩:=I i' e2 he2 hl2;exact u.mem.DU i i' e1' e2' h1 h2 b ar5 aly aGm aGn hh1 hh2 hb1 hb2
 intro t ht;simp only[Am.ajF,CG]at ht
 have e1:(σ.ajF k j xs cs).slots.getD t .junk=(σ.slots.getD t .junk).thaw k xs:=by
  simp only[Am.ajF];exact SY _ _ _ ht
 rw[e1];exact z (u.slot t ht)
def AQ.conv {c:Code} {σ q:Am} {Q:Exit→Am→Prop} (h:∀C ok H a w,Holds C ok H σ a w→∃ok',Holds C ok' H q a w) (k:AQ P c q Q):AQ P c σ Q:=⟨fun ro u C ok H a w z=>by
 obtain⟨ok',j⟩:=h C ok H a w z
 exact k.run ro u C ok' H a w j⟩
end
def aFs (es:List BA) (H:List BO):List Nat:=(es.zip H).filterMap fun p=>if p.1.live then Cx p.2.v else none
def aW4 {es:List BA} {H:List BO} {b:Nat}:b∈aFs es H↔∃(k:Nat) (e:BA) (h:BO),es[k]? =some e∧e.live=true∧H[k]? =some h∧Cx h.v=some b:=by
 unfold aFs;rw[Tj];constructor
 ·rintro⟨⟨e,h⟩,hm,j⟩;obtain⟨k,q⟩:=List.mem_iff_getElem?.1 hm;rw[aUk]at q;split at j
  ·rename_i hl;exact⟨k,e,h,q.1,hl,q.2,j⟩
  cases j
 rintro⟨k,e,h,u,z,I,J⟩;exact⟨(e,h),List.mem_iff_getElem?.2 ⟨k,aUk.2 ⟨u,I⟩⟩,by simp[z,J]⟩
def ES.now (w:World) (ok:Nat→Prop) (es:List BA) (H:List BO):ES:=⟨w,ok,aFs es H,H⟩
section
variable {C : ES} {ok ok' : Nat → Prop} {H H' : List BO} {es es' : List BA} {w w' : World}
def Ch.inner (hm:Ch C ok H es w):Ch (ES.now w ok es H) ok H es w:=
 ⟨.refl _ _,fun _ h=>h,fun _ h=>.inl h,hm.kP,.refl _,hm.hlen,hm.ent,
  fun k e h b j hl q u=>⟨(hm.blk k e h b j hl q u).1,(hm.blk k e h b j hl q u).2.1,.inr (aW4.2 ⟨k,e,h,j,hl,q,u⟩)⟩,hm.DU⟩
def Ch.outer (hm:Ch C ok H es w) (h:Ch (ES.now w ok es H) ok' H' es' w'):ER ok w ok' w'∧Names H H'∧Ch C ok' H' es' w':=by
 have z:∀b,b∈aFs es H→¬ok b∧b<w.heap.size∧(C.w0.heap.size≤b∨b∈C.X):=fun b q=>by
  obtain⟨k,e,hd,j,J,u,U⟩:=aW4.1 q;exact hm.blk k e hd b j J u U
 refine⟨fun b q=>⟨h.yR b q,h.fr.block b (hm.kP b q) fun I=>(z b I).1 q⟩,h.names,⟨h.fr.os.trans hm.fr.os,h.fr.tape.trans hm.fr.tape,h.fr.output.trans hm.fr.output,Ed hm.fr.size h.fr.size,fun k O I=>?_⟩,fun b q=>h.yR b (hm.yR b q),fun b q=>?_,h.kP,hm.names.trans h.names,h.hlen,h.ent,fun k e hd b Y hl Z q=>?_,h.DU⟩
 ·have L:k<w.heap.size:=Uu O hm.fr.size;refine(h.fr.block k L fun M=>?_).trans (hm.fr.block k O I);rcases(z k M).2.2 with j|j
  ·omega
  exact I j
 ·rcases h.yS b q with j|j|j
  ·exact hm.yS b j
  ·exact .inr (.inl (Ed hm.fr.size j))
  exact .inr ((z b j).2.2)
 obtain⟨j,J,u⟩:=h.blk k e hd b Y hl Z q;refine⟨j,J,?_⟩;rcases u with u|u
 ·exact .inl (Ed hm.fr.size u)
 exact(z b u).2.2
def Ch.ajG (hm:Ch C ok H es w) {n:Nat} {e e':BA} {h:BO} {b:Nat} {o:Obj} (J:es[n]? =some e) (hl:e.live=true) (L:H[n]? =some h) (M:Cx h.v=some b) (he:ER ok w ok (w.putObj b o)→Eo ok (w.putObj b o) H h e'):
 Ch C ok H (es.set n e') (w.putObj b o)∧ER ok w ok (w.putObj b o):=by
 obtain⟨O,h2,h3⟩:=hm.blk n e h b J hl L M;have hg:ER ok w ok (w.putObj b o):=fun c j=>⟨j,Xk fun e=>O (e▸j)⟩
 have z:=(FP.1 J).1;refine hm.change (fun c=>c=b) rfl rfl rfl BF (fun c _ j=>Xk j) (fun c j _=>by subst j;exact⟨O,h3⟩) (fun _ h=>h) (fun _ h=>.inl h) (.refl _) (by simpa using hm.hlen) fun k e2 h4 hk q=>?_;rcases LH z hk with⟨rfl,rfl⟩|⟨u,I⟩
 ·right;rw[L]at q;obtain rfl:=CV q;refine⟨he hg,fun _ c j=>?_⟩;rw[M]at j;obtain rfl:=CV j;refine⟨O,uF,h3,fun k' e3 h5 u U Y Z hb3=>?_⟩;rcases LH z U with⟨rfl,_⟩|⟨_,hk4⟩
  ·exact u rfl
  exact u (hm.DU k' _ e3 e h5 h _ hk4 J Y hl Z L hb3 M)
 left;exact⟨I,q,fun hl2 c j hcb=>u (hm.DU k n e2 e h4 h c I J hl2 hl q L j (by rw[hcb];exact M))⟩
def ZK :List Tmp→List AV→List AV→List AV
 |p::j,x::xs,sl=>ZK j xs (sl.set p x)
 |_,_,sl=>sl
def aUL :∀(j:List Tmp) (xs:List AV) (vs:List Value) (sl:List AV) (tm:Array Value),xs.length=j.length→vs.length=j.length→(∀i,i<xs.length→R ok w H (xs.getD i .junk) (vs.getD i undef))→
 tm.size=sl.length→(∀t,t<sl.length→R ok w H (sl.getD t .junk) (tm.getD t undef))→
 ((j.zip vs).foldl (fun t p=>t.setIfInBounds p.1 p.2) tm).size=(ZK j xs sl).length∧∀t,t<(ZK j xs sl).length→R ok w H ((ZK j xs sl).getD t .junk) (((j.zip vs).foldl (fun t p=>t.setIfInBounds p.1 p.2) tm).getD t undef)
 | [],xs,vs,sl,tm,_,_,_,hs,q=>by
   have e:ZK [] xs sl=sl:=by cases xs<;>rfl
   rw[e];exact⟨hs,q⟩
 |p::j,[],vs,sl,tm,h,_,_,_,_=>IK
 |p::j,x::xs,[],sl,tm,_,h,_,_,_=>IK
 |p::j,x::xs,v::vs,sl,tm,J,L,I,hs,q=>by
  refine aUL j xs vs (sl.set p x) (tm.setIfInBounds p v) Rs Vm (fun i hi=>by simpa using I (i+1) G9) ru (fun t ht=>?_);rw[dY]at ht;by_cases e:p=t
  ·subst e;have u:(sl.set p x).getD p .junk=x:=aOt
   have z:(tm.setIfInBounds p v).getD p undef=v:=by simp[Array.getD,hs,ht]
   rw[u,z];simpa using I 0 BF
  have u:(sl.set p x).getD t .junk=sl.getD t .junk:=aKD
  have z:(tm.setIfInBounds p v).getD t undef=tm.getD t undef:=by simp[Ih,O8 e]
  rw[u,z];exact q t ht
end
def Xp :Exit→Option (LoopState×Option Code)
 | .normal=>some (.ready,none)
 | .ret=>some (.done,some .ret)
 | .exit i=>some (.done,some (.exit i))
 |_=>none
section
variable {P : Program} {ops : Array Oper} {o : Oper} {rest l : List Oper} {σ : Am} {K : Exit → Am → Prop}
def aD0 {h:BO} {l:Nat} (e:h.v=.func (.yield l) #[] #[]):Cx h.v=some l:=lV
def Ci.yield {f:Operand} {xs:Array Operand} {ts:Array TypeId} {tm:Array Value} {slots:List AV} {rc:Array Tmp×Code×Code} (k:Nat) (dX:List AV)
 (ho:o.op=.call { callee:=.value f,args:=xs,argTypes:=ts }) (hf:σ.get f=.mp k) (hk:σ.ents[k]? =some (.loop tm slots rc .ready none)) (hx:xs.toList.map σ.get=dX) (I:rc.1.size=xs.size)
 (hg:Ja ops σ o.guard=some true) (J:(Pn rc.2.1&&Pn rc.2.2)=true)
 (h:AQ P rc.2.1 ⟨ZK rc.1.toList dX slots,σ.ents,σ.ents.length⟩ fun e s=>e=.normal∧∃sl,s.ents[k]? =some (.loop tm sl rc .ready none)∧
  AQ P rc.2.2 ⟨s.slots,s.ents.set k (.loop tm sl rc .busy none),s.base⟩ fun e s2=>∃z j,s2.ents[k]? =some (.loop tm z rc .busy none)∧Xp e=some j∧
   Ci P ops rest (Am.rZ ⟨σ.slots,s2.ents.set k (.loop tm z rc j.1 j.2),σ.base⟩ o.dst (.d (.lit (.bool j.2.isNone)))) K):Ci P ops (o::rest) σ K:=by
 rw[CW]at J;refine⟨fun ro l2 Q C ok H a w u L=>?_⟩;show wpListIn (J3 ro) 0 P ops Q (o::(rest++l2)) a w;unfold wpListIn;rw[CS (Pe u (MO hg))];have hv:=hf▸u.get f;obtain⟨hd,M,Y⟩:=GR u.mem.ent u.mem.hlen hk;obtain⟨l,fn,D,e1,e2,e3,e4⟩:=Y
 have Z:a.eval f=.func (.yield l) #[] #[]:=by
  cases hv with
  |mp _ v s hl hH=>
   rw[M]at hH;obtain rfl:=CV hH;exact e1
 have hrun:(execOp a.eval o).run P w=.ok (.round l fn ((rc.1.zip (xs.map a.eval)).foldl (fun tmps (t,a)=>tmps.setIfInBounds t a) tm) rc.2.1 rc.2.2) w:=by
  have :=run_yield (P:=P) e2 (args:=xs.map a.eval) (by simp[I]);simp[execOp,ho,resolve,Z,Deferred.ofValue,invoke,this]
 unfold Oper.wpIn;rw[eM _ _ _ (by rw[ho];intro c h;cases h),hrun,Oper.uponIn_round];refine⟨fun _ _=>trivial,fun h=>Gy,roundIn_of_wpIn trivial ?_⟩
 have hT:(rc.1.zip (xs.map a.eval)).foldl (fun tmps (t,a)=>tmps.setIfInBounds t a) tm=(rc.1.toList.zip (xs.toList.map a.eval)).foldl (fun t p=>t.setIfInBounds p.1 p.2) tm:=by
  rw[←Array.foldl_toList,Array.toList_zip,Array.toList_map]
 rw[hT];have hpl:dX.length=rc.1.toList.length:=by rw[←hx];simp[I]
 obtain⟨p1,p2⟩:=aUL (ok:=ok) (w:=w) (H:=H) rc.1.toList dX (xs.toList.map a.eval) slots tm hpl (by simp[I]) (fun i hi=>by
  have hi':i<xs.toList.length:=by rw[←hx]at hi;simpa using hi
  have hi2:i<xs.size:=by simpa using hi'
  have U:dX.getD i .junk=σ.get xs.toList[i]:=by rw[←hx];simp[List.getD,hi2]
  have q2:(xs.toList.map a.eval).getD i undef=a.eval xs.toList[i]:=by simp[List.getD,hi2]
  rw[U,q2];exact u.get _) e3 e4
 have hin:Holds (ES.now w ok σ.ents H) ok H ⟨ZK rc.1.toList dX slots,σ.ents,σ.ents.length⟩ { tmps:=(rc.1.toList.zip (xs.toList.map a.eval)).foldl (fun t p=>t.setIfInBounds p.1 p.2) tm,defers:=[] } w:=
  ⟨u.mem.inner,p1,.nil _ _ _,u.mem.hlen,p2⟩
 show Code.wpIn (J3 (some l)) 0 P _ _ _ _;refine Uo (h.run (some l) (.inr J.1) _ _ _ _ _ hin) ?_;rintro e a1 w1 ⟨ok1,H1,s1,q,rfl,sl,hs1,h2⟩;obtain⟨g1,n1,m1⟩:=u.mem.outer q.mem;have hk1:=n1 k hd M;obtain⟨l',fn',D',U,q2,q3,q4⟩:=q.mem.ent k _ hd hs1 hk1;have O:l'=l:=by rw[e1]at U;cases U;rfl
 subst O
 obtain⟨m2,g2⟩:=q.mem.ajG (o:=.loop { state:=.busy,pending:=none,fn:=fn',tmps:=tm,params:=rc.1,assign:=rc.2.1,body:=rc.2.2,defers:=D' }) (e':=.loop tm sl rc .busy none) hs1 rfl hk1 (aD0 U)
  (fun g=>⟨l',fn',D',U,X5 (GX.1 q2).1,q3,fun t ht=>(q4 t ht).mono g (.refl _)⟩)
 refine⟨_,run_beginRound q2 rfl,?_⟩;refine Uo (h2.run (some l') (.inr J.2) _ _ _ _ _ ⟨m2,q.size,q.defers.mono g2,q.base,fun t ht=>(q.slot t ht).mono g2 (.refl _)⟩) ?_;rintro e a2 w3 ⟨ok2,H2,s2,hh2,z,j,hs2,hj,hL⟩;obtain⟨g3,n3,m3⟩:=u.mem.outer hh2.mem;have hk2:=n3 k hd M;obtain⟨l3,fn3,D3,r1,r2,r3,r4⟩:=hh2.mem.ent k _ hd hs2 hk2;have O:l3=l':=by rw[e1]at r1;cases r1;rfl
 subst O
 have key:j.1=(if j.2.isNone then LoopState.ready else .done)→∃v w',(Instr.endRound l3 j.2).run P w3=.ok v w'∧wpListIn (J3 ro) 0 P ops Q (rest++l2) (a.put o.dst v) w':=by
  intro hst
  obtain⟨m4,g4⟩:=m3.ajG (o:=.loop { state:=(if j.2.isNone then LoopState.ready else .done),pending:=j.2,fn:=fn3,tmps:=tm,params:=rc.1,assign:=rc.2.1,body:=rc.2.2,defers:=D3 }) (e':=.loop tm z rc j.1 j.2) hs2 rfl hk2 (aD0 r1)
   (fun g=>⟨l3,fn3,D3,r1,by rw[hst];exact X5 (GX.1 r2).1,r3,fun t ht=>(r4 t ht).mono g (.refl _)⟩)
  refine⟨_,_,run_endRound j.2 r2,hL.run ro l2 Q C _ _ _ _ (Holds.put (σ:=⟨σ.slots,s2.ents.set k (.loop tm z rc j.1 j.2),σ.base⟩) ⟨m4,u.size,u.defers.mono (g3.trans g4),u.base,fun t ht=>(u.slot t ht).mono (g3.trans g4) n3⟩ o.dst (.refl _ _) (.refl _) m4 (.d _ _ (.lit _))) L⟩
 cases e with
 |normal=>obtain rfl:=CV hj;exact key rfl
 |ret=>obtain rfl:=CV hj;exact key rfl
 |exit i=>obtain rfl:=CV hj;exact key rfl
 |_=>cases hj
def AQ.ayJ {Q:Exit→Am→Prop} {g:Operand} {Y:Array Tmp} {assign body c:Code} {gf:FuncId} {fn:Func} (q:List AV) (hg:∀(C:ES) (ok:Nat→Prop) (H:List BO) (a:Act) (w:World),Holds C ok H σ a w→R ok w H (.fn (.func gf) [] q) (a.eval g)) (hf:P.funcs[gf]? =some fn) (he:BD P gf=true) (J:fn.body=some c) (hres:fn.results= #[])
 (h:∀tm,AQ P c ⟨(.mp σ.ents.length::q)++List.replicate (fn.ntmps-(q.length+1)) .junk,σ.ents++[.loop tm σ.slots (Y,assign,body) .ready none],σ.ents.length+1⟩ fun e s=>(e=.normal∨e=.ret)∧
  ∃sl j x,s.ents[σ.ents.length]? =some (.loop tm sl (Y,assign,body) j.1 j.2)∧Xp x=some j∧Q x ⟨σ.slots,s.ents.set σ.ents.length .dead,σ.base⟩):AQ P (.rangeFunc g Y assign body) σ Q:=by
 refine⟨fun ro hr C ok H a w u=>?_⟩;obtain rfl:ro=none:=hr.resolve_right (by simp[Pn]);have hv:=hg C ok H a w u;generalize hav:a.eval g=v at hv;cases hv with
 |fn _ _ _ vs us hl1 hl2 h1 h2=>
  obtain rfl:vs= #[]:=WX (by simpa using hl1);refine wpIn_rangeFunc ?_;intro fnm _;obtain⟨M,hrec⟩:∃M:Loop,M={ state:=.ready,pending:=none,fn:=fnm,tmps:=a.tmps,params:=Y,assign,body,defers:=w.heap.size }:=⟨_,rfl⟩
  obtain⟨I,L⟩:∃I,(w.alloc (.deferred (some []))).alloc (.loop M)=I:=⟨_,rfl⟩
  have hsz:I.heap.size=w.heap.size+2:=by rw[←L];simp
  have hL:I.heap[w.heap.size+1]? =some (.loop M):=by
   rw[←L];have :=kn (w.alloc (.deferred (some []))) (.loop M);rwa [aOQ]at this
  have hD:I.heap[w.heap.size]? =some (.deferred (some [])):=by
   rw[←L];exact(Js _ _ _ BF).trans (kn w _)
  have hold:∀b,b<w.heap.size→I.heap[b]? =w.heap[b]? :=fun b J=>by
   rw[←L];exact(Js _ _ _ Dh).trans (Js _ _ _ J)
  have hos:I.os=w.os∧I.tape=w.tape∧I.output=w.output:=by rw[←L];exact⟨rfl,rfl,rfl⟩
  obtain⟨hd,hhd⟩:∃hd:BO,hd=⟨.func (.yield (w.heap.size+1)) #[] #[],0⟩:=⟨_,rfl⟩
  have Z:hd.v=.func (.yield (w.heap.size+1)) #[] #[]:=by rw[hhd]
  have hgr:ER ok w (fun b=>ok b∨b=w.heap.size) I:=fun b J=>⟨.inl J,hold b (u.mem.kP b J)⟩
  have hHn:(H++[hd])[σ.ents.length]? =some hd:=by rw[←u.mem.hlen];simp
  obtain⟨m2,g2⟩:=u.mem.change (ok':=fun b=>ok b∨b=w.heap.size) (H':=H++[hd]) (es':=σ.ents++[.loop a.tmps σ.slots (Y,assign,body) .ready none]) (w':=I) (fun _=>False) hos.1 hos.2.1 hos.2.2 AA (fun b J _=>hold b J) (fun _ h=>h.elim)
   (fun _ h=>.inl h) (fun b J=>J.imp id fun h=>AA) (.push _ _) (by simp[u.mem.hlen]) (fun k e hk he hkk=>by
    rcases X9 he with he'|⟨rfl,rfl⟩
    ·left;have hkl:k<H.length:=by rw[u.mem.hlen];exact(FP.1 he').1
     rw[Gq hkl]at hkk;exact⟨he',hkk,fun _ _ _ h=>h⟩
    right;rw[hHn]at hkk;obtain rfl:=CV hkk;refine⟨⟨w.heap.size+1,fnm,w.heap.size,Z,by rw[hL,hrec],u.size,fun t ht=>(u.slot t ht).mono hgr (.push _ _)⟩,fun _ b J=>?_⟩;rw[aD0 Z]at J;obtain rfl:=CV J;refine⟨fun hx=>?_,AA,.inl (by have :=u.mem.fr.size;omega),fun k' e' h' hne he' hl' O hb'=>?_⟩
    ·rcases hx with hx|hx
     ·have :=u.mem.kP _ hx;omega
     omega
    rcases X9 he' with he2|⟨rfl,_⟩
    ·have hkl:k'<H.length:=by rw[u.mem.hlen];exact(FP.1 he2).1
     rw[Gq hkl]at O;have :=(u.mem.blk k' e' h' _ he2 hl' O hb').2.1;omega
    exact hne rfl)
  have hargs:∀t,t<((.mp σ.ents.length::q)++List.replicate (fn.ntmps-(q.length+1)) .junk:List AV).length→
   R (fun b=>ok b∨b=w.heap.size) I (H++[hd]) (((.mp σ.ents.length::q)++List.replicate (fn.ntmps-(q.length+1)) .junk:List AV).getD t .junk)
     (((#[.func (.yield (w.heap.size+1)) #[] #[]]++us)++Array.replicate (fn.ntmps-(#[.func (.yield (w.heap.size+1)) #[] #[]]++us:Array Value).size) undef:Array Value).getD t undef):=by
   intro t ht;by_cases h0:t<q.length+1
   ·have q1:((.mp σ.ents.length::q)++List.replicate (fn.ntmps-(q.length+1)) .junk:List AV).getD t .junk=(.mp σ.ents.length::q:List AV).getD t .junk:=by
     simp only[List.getD];rw[Gq (by simpa using h0)]
    have q2:((#[.func (.yield (w.heap.size+1)) #[] #[]]++us)++Array.replicate (fn.ntmps-(#[.func (.yield (w.heap.size+1)) #[] #[]]++us:Array Value).size) undef:Array Value).getD t undef=(#[.func (.yield (w.heap.size+1)) #[] #[]]++us:Array Value).getD t undef:=by
     simp only[Ih];rw[Zx Dh]
    rw[q1,q2];cases t with
    |zero=>
     have q3:(#[.func (.yield (w.heap.size+1)) #[] #[]]++us:Array Value).getD 0 undef=.func (.yield (w.heap.size+1)) #[] #[]:=by
      simp only[Ih];rw[Zx BF];rfl
     rw[q3];exact .mp _ _ 0 rfl (by rw[hHn,hhd])
    |succ t=>
     have q3:(#[.func (.yield (w.heap.size+1)) #[] #[]]++us:Array Value).getD (t+1) undef=us.getD t undef:=by
      simp only[Ih];rw[aK3 BF];rfl
     rw[q3];simpa using(h2 t AA).mono hgr (.push _ _)
   have q1:((.mp σ.ents.length::q)++List.replicate (fn.ntmps-(q.length+1)) .junk:List AV).getD t .junk=.junk:=by
    simp only[List.getD];rw[Ju Dh,aNj];split<;>rfl
   rw[q1];exact .junk _
  have hin:Holds (ES.now I (fun b=>ok b∨b=w.heap.size) (σ.ents++[.loop a.tmps σ.slots (Y,assign,body) .ready none]) (H++[hd])) (fun b=>ok b∨b=w.heap.size) (H++[hd])
   ⟨(.mp σ.ents.length::q)++List.replicate (fn.ntmps-(q.length+1)) .junk,σ.ents++[.loop a.tmps σ.slots (Y,assign,body) .ready none],σ.ents.length+1⟩
   { tmps:=(#[.func (.yield (w.heap.size+1)) #[] #[]]++us)++Array.replicate (fn.ntmps-(#[.func (.yield (w.heap.size+1)) #[] #[]]++us:Array Value).size) undef,defers:=[] } I:=
   ⟨m2.inner,by simp[hl2];omega,.nil _ _ _,by simp[ES.now,u.mem.hlen],hargs⟩
  refine⟨w.heap.size+1,[{ target:=.collected w.heap.size,args:= #[] }],I,{ target:=.fn (.func gf) us,args:= #[.func (.yield (w.heap.size+1)) #[] #[]] },I,gf, #[.func (.yield (w.heap.size+1)) #[] #[]]++us,I,?_,?_,fun _ _=>trivial,?_,fun h=>Gy,?_⟩
  ·rw[←L,hrec];exact run_enterLoop_outer _ _ _ _ _
  ·have e9:a.eval (.const (.func (.yield (w.heap.size+1)) #[] #[]))=.func (.yield (w.heap.size+1)) #[] #[]:=rfl;simp[resolve,hav,Deferred.ofValue,e9]
  ·have :=TG he (#[.func (.yield (w.heap.size+1)) #[] #[]]++us) I;simpa[invoke]using this
  refine aOh hf J trivial (Uo ((h a.tmps).run none (.inl rfl) _ _ _ _ _ hin) ?_) rfl;rintro e a' w' ⟨ok',H',s,O,hee,sl,j,x,hs,hj,hQ⟩;obtain⟨Ds,hDs,hnd,hds⟩:=O.defers
  have key:LeavesInM (J3 none) 0 P fn a'.tmps (rangePost (J3 none) 0 P (w.heap.size+1) (fun e a' w'=>∃ok' H' σ',Holds C ok' H' σ' a' w'∧Q e σ') { a with defers:=[{ target:=.collected w.heap.size,args:= #[] }]++a.defers }) a'.defers .returning w':=by
   rw[hDs];refine aJe (P:=P) (C:=ES.now I (fun b=>ok b∨b=w.heap.size) (σ.ents++[.loop a.tmps σ.slots (Y,assign,body) .ready none]) (H++[hd])) m2.kP (fun ok3 a3 w3 h3=>?_) Ds O hds hnd;refine⟨.tuple #[],by simp[results,hres],?_⟩;obtain⟨g3,n3,m3⟩:=m2.outer h3.mem;have hk3:=n3 _ hd hHn;obtain⟨l3,fn3,D3,r1,r2,r3,r4⟩:=h3.mem.ent _ _ hd hs hk3;have hll:l3=w.heap.size+1:=by rw[Z]at r1;cases r1;rfl
   subst hll
   have hnb:j.1≠ .busy:=by
    cases x<;>simp[Xp]at hj<;>rw[←hj]<;>simp
   obtain⟨m4,g4⟩:=m3.ajG (o:=.loop { state:=.exhausted,pending:=j.2,fn:=fn3,tmps:=a.tmps,params:=Y,assign:=assign,body:=body,defers:=D3 }) (e':=.dead) hs rfl hk3 (aD0 Z) (fun _=>trivial);have U:=(g2.trans g3).trans g4
   have z:Holds C ok3 H' ⟨σ.slots,s.ents.set σ.ents.length .dead,σ.base⟩ { a with defers:=[{ target:=.collected w.heap.size,args:= #[] }]++a.defers }
    (w3.putObj (w.heap.size+1) (.loop { state:=.exhausted,pending:=j.2,fn:=fn3,tmps:=a.tmps,params:=Y,assign:=assign,body:=body,defers:=D3 })):=by
    refine⟨m4,u.size,?_,u.base,fun t ht=>(u.slot t ht).mono U ((Names.push _ _).trans n3)⟩;obtain⟨Es,q1,q2,q3⟩:=u.defers.mono U;obtain⟨Fs,p1,p2,p3⟩:=u.defers
    have hEF:Es=Fs:=by
     have :=q1.symm.trans p1;exact(List.map_inj_right (fun a b h=>JZ)).1 this
    subst hEF;refine⟨w.heap.size::Es,by simp[q1],Kr.2 ⟨fun hm=>?_,q2⟩,fun D hDm=>?_⟩
    ·have :=u.mem.kP _ (p3 _ hm).1;omega
    rcases EX.1 hDm with rfl|hDm
    ·have hok2:(fun b=>ok b∨b=w.heap.size) w.heap.size:=.inr rfl;have q4:=(g3.trans g4) _ hok2;exact⟨q4.1,u.mem.fr.size,q4.2.trans hD⟩
    exact q3 D hDm
   refine⟨j.2,_,run_endLoop r2 hnb,?_⟩;cases x with
   |normal=>simp[Xp]at hj;rw[←hj]at z ⊢;exact⟨_,_,_,z,hQ⟩
   |ret=>simp[Xp]at hj;rw[←hj]at z ⊢;exact wpIn_ret ⟨_,_,_,z,hQ⟩
   |exit i=>simp[Xp]at hj;rw[←hj]at z ⊢;exact wpIn_exit ⟨_,_,_,z,hQ⟩
   |_=>cases hj
  rcases hee with rfl|rfl
  ·exact key
  exact key
def AQ.rangeFunc {Q:Exit→Am→Prop} {g:Operand} {z:Array Tmp} {assign body c:Code} {I:FuncId} {fn:Func} (q:List AV) (J:σ.get g=.fn (.func I) [] q) (L:P.funcs[I]? =some fn) (M:BD P I=true) (O:fn.body=some c) (u:fn.results= #[])
 (h:∀tm,AQ P c ⟨(.mp σ.ents.length::q)++List.replicate (fn.ntmps-(q.length+1)) .junk,σ.ents++[.loop tm σ.slots (z,assign,body) .ready none],σ.ents.length+1⟩ fun e s=>(e=.normal∨e=.ret)∧
  ∃sl j x,s.ents[σ.ents.length]? =some (.loop tm sl (z,assign,body) j.1 j.2)∧Xp x=some j∧Q x ⟨σ.slots,s.ents.set σ.ents.length .dead,σ.base⟩):AQ P (.rangeFunc g z assign body) σ Q:=
 AQ.ayJ q (fun _ _ _ _ _ U=>J▸U.get g) L M O u h
def AQ.am1 {Q:Exit→Am→Prop} {g:Operand} {u:Array Tmp} {assign body c:Code} {z:FuncId} {fn:Func} (cs:List D) (I:σ.get g=.d (.fn (.func z) [] cs)) (J:P.funcs[z]? =some fn) (L:BD P z=true) (M:fn.body=some c) (q:fn.results= #[])
 (h:∀tm,AQ P c ⟨(.mp σ.ents.length::cs.map .d)++List.replicate (fn.ntmps-((cs.map AV.d).length+1)) .junk,σ.ents++[.loop tm σ.slots (u,assign,body) .ready none],σ.ents.length+1⟩ fun e s=>(e=.normal∨e=.ret)∧
  ∃sl j x,s.ents[σ.ents.length]? =some (.loop tm sl (u,assign,body) j.1 j.2)∧Xp x=some j∧Q x ⟨σ.slots,s.ents.set σ.ents.length .dead,σ.base⟩):AQ P (.rangeFunc g u assign body) σ Q:=
 AQ.ayJ (cs.map .d) (fun _ _ _ _ _ O=>R.dfn (I▸O.get g)) J L M q h
end
def ac5 :Code→Nat→Code
 | .seq a b,i=>if i=0 then a else b
 | .cond _ a b,i=>if i=0 then a else b
 | .block _ a,_=>a
 | .loop a,_=>a
 | .scope a,_=>a
 | .rangeFunc _ _ a b,i=>if i=0 then a else b
 |c,_=>c
def aDl (c:Option Code) (p:List Nat):Array Tmp×Code×Code:=
 match p.foldl ac5 (c.getD .skip)with
 | .rangeFunc _ j a b=>(j,a,b)
 |_=>(#[],.skip,.skip)
section
variable {K V : Type} [BEq K]
def CB :List (K×V)→K→Option V
 | [],_=>none
 |p::l,k=>bif k==p.1 then some p.2 else CB l k
def Ec :List (K×V)→K→V→List (K×V)
 | [],k,v=>[(k,v)]
 |p::l,k,v=>bif k==p.1 then(k,v)::l else p::Ec l k v
def Bl (ek:K→Value) (ev:V→D) (p:K×V):Value×D:=(ek p.1,ev p.2)
structure KeyTy (P:Program) (t:TypeId) (ek:K→Value):Prop where
 same:∃kd,P.underlying t=some kd∧∀a b,Instr.sameNow kd (ek a) (ek b)=some (a==b)
 check:∀e a w,(Instr.checkKey e 10000 t (ek a)).run P w=.ok () w
 eq:∀a b:K,(a==b)=true→a=b
 bits:∀a,Instr.sameBits 10000 (ek a) (ek a)=true
def ahp {P:Program} {t:TypeId} {k:IntKind} (h:P.underlying t=some (.int k)):KeyTy P t (fun n:Int=>Value.int k n):=by
 refine⟨⟨_,h,fun a b=>by simp[Instr.sameNow]⟩,fun e a w=>?_,fun a b h=>JZ,fun a=>?_⟩
 ·have :∀n,(Instr.checkKey e (n+1) t (.int k a)).run P w=.ok () w:=fun n=>by simp[Instr.checkKey,underlying,h]
  exact this 9999
 unfold Instr.sameBits;simp
def aB6 {ek:K→Value} {kd:TypeDesc} (hs:∀a b,Instr.sameNow kd (ek a) (ek b)=some (a==b)) (k:K) (v:V):∀(m:List (K×V)) (l:List MapEntry) (i:Nat),l.map (·.key)=m.map (fun p=>ek p.1)→
 (Instr.findNow kd (ek k) l i=some none∧CB m k=none∧Ec m k v=m++[(k,v)])∨
 ∃j e p,Instr.findNow kd (ek k) l i=some (some (i+j,e.val))∧l[j]? =some e∧m[j]? =some p∧CB m k=some p.2∧(k==p.1)=true∧Ec m k v=m.set j (k,v)
 | [],[],_,_=>.inl ⟨rfl,rfl,rfl⟩
 | [],_::_,_,h=>IK
 |_::_,[],_,h=>IK
 |p::m,e::l,i,h=>by
  simp only[Ip,aLL]at h;cases q:(k==p.1)with
  |true=>
   refine .inr ⟨0,e,p,?_,rfl,rfl,?_,q,?_⟩
   ·simp[Instr.findNow,h.1,hs,q]
   ·simp[CB,q]
   simp[Ec,q]
  |false=>
   rcases aB6 hs k v m l (i+1) h.2 with⟨u,z,I⟩|⟨j,e',J,u,z,I,L,M,O⟩
   ·refine .inl ⟨?_,?_,?_⟩
    ·simp[Instr.findNow,h.1,hs,q,u]
    ·simp[CB,q,z]
    simp[Ec,q,I]
   refine .inr ⟨j+1,e',J,?_,Me,SV,?_,M,?_⟩
   ·simp[Instr.findNow,h.1,hs,q,u];omega
   ·simp[CB,q,L]
   simp[Ec,q,O]
end
section
variable {ok : Nat → Prop} {w : World} {es : List (Value × D)} {ms : Array MapEntry} {clock : Nat}
def KE.push (h:KE ok w es ms clock) {k v:Value} {x:D} (L:Dc ok w x v):KE ok w (es++[(k,x)]) (ms.push { key:=k,val:=v,born:=clock }) (clock+1):=by
 have q:∀(i:Nat) (m:MapEntry),(ms.push { key:=k,val:=v,born:=clock })[i]? =some m→ms[i]? =some m∨(i=ms.size∧m={ key:=k,val:=v,born:=clock }):=fun i m hm=>by
  rw[aLX]at hm;split at hm
  ·rename_i e;exact .inr ⟨e,(CV hm).symm⟩
  exact .inl hm
 refine⟨by simp[h.len],fun i e m z hm=>?_,fun i j m n I hm M=>?_⟩
 ·rcases q i m hm with u|⟨rfl,rfl⟩
  ·have hi:i<es.length:=by rw[←h.len];exact(GX.1 u).1
   rw[Gq hi]at z;obtain⟨O,U,Y⟩:=h.ent i e m z u;exact⟨O,U,Nat.lt_succ_of_lt Y⟩
  rw[h.len]at z;simp at z;subst z;exact⟨rfl,L,WC _⟩
 rcases q i m hm with u|⟨rfl,rfl⟩<;>rcases q j n M with J|⟨rfl,rfl⟩
 ·exact h.inc i j m n I u J
 ·have hi:i<es.length:=by rw[←h.len];exact(GX.1 u).1
  exact(h.ent i es[i] m Tf u).2.2
 ·have :=(GX.1 J).1;omega
 omega
def KE.modify (h:KE ok w es ms clock) {k v:Value} {x:D} (Z:Dc ok w x v) (j:Nat):KE ok w (es.set j (k,x)) (ms.modify j fun e=>{ e with key:=k,val:=v }) clock:=by
 have u:∀(i:Nat) (m:MapEntry),(ms.modify j fun e=>{ e with key:=k,val:=v })[i]? =some m→∃z,ms[i]? =some z∧m.born=z.born∧(i≠j→m=z)∧(i=j→m.key=k∧m.val=v):=fun i m hm=>by
  rw[Nh]at hm;split at hm
  ·rename_i e;rw[Rw]at hm;obtain⟨z,I,rfl⟩:=hm;exact⟨z,I,rfl,fun q=>absurd e.symm q,fun _=>⟨rfl,rfl⟩⟩
  rename_i e;exact⟨m,hm,rfl,fun _=>rfl,fun q=>absurd q.symm e⟩
 refine⟨by simp[h.len],fun i e m J hm=>?_,fun i U m n L hm hn=>?_⟩
 ·obtain⟨z,I,M,h3,Y⟩:=u i m hm;have hi:i<es.length:=by rw[←h.len];exact(GX.1 I).1
  obtain⟨q1,q2,q3⟩:=h.ent i es[i] z Tf I;by_cases O:i=j
  ·subst O;simp[hi]at J;subst J;exact⟨(Y rfl).1,by rw[(Y rfl).2];exact Z,by rw[M];exact q3⟩
  rw[Y7 (fun q=>O q.symm)]at J;rw[h3 O];exact h.ent i e z J I
 obtain⟨z,I,M,_⟩:=u i m hm;obtain⟨n0,g1,g2,_⟩:=u U n hn;rw[M,g2];exact h.inc i U z n0 L I g1
def KE.mono {ok':Nat→Prop} {w':World} (h:KE ok w es ms clock) (q:ER ok w ok' w'):KE ok' w' es ms clock:=⟨h.len,fun i e m j hm=>⟨(h.ent i e m j hm).1,(h.ent i e m j hm).2.1.mono q,(h.ent i e m j hm).2.2⟩,h.inc⟩
def KE.keys (h:KE ok w es ms clock):ms.toList.map (·.key)=es.map (·.1):=by
 apply uQ
 ·simp[h.len]
 intro i j q;simp at j q;have :=(h.ent i es[i] ms[i] ZM (by simp[j])).1;simpa using this
end
def XP :Value→D
 | .agg vs=>.agg (vs.toList.map PK)
 |v=>PK v
def aVn {ok:Nat→Prop} {w:World} {z:Value} (h:z.cells.all (·.oneCell')=true):Dc ok w (XP z) z:=by
 unfold XP;split
 ·rename_i vs;refine .agg _ vs BF (fun i hi=>?_) (fun i hi=>?_)
  ·simp at hi;have e:(vs.toList.map PK).getD i DT=PK vs[i]:=N7
   rw[e];exact yF ((U3.1 h) _ (by simp[Value.cells]))
  simp at hi;have e:(vs.toList.map PK).getD i DT=PK vs[i]:=N7
  have j:vs.getD i undef=vs[i]:=by simp[Array.getD,hi]
  rw[e,j];exact je _
 exact je _
section
variable {P : Program} {o : Oper} {es : List BA} {K V : Type} [BEq K]
def UK {ok:Nat→Prop} {w:World} {H:List BO} {k:Nat} {v:Value} {h:BO} (q:R ok w H (.mp k) v) (u:H[k]? =some h):v=h.v:=by
 cases q with
 |mp _ _ s hl j=>
  rw[u]at j;cases j;rfl
def aFy {t:TypeId} (u:o.op=.makeMap t none):BU P o [] es (.mp es.length) (es++[.map []]):=
 .eff fun C ok H a w hm M=>by
  have q:Eo ok (w.alloc (.map #[] 0)) (H++[⟨.map (some w.heap.size),0⟩]) ⟨.map (some w.heap.size),0⟩ (.map []):=
   ⟨w.heap.size, #[],0,rfl,(aNc w _).1,⟨rfl,fun i e m z=>xY,fun i j m n _ hm=>by simp at hm⟩⟩
  obtain⟨I,J⟩:=hm.push (.map #[] 0) ⟨.map (some w.heap.size),0⟩ _ (fun b q=>aPt) q;refine⟨.map (some w.heap.size),_,ok,_,.inl ?_,J,Names.push _ _,I,.mp _ _ 0 rfl QC⟩;have L:(newObj (.map #[] 0)).run P w=.ok w.heap.size (w.alloc (.map #[] 0)):=rfl;simp[execOp,u,Instr.makeMap,L]
def ad3 {t k e:TypeId} {x:Operand} {kd:IntKind} {n:Int} (ht:P.underlying t=some (.map k e)) (z:o.op=.makeMap t (some x)):BU P o [(x,.d (.lit (.int kd n)))] es (.mp es.length) (es++[.map []]):=
 .eff fun C ok H a w hm I=>by
  have q:Eo ok (w.alloc (.map #[] 0)) (H++[⟨.map (some w.heap.size),0⟩]) ⟨.map (some w.heap.size),0⟩ (.map []):=
   ⟨w.heap.size, #[],0,rfl,(aNc w _).1,⟨rfl,fun i e m J=>by simp at J,fun i j m n _ hm=>by simp at hm⟩⟩
  obtain⟨L,M⟩:=hm.push (.map #[] 0) ⟨.map (some w.heap.size),0⟩ _ (fun b q=>aPt) q;have u:=(L8 I).lit;simp only at u;refine⟨.map (some w.heap.size),_,ok,_,.inl ?_,M,Names.push _ _,L,.mp _ _ 0 rfl QC⟩;have O:(newObj (.map #[] 0)).run P w=.ok w.heap.size (w.alloc (.map #[] 0)):=rfl;simp[execOp,z,Instr.makeMap,O,u,asInt,asIntOf,underlying,ht]
def zG {t Z vt:TypeId} {ek:K→Value} (ev:V→D) {J:V} {z:Value} {m:List (K×V)} {key:K} {ok:Nat→Prop} {w:World} {b:Nat} {ms:Array MapEntry} {clock:Nat} (ht:P.underlying t=some (.map Z vt)) (hk:KeyTy P Z ek) (hz:(P.info? vt).bind (·.zero)=some z) (L:XP z=ev J)
 (M:z.cells.all (·.oneCell')=true) (hb:w.heap[b]? =some (.map ms clock)) (hM:KE ok w (m.map (Bl ek ev)) ms clock) (c:Bool):
 ∃v,(Instr.lookup t (.map (some b)) (ek key) c).run P w=.ok (if c then .tuple #[v,.bool (CB m key).isSome]else v) w∧Dc ok w (ev ((CB m key).getD J)) v:=by
 obtain⟨kd,q,hs⟩:=hk.same;have O:ms.toList.map (·.key)=m.map (fun p=>ek p.1):=by rw[hM.keys];simp[Bl,xg]
 have u:=hk.check;obtain⟨i,hi,U⟩:=kG.1 hz;rcases aB6 (i:=0) hs key J m ms.toList O with⟨Y,I,_⟩|⟨j,e,p,Y,I,h3,h4,_⟩
 ·refine⟨z,?_,?_⟩
  ·rw[I];simp[Instr.lookup,underlying,ht,RI hb,u,Instr.findKey,q,Y,zeroValue,typeInfo,hi,U]
  rw[I];have :=aVn (ok:=ok) (w:=w) M;rw[L]at this;exact this
 refine⟨e.val,?_,?_⟩
 ·rw[h4];simp[Instr.lookup,underlying,ht,RI hb,u,Instr.findKey,q,Y]
 rw[h4];have h5:(m.map (Bl ek ev))[j]? =some (Bl ek ev p):=by rw[JG,h3];rfl
 exact(hM.ent j _ e h5 SV).2.1
def ZY {t J L:TypeId} {x y:Operand} {k:Nat} {ek:K→Value} (ev:V→D) (M:V) {z:Value} {m:List (K×V)} {key:K} (ht:P.underlying t=some (.map J L)) (Z:KeyTy P J ek) (hz:(P.info? L).bind (·.zero)=some z) (q:XP z=ev M) (u:z.cells.all (·.oneCell')=true)
 (he:es[k]? =some (.map (m.map (Bl ek ev)))) (ho:o.op=.lookup t x y false):BU P o [(x,.mp k),(y,.d (.lit (ek key)))] es (.d (ev ((CB m key).getD M))) es:=
 .pure fun ok H a w j hl O=>by
  obtain⟨hd,hh,I⟩:=GR j hl he;obtain⟨b,ms,clock,h1,h2,h3⟩:=I;have U:=UK (Ef O).1 hh;have Y:=(Ef O).2.lit;simp only at U Y;obtain⟨v,hr,hv⟩:=zG (key:=key) ev ht Z hz q u h2 h3 false;refine⟨v,?_,.d _ _ hv⟩;simp[execOp,ho,U,Y,h1,hr]
def aCi {t J L:TypeId} {x y:Operand} {k:Nat} {ek:K→Value} (ev:V→D) (M:V) {z:Value} {m:List (K×V)} {key:K} (ht:P.underlying t=some (.map J L)) (Z:KeyTy P J ek) (hz:(P.info? L).bind (·.zero)=some z) (q:XP z=ev M) (u:z.cells.all (·.oneCell')=true)
 (he:es[k]? =some (.map (m.map (Bl ek ev)))) (ho:o.op=.lookup t x y true):BU P o [(x,.mp k),(y,.d (.lit (ek key)))] es (.eu [.d (ev ((CB m key).getD M)),.d (Dx (CB m key).isSome)]) es:=
 .pure fun ok H a w j hl O=>by
  obtain⟨hd,hh,I⟩:=GR j hl he;obtain⟨b,ms,clock,h1,h2,h3⟩:=I;have U:=UK (Ef O).1 hh;have Y:=(Ef O).2.lit;simp only at U Y;obtain⟨v,hr,hv⟩:=zG (key:=key) ev ht Z hz q u h2 h3 true;refine⟨.tuple #[v,.bool (CB m key).isSome],?_,.eu _ _ rfl fun i hi=>?_⟩
  ·simp[execOp,ho,U,Y,h1,hr]
  match i,hi with
  |0,_=>exact .d _ _ hv
  |1,_=>exact .d _ _ (.lit _)
def aLw {C:ES} {ok:Nat→Prop} {H:List BO} {w:World} (hm:Ch C ok H es w) {k:Nat} {es0 u:List (Value×D)} {b clock j:Nat} {ms q:Array MapEntry} {hd:BO} (J:es[k]? =some (.map es0)) (L:H[k]? =some hd) (z:hd.v=.map (some b)) (I:w.heap[b]? =some (.map ms clock))
 (M:KE ok w u q j):(setObj b (.map q j)).run P w=.ok () (w.putObj b (.map q j))∧Ch C ok H (es.set k (.map u)) (w.putObj b (.map q j))∧ER ok w ok (w.putObj b (.map q j)):=by
 refine⟨by simp[setObj,Sem.run,I,World.putObj],hm.ajG J rfl L uh fun O=>⟨b,q,j,z,X5 (GX.1 I).1,M.mono O⟩⟩
def rU {t kt vt:TypeId} {x y u:Operand} {k:Nat} {ek:K→Value} (ev:V→D) {m:List (K×V)} {key:K} {val:V} (ht:P.underlying t=some (.map kt vt)) (J:KeyTy P kt ek) (U:es[k]? =some (.map (m.map (Bl ek ev)))) (ho:o.op=.mapUpdate t x y u):
 BU P o [(x,.mp k),(y,.d (.lit (ek key))),(u,.d (ev val))] es .junk (es.set k (.map ((Ec m key val).map (Bl ek ev)))):=
 .eff fun C ok H a w hm Y=>by
  obtain⟨hd,Z,hok⟩:=GR hm.ent hm.hlen U;obtain⟨b,ms,clock,L,M,O⟩:=hok;have hx:=UK (Y (x,.mp k) BF) Z;have hy:=(Y (y,.d (.lit (ek key))) BF).lit;have hu:Dc ok w (ev val) (a.eval u):=by have :=Y (u,.d (ev val)) BF;cases this with |d _ _ h=>exact h
  simp only at hx hy;obtain⟨kd,q,hs⟩:=J.same;have hks:ms.toList.map (·.key)=m.map (fun p=>ek p.1):=by rw[O.keys];simp[Bl,xg]
  have z:=J.check;rcases aB6 (i:=0) hs key val m ms.toList hks with⟨q1,_,q3⟩|⟨j,e,p,q1,q2,q3,_,q5,q6⟩
  ·have hM:=O.push (k:=ek key) hu;obtain⟨r1,r2,r3⟩:=aLw (P:=P) hm U Z L M hM;refine⟨undef,_,ok,H,.inr ⟨rfl,?_⟩,r3,.refl _,?_,.junk _⟩
   ·simp[execOp,ho,hx,hy,L,Instr.mapUpdate,underlying,ht,RI M,z,Instr.findKey,q,q1,r1]
   rw[q3,KL];exact r2
  have hM:=O.modify (k:=ek key) hu j;obtain⟨r1,r2,r3⟩:=aLw (P:=P) hm U Z L M hM
  have I:e.key=ek key:=by
   have h5:(m.map (Bl ek ev))[j]? =some (Bl ek ev p):=by rw[JG,q3];rfl
   rw[(O.ent j _ e h5 qY).1,J.eq _ _ q5];rfl
  have hst:∀w,(Instr.keyThatStays (ek key) (ek key)).run P w=.ok (ek key) w:=fun w=>by simp[Instr.keyThatStays,J.bits]
  have hms:ms[j]? =some e:=qY
  refine⟨undef,_,ok,H,.inr ⟨rfl,?_⟩,r3,.refl _,?_,.junk _⟩
  ·simp[execOp,ho,hx,hy,L,Instr.mapUpdate,underlying,ht,RI M,z,Instr.findKey,q,q1,hms,I,hst,r1]
  rw[q6,yj];exact r2
def apP {t M O:TypeId} {x:Operand} {k:Nat} {es0:List (Value×D)} (ht:P.underlying t=some (.map M O)) (q:es[k]? =some (.map es0)) (U:o.op=.call { callee:=.builtin .clear,args:= #[x],argTypes:= #[t] }):
 BU P o [(x,.mp k)] es .junk (es.set k (.map [])):=
 .eff fun C ok H a w hm Y=>by
  obtain⟨hd,z,u⟩:=GR hm.ent hm.hlen q;obtain⟨b,ms,clock,I,J,h3⟩:=u;have L:=UK (Y (x,.mp k) BF) z;simp only at L;have Z:KE ok w [] #[] clock:=⟨rfl,fun i e m q=>nC,fun i j m n _ hm=>by simp at hm⟩
  obtain⟨r1,r2,r3⟩:=aLw (P:=P) hm q z I J Z;refine⟨.tuple #[],_,ok,H,.inl ?_,r3,.refl _,r2,.junk _⟩;simp[execOp,U,resolve,invoke,builtin,Builtin.clear_,L,I,underlying,ht,RI J,r1]
def ajP {t z I:TypeId} {x:Operand} {k:Nat} {es0:List (Value×D)} {n:Nat} (hl:es0.length=n) (ht:P.underlying t=some (.map z I)) (J:es[k]? =some (.map es0)) (L:o.op=.call { callee:=.builtin .len,args:= #[x],argTypes:= #[t] }):
 BU P o [(x,.mp k)] es (.d (Ac n)) es:=
 .pure fun ok H a w j hlen M=>by
  obtain⟨hd,O,q⟩:=GR j hlen J;obtain⟨b,ms,clock,U,Y,Z⟩:=q;have u:=UK (M (x,.mp k) BF) O;simp only at u;refine⟨goInt es0.length,?_,by rw[hl];exact .d _ _ (.lit _)⟩;simp[execOp,L,resolve,invoke,builtin,Builtin.len_,u,U,underlying,ht,RI Y,Z.len]
end
def wz {ok:Nat→Prop} {w:World} {H:List BO} {xs ys:List AV} {vs us:List Value} (h:Ez ok w H xs vs) (k:Ez ok w H ys us):Ez ok w H (xs++ys) (vs++us):=by
 refine⟨by rw[EI,EI,h.1,k.1],fun i hi=>?_⟩;by_cases j:i<xs.length
 ·have q:(xs++ys).getD i .junk=xs.getD i .junk:=by simp[List.getD,Gq j]
  have u:(vs++us).getD i undef=vs.getD i undef:=by simp[List.getD,Gq (by rw[h.1];exact j:i<vs.length)]
  rw[q,u];exact h.2 i j
 have z:i-xs.length<ys.length:=aMN
 have q:(xs++ys).getD i .junk=ys.getD (i-xs.length) .junk:=by simp[List.getD,Ju (UU j)]
 have u:(vs++us).getD i undef=us.getD (i-xs.length) undef:=by simp[List.getD,Ju (by rw[h.1];omega:vs.length≤i),h.1]
 rw[q,u];exact k.2 _ z
def Ch.aFk {C:ES} {ok:Nat→Prop} {H:List BO} {es:List BA} {w w':World} (hm:Ch C ok H es w) {v':Value} {size:Nat} {e:BA} (z:w.grownBy w' none) (I:∀g,Cx v'=some g→w.heap.size≤g∧g<w'.heap.size)
 (he:ER ok w ok w'→Eo ok w' (H++[⟨v',size⟩]) ⟨v',size⟩ e):Ch C ok (H++[⟨v',size⟩]) (es++[e]) w'∧ER ok w ok w':=by
 have g0:ER ok w ok w':=fun b I=>⟨I,z.block b (hm.kP b I) BF⟩
 refine hm.change (fun _=>False) z.os z.tape z.output z.size (fun b I _=>z.block b I BF) (fun _ h=>h.elim) (fun _ h=>h) (fun _ h=>.inl h) (Names.push _ _) dI ?_;intro k e' h' M q;rcases X9 M with L|⟨L,h2⟩
 ·left;refine⟨L,?_,fun _ _ _ h=>h⟩;have O:k<H.length:=by rw[hm.hlen];exact(FP.1 L).1
  rwa [Gq O]at q
 subst h2;have O:k=H.length:=by rw[hm.hlen];exact L
 subst O;simp at q;subst q;refine .inr ⟨he g0,fun _ b U=>?_⟩;obtain⟨q1,q2⟩:=I b U;refine⟨fun u=>absurd (hm.kP _ u) AA,q2,.inl (Ed hm.fr.size q1),fun k' Y Z hne hk' hl j J=>?_⟩;rcases X9 hk' with u|⟨u,_⟩
 ·have hk2:k'<H.length:=by rw[hm.hlen];exact(FP.1 u).1
  rw[Gq hk2]at j;exact absurd (hm.blk k' Y Z _ u hl j J).2.1 AA
 rw[←hm.hlen]at u;exact hne u
section
variable {P : Program} {o : Oper} {es es' : List BA}
def BU.thaw {ns:List (Operand×AV)} {k e s:Nat} {xs:List D} (h:BU P o ns es (.bn k) es') (J:es'[k]? =some (.arr e s xs)):BU P o ns es (.d (.sl xs)) (es'.set k .dead):=by
 intro C ok H a w Q hm L;refine Oper.wp_mono ?_ (h C ok H a w Q hm L);rintro a' w' ⟨v,ok',H',rfl,M,q,j,O⟩
 have u:Holds (ES.now w' ok' es' H') ok' H' ⟨[.bn k],es',H'.length⟩ { tmps:= #[v],defers:=[] } w':=⟨j.inner,rfl,.nil _ _ _,rfl,fun t ht=>by
  match t,ht with
  |0,_=>exact O⟩
 obtain⟨z,I⟩:=O1 k J _ _ _ _ _ u;obtain⟨U,_,Y⟩:=j.outer I.mem;refine⟨v,z,H',rfl,M.trans U,q,Y,?_⟩;have :=I.slot 0 (by simp[Am.thaw]);simpa[Am.thaw,AV.thaw]using this
def Dc.aFl {ok:Nat→Prop} {w:World} {xs:List D} {ad:Option Addr} {n cap j:Nat} (h:Dc ok w (.sl xs) (.slice ad n cap)) (I:xs.length≤j):Dc ok w (.sl xs) (.slice ad n j):=by
 cases h with
 |sl0 _ _=>exact .sl0 _ _
 |sl _ b off _ size z u hs J L q=>exact .sl xs b off j size I u hs J L q
def aVI {t e:TypeId} {agg:Bool} {size n cap m:Nat} {ad:Option Addr} {w:World} (ht:P.underlying t=some (.slice e)) (q:EM P e agg size) (j:m≤cap):
 (Instr.slice t (.slice ad n cap) none (some (.int .i64 m)) (some (.int .i64 m))).run P w=.ok (.slice (if m=0 then ad else ad.map (·.add 0)) m m) w:=by
 have u:(underlying t).run P w=.ok (.slice e) w:=OH
 have z:((m:Int)≤(cap:Int)):=Int.ofNat_le.2 j;simp[Instr.slice,u,Instr.sliceBounds,Instr.sliceBound,asIntOf,z,j,q.size]
def aXy {α:Type} {t e:TypeId} {agg:Bool} {size:Nat} {x y z:Operand} {h:Int} (enc:α→D) {xs r:List α} (hr:He xs 0 h=some r) (ht:P.underlying t=some (.slice e)) (hT:EM P e agg size) (hc:∀a,(enc a).cells.length=size)
 (ho:o.op=.slice t x none (some y) (some z)):BU P o [(x,.d (BL enc xs)),(y,.d (Ac h)),(z,.d (Ac h))] es (.clip (r.map enc)) es:=
 .pure fun ok H a w _ _ O=>by
  obtain⟨⟨_,h1,h2⟩,rfl⟩:=aSx hr;have U:=O (x,.d (BL enc xs)) BF;have M:=(O (y,.d (Ac h)) BF).lit;have hz:=(O (z,.d (Ac h)) BF).lit;simp only at U M hz;generalize hv:a.eval x=v at U;have I:Dc ok w (.sl (xs.map enc)) v:=by cases U with |d _ _ h=>exact h
  have J:∃ad cap,v=.slice ad (xs.map enc).length cap∧(xs.map enc).length≤cap:=by
   generalize hys:xs.map enc=ys at I;cases I with
   |sl0 ad cap=>exact⟨ad,cap,rfl,Du _⟩
   |sl _ b off cap size j=>exact⟨_,cap,rfl,j⟩
  obtain⟨ad,cap,rfl,j⟩:=J
  have hlen:(List.map enc ((xs.drop 0).take (h.toNat-0))).length=h.toNat:=by
   rw[CG,FD,gU];omega
  have u:=aVI (P:=P) (n:=xs.length) (ad:=ad) (w:=w) ht hT (m:=h.toNat) (cap:=cap) (by rw[CG]at j;omega);have Y:((h.toNat:Nat):Int)=h:=AA
  rw[Y]at u;refine⟨.slice (if h.toNat=0 then ad else ad.map (·.add 0)) h.toNat h.toNat,?_,?_⟩
  ·rw[CG]at hv;simp only[execOp,ho,yQ,Ii,hv,M,hz,Instr.sliceAt];have hu:(underlying t).run P w=.ok (.slice e) w:=OH
   simp only[FT,yZ,Gj,hu,u,Fh]
  have hD:Dc ok w (.sl (List.map enc ((xs.drop 0).take (h.toNat-0)))) (.slice (if h.toNat=0 then ad else ad.map (·.add 0)) (List.map enc ((xs.drop 0).take (h.toNat-0))).length (List.map enc ((xs.drop 0).take (h.toNat-0))).length):=by
   by_cases L:h.toNat=0
   ·have e0:List.map enc ((xs.drop 0).take (h.toNat-0))=[]:=Gf (by rw[hlen,L]);rw[e0];exact .sl0 _ _
   have q:=aYh (l:=0) (h:=h.toNat) I (size:=size) (fun y M=>by obtain⟨b,_,rfl⟩:=E5.1 M;exact hc b) (Du _) Dh;have Z:cap≠0:=by rw[CG]at j;omega
   rw[CY Z]at q;rw[CY L,hlen];rw[←aF,←ZA]at q;simp only[Nat.zero_mul,Nat.sub_zero]at q ⊢;exact q.aFl (by rw[CG,FD,gU];omega)
  have :=R.clip (H:=H) _ _ hD;rw[hlen]at this;exact this
def aWq {t e e':TypeId} {agg:Bool} {size k s:Nat} {x y z:Operand} {xs:List D} {h:Int} (Z:h=(xs.length:Int)) (hk:es[k]? =some (.arr e' s xs)) (ht:P.underlying t=some (.slice e)) (hT:EM P e agg size)
 (ho:o.op=.slice t x none (some y) (some z)):BU P o [(x,.bn k),(y,.d (Ac h)),(z,.d (Ac h))] es (.xG k) es:=
 .pure fun ok H a w u hl L=>by
  obtain⟨hd,I,M⟩:=GR u hl hk;have O:=O5 (L (x,.bn k) BF) I;have U:=(L (y,.d (Ac h)) BF).lit;have Y:=(L (z,.d (Ac h)) BF).lit;simp only at O U Y;obtain⟨_,_,Cc,⟨_,j⟩,_⟩:=M;obtain⟨v,BP⟩:=hd;simp only at j O;subst Z
  have key:∃ad cap,v=.slice ad xs.length cap∧xs.length≤cap∧ad.map (·.add 0)=ad:=by
   rcases j with⟨rfl,J⟩|⟨g,cap,_,rfl,_,_,J,_⟩
   ·exact⟨none,0,by rw[J],AA,rfl⟩
   exact⟨_,cap,rfl,J,by simp[Addr.add]⟩
  obtain⟨ad,cap,rfl,J,h2⟩:=key;have q:=aVI (P:=P) (n:=xs.length) (ad:=ad) (w:=w) ht hT (m:=xs.length) (cap:=cap) J;have hi:(if xs.length=0 then ad else ad.map (·.add 0))=ad:=by split<;>simp[h2]
  rw[hi]at q;refine⟨.slice ad xs.length xs.length,?_,.xG k ad _ cap BP I⟩;simp only[execOp,ho,yQ,Ii,O,U,Y,Instr.sliceAt];have hu:(underlying t).run P w=.ok (.slice e) w:=OH
  simp only[FT,yZ,Gj,hu,q,Fh]
def aeZ {C:ES} {ok:Nat→Prop} {H:List BO} {w:World} (hm:Ch C ok H es w) {t ty e:TypeId} {size q k:Nat} {xs ys:List D} (hE:Gw P t e size q) (hk:es[k]? =some (.arr e size xs))
 {v x:Value} (hv:R ok w H (.xG k) v) {u:List Value} (L:WY w x ys.length size u) (I:Ez ok w H (flat ys) u) (hys:∀y∈ys,y.cells.length=size) (hb:(xs.length+ys.length)*q≤140737488355328) (hn:xs.length+ys.length≤maxLen):
 ∃v' w' H',(Builtin.append_ #[t,t] ty #[v,x]).run P w=.ok v' w'∧ER ok w ok w'∧Names H H'∧Ch C ok H' (es.set k .dead++[.arr e size (xs++ys)]) w'∧R ok w' H' (.bn es.length) v':=by
 obtain⟨h,hh,hok⟩:=GR hm.ent hm.hlen hk;obtain⟨h1,h2,Cc,j,hrs⟩:=hok
 have key:lM w e size v xs.length Cc∧Cx v=Cx h.v:=by
  cases hv with
  |xG _ ad n cap s M=>
   rw[hh]at M;obtain rfl:=CV M;rcases j.2 with⟨O,q2⟩|⟨g,cap',cur,O,q2,q3,q4,q5,q6,q7⟩
   ·simp only[lT]at O;obtain⟨rfl,rfl,rfl⟩:=O;exact⟨⟨j.1,.inl ⟨rfl,q2⟩⟩,rfl⟩
   simp only[lT]at O;obtain⟨rfl,rfl,rfl⟩:=O;exact⟨⟨j.1,.inr ⟨g,xs.length,cur,rfl,q2,q3,Dq _,Ed q4 q5,Ed (Jl _ q4) q6,q7⟩⟩,rfl⟩
 obtain⟨z,U⟩:=key;obtain⟨v',w',hr,J,Y,Z⟩:=aN1 (P:=P) (ty:=ty) hE z L hb hn
 obtain⟨h3,h4⟩:=hm.turn (h':=⟨v',size⟩) (e:=.arr e size (xs++ys)) hk rfl hh Y.os Y.tape Y.output Y.size (fun c hc hne=>Y.block c hc (by rw[aJl z,U];exact fun e=>hne e.symm)) (fun g hg'=>⟨wR J hg',(Z g hg').imp (fun h=>U▸h) id⟩) (fun hgr=>by
  refine⟨rfl,fun y hy=>?_,Cc++u,Rs,?_⟩
  ·rcases Hd.1 hy with h|h
   ·exact h2 y h
   exact hys y h
  have a1:=hrs.mono hgr (Names.push H [⟨v',size⟩]);have a2:=I.mono hgr (Names.push H [⟨v',size⟩]);rw[iD]
  exact wz a1 a2)
 refine⟨v',w',_,hr,h4,Names.push _ _,h3,?_⟩;have M:(H++[(⟨v',size⟩:BO)])[es.length]? =some ⟨v',size⟩:=QC
 rcases J.2 with⟨rfl,_⟩|⟨g',c',_,rfl,_⟩
 ·exact .bn _ _ _ _ size M
 exact .bn _ _ _ _ size M
def aa3 {α:Type} {s x:Operand} {t e:TypeId} {size j k:Nat} (enc:α→D) {l m r:List α} (h:C9 j l m=some r) (hE:Gw P t e size j) (Z:es[k]? =some (.arr e size (l.map enc))) (hc:∀a,(enc a).cells.length=size) (hb:0<j)
 (ho:o.op=.call { callee:=.builtin .append,args:= #[s,x],argTypes:= #[t,t] }):
 BU P o [(s,.xG k),(x,.d (BL enc m))] es (.bn es.length) (es.set k .dead++[.arr e size (r.map enc)]):=by
 obtain⟨rfl,L⟩:=aDk h;refine .eff fun C ok H a w hm q=>?_;have M:=(Ef q).1;have O:=(Ef q).2;simp only at M O;have I:Dc ok w (.sl (m.map enc)) (a.eval x):=by cases O with |d _ _ h=>exact h
 have u:∀y∈m.map enc,y.cells.length=size:=fun y hy=>aOa
 obtain⟨U,z,J⟩:=fD H I u;obtain⟨v',w',H',hr,r1,r2,Y,r4⟩:=aeZ (ty:=o.type) hm hE Z M z J u Vm (by simpa using aL2 hb L);rw[←KL]at Y;refine⟨v',w',ok,H',.inl ?_,r1,r2,Y,r4⟩;simp[execOp,ho,resolve,invoke,builtin,hr]
def agH {ok:Nat→Prop} {w:World} {H:List BO} {t ty e:TypeId} {size q:Nat} (hE:Gw P t e size q) {xs ys:List D} {v x:Value} (hv:R ok w H (.clip xs) v) (hxs:∀y∈xs,y.cells.length=size) {u:List Value} (I:WY w x ys.length size u) (hpos:0<ys.length)
 (hb:(xs.length+ys.length)*q≤140737488355328) (hn:xs.length+ys.length≤maxLen):
 ∃j v' w',Ez ok w H (flat xs) j∧(Builtin.append_ #[t,t] ty #[v,x]).run P w=.ok v' w'∧w'.ownsRow w.heap.size e size v' (xs.length+ys.length) (j++u)∧w.grownBy w' none:=by
 obtain⟨i,z,hi,hz,hs,L,M⟩:=hE.info;cases hv with
 |clip _ ad hD=>
  obtain⟨j,ho,O⟩:=fD H hD hxs;rcases I.at_ with⟨U,c,rfl,J⟩|⟨c,rfl,h0⟩
  ·rcases ho.at_ with⟨ad2,c2,Y,Z⟩|⟨c2,Y,Z⟩
   ·simp only[lT]at Y;obtain⟨rfl,_,rfl⟩:=Y;obtain⟨v',w',r1,r2,r3⟩:=run_append_arg_grows (P:=P) w t ty e i z size q hE.und hi hz hs L M hE.pos ad2 xs.length xs.length j ho.len Z U ys.length c u I.len J AA hn hb;exact⟨j,v',w',O,r1,r2,r3⟩
   simp only[lT]at Y;obtain⟨rfl,_,_⟩:=Y;have hx:j=[]:=Gf (by rw[ho.len,Z];simp);subst hx;rw[Z]at hn hb ⊢;obtain⟨v',w',r1,r2,r3,_⟩:=run_append_own (P:=P) w w.heap.size t ty e i z size q hE.und hi hz hs L M hE.pos _ 0 [] (aEU w w.heap.size e size) U ys.length c u I.len J I.one hn hb (Dq _);exact⟨[],v',w',O,r1,r2,r3⟩
  omega
def akD {ok:Nat→Prop} {w':World} {H:List BO} {base e size:Nat} {v':Value} {xs ys:List D} {j q:List Value} (h:w'.ownsRow base e size v' (xs.length+ys.length) (j++q)) (I:Ez ok w' H (flat xs) j) (J:Ez ok w' H (flat ys) q) (u:∀y∈xs,y.cells.length=size) (z:∀y∈ys,y.cells.length=size):
 Eo ok w' H ⟨v',size⟩ (.arr e size (xs++ys)):=by
 refine⟨rfl,fun y L=>?_,j++q,?_,?_⟩
 ·rcases Hd.1 L with h|h
  ·exact u y h
  exact z y h
 ·have :=lM.of h;simpa using this
 rw[iD];exact wz I J
def ajf {w':World} {base e size n:Nat} {v':Value} {Cc:List Value} (h:w'.ownsRow base e size v' n Cc):∀g,Cx v'=some g→base≤g∧g<w'.heap.size:=by
 intro g j;rcases h.2 with⟨rfl,_⟩|⟨z,_,_,rfl,q,u,_⟩
 ·simp[Cx]at j
 simp[Cx]at j;subst j;exact⟨q,(GX.1 u).1⟩
def aVZ {α:Type} {s x:Operand} {t e:TypeId} {size j:Nat} (enc:α→D) {l m r:List α} (h:C9 j l m=some r) (hE:Gw P t e size j) (hc:∀a,(enc a).cells.length=size) (J:0<j)
 (L:o.op=.call { callee:=.builtin .append,args:= #[s,x],argTypes:= #[t,t] }):
 BU P o [(s,.clip (l.map enc)),(x,.d (BL enc m))] es (.d (BL enc r)) es:=by
 obtain⟨rfl,h2⟩:=aDk h;refine .eff fun C ok H a w hm M=>?_;have h1:=(Ef M).1;have h3:=(Ef M).2;simp only at h1 h3;have h3':Dc ok w (.sl (m.map enc)) (a.eval x):=by cases h3 with |d _ _ h=>exact h
 have O:∀y∈l.map enc,y.cells.length=size:=fun y hy=>aOa
 have U:∀y∈m.map enc,y.cells.length=size:=fun y hy=>aOa
 obtain⟨Y,q,hrs⟩:=fD H h3' U;by_cases Z:m=[]
 ·subst Z;obtain⟨i,z,hi,hz,hs,hby,hzs⟩:=hE.info;have I:Y=[]:=Gf (by rw[q.len];simp);subst I;generalize hv:a.eval s=v at h1;generalize hu:a.eval x=u at q;cases h1 with
  |clip _ ad hD=>
   refine⟨_,w,ok,H,.inl ?_,.refl _ _,.refl _,hm,.d _ _ (by rw[Oe];exact hD)⟩;have hL:∀w:World,((underlying t).run P w=.ok (.slice e) w):=fun w=>aHe
   rcases q.at_ with⟨ad',c,rfl,_⟩|⟨c,rfl,_⟩
   ·cases ad with
    |none=>simp[execOp,L,resolve,invoke,builtin,hv,hu,Builtin.append_,hL,sizeOf,typeInfo,hi,Builtin.lenOf,Builtin.firstCells,loadCells,loadCellsFrom]
    |some ad=>simp[execOp,L,resolve,invoke,builtin,hv,hu,Builtin.append_,hL,sizeOf,typeInfo,hi,Builtin.lenOf,Builtin.firstCells,loadCells,loadCellsFrom,storeCells]
   cases ad with
   |none=>simp[execOp,L,resolve,invoke,builtin,hv,hu,Builtin.append_,hL,sizeOf,typeInfo,hi,Builtin.lenOf,Builtin.firstCells]
   |some ad=>simp[execOp,L,resolve,invoke,builtin,hv,hu,Builtin.append_,hL,sizeOf,typeInfo,hi,Builtin.lenOf,Builtin.firstCells,storeCells]
 obtain⟨olds,v',w',r0,r1,r2,r3⟩:=agH (P:=P) (ty:=o.type) hE h1 O q (by simpa using ig.2 Z) uF (by simpa using aL2 J h2);have hblk:=ajf r2;obtain⟨m1,g1⟩:=hm.change (ok':=fun b=>ok b∨Cx v'=some b) (H':=H) (es':=es) (w':=w') (fun _=>False) r3.os r3.tape r3.output r3.size (fun b J _=>r3.block b J BF) (fun _ h=>h.elim) (fun _ h=>.inl h) (fun b h=>h.imp id fun h=>hblk b h) (.refl _) hm.hlen (fun k e h he hh=>.inl ⟨he,hh,fun _ _ _ h=>h⟩);have g0:ER ok w ok w':=fun b J=>⟨J,(g1 b J).2⟩
 have hE':=akD r2 (r0.mono g0 (.refl _)) (hrs.mono g0 (.refl _)) O U;refine⟨v',w',_,H,.inl (by simp[execOp,L,resolve,invoke,builtin,r1]),g1,.refl _,m1,.d _ _ ?_⟩;have :=dD hE' (ok':=fun b=>ok b∨Cx v'=some b) (fun _ h=>.inl h) (fun _ h=>.inr h)
 rwa [←KL]at this
end
def D.plain:D→Bool
 | .lit _=>true
 | .agg cs=>cs.all fun c=>match c with | .lit _=>true|_=>false
 |_=>false
def ah4 {ok ok':Nat→Prop} {w w':World} {H H':List BO} {xs:List D} {vs:List Value} (hp:∀x∈xs,x.plain=true) (h:Ez ok w H (flat xs) vs):Ez ok' w' H' (flat xs) vs:=by
 refine⟨h.1,fun i hi=>⟨(h.2 i hi).1,?_⟩⟩;have I:=(h.2 i hi).2;have hm:(flat xs).getD i .junk∈flat xs:=N7
 generalize(flat xs).getD i .junk=y at I hm;unfold flat at hm;simp only[SI,E5]at hm;obtain⟨x,J,c,z,rfl⟩:=hm;have j:=hp x J
 have q:∃u,c=.lit u:=by
  cases x with
  |lit u=>simp[D.cells]at z;exact⟨u,z⟩
  |agg cs=>
   simp only[D.cells]at z;simp only[D.plain,DY]at j;have :=j c z;cases c with
   |lit u=>exact⟨u,rfl⟩
   |_=>simp at this
  |_=>cases j
 obtain⟨u,rfl⟩:=q;rw[I.lit];exact .d _ _ (.lit u)
def aQa {P:Program} {o:Oper} {es:List BA} {f:FuncId} {ops:Array Operand} {dX gV:List AV} {e s:Nat} {xs:List D} (hr:Ar P f gV [] (.bn 0) [.arr e s xs]) (hp:∀x∈xs,x.plain=true) (ha:bP es dX gV) (hl:ops.toList.length=dX.length)
 {C:ES} {ok:Nat→Prop} {H:List BO} {a:Act} {w:World} (hm:Ch C ok H es w) (hn:∀n∈FM ops.toList dX,R ok w H n.2 (a.eval n.1)):
 Calls P f (ops.toList.map a.eval).toArray w fun e' w'=>∃v,e'=.returned v∧w.grownBy w' none∧(∀g,Cx v=some g→w.heap.size≤g∧g<w'.heap.size)∧Value.isSlice v=true∧∀M H2,Eo M w' H2 ⟨v,s⟩ (.arr e s xs):=by
 let I:Nat→Prop:=fun b=>b<w.heap.size
 have Z:Ch ⟨w,I,[],[]⟩ I [] [] w:=
  ⟨.refl _ _,fun _ h=>h,fun _ h=>.inl h,fun _ h=>h,.refl _,rfl,fun k e h O _=>by simp at O,fun k e h b O=>by simp at O,fun k k' e e' h h' b O=>by simp at O⟩
 refine(hr I [] [] w _ Z (by simp[hl,aNu ha]) (fun i hi=>?_)).mono ?_
 ·obtain⟨op,x,ho',U,q⟩:=aSP hl ha i hi;have L:=hn _ U
  have e1:(ops.toList.map a.eval).toArray.getD i undef=a.eval op:=by
   obtain⟨h1,h2⟩:=FP.1 ho';have h3:i<ops.size:=by simpa using h1
   have h4:ops[i]=op:=uF
   simp[Array.getD,h3,h4]
  rw[e1];simp only at L;generalize gV.getD i .junk=y at q;generalize a.eval op=u at L;cases x with
  |d x=>
   obtain rfl:=q;cases L with |d _ _ h=>exact .d _ _ (h.mono (fun b z=>⟨hm.kP b z,rfl⟩))
  |bn k=>
   obtain⟨e',s,xs,hk,rfl⟩:=q;obtain⟨h,hh,J⟩:=GR hm.ent hm.hlen hk;obtain rfl:=O5 L hh;exact .d _ _ (dD J (fun b z=>hm.kP b z) (fun b z=>(hm.blk k _ h b hk rfl hh z).2.1))
  |_=>exact q.elim
 rintro e' w' ⟨v,ok',H',rfl,j,L⟩;have hg:w.grownBy w' none:=⟨j.fr.os,j.fr.tape,j.fr.output,j.fr.size,fun b z _=>j.fr.block b z BF⟩
 have hl':H'.length=1:=j.hlen
 match H',hl' with
 | [hd],_=>
   obtain rfl:=O5 L (h:=hd) rfl;have J:=j.ent 0 _ hd rfl rfl;have z:=fun b z=>j.blk 0 _ hd b rfl rfl rfl z;obtain⟨q1,q2,Cc,q3,q4⟩:=J;obtain⟨v,BP⟩:=hd;simp only at q1 z q3;subst q1;refine⟨v,rfl,hg,fun g hg'=>?_,?_,fun M H2=>⟨rfl,q2,Cc,q3,ah4 hp q4⟩⟩
   ·obtain⟨_,r2,Y⟩:=z g hg';rcases Y with Y|Y
    ·exact⟨Y,r2⟩
    simp at Y
   rcases q3.2 with⟨rfl,_⟩|⟨g',c',_,rfl,_⟩<;>rfl
def Tq {P:Program} {o:Oper} {es:List BA} {f:FuncId} {ops:Array Operand} {ats:Array TypeId} {dX gV:List AV} {e s:Nat} {xs:List D} (q:Ar P f gV [] (.bn 0) [.arr e s xs]) (hp:∀x∈xs,x.plain=true) (u:BD P f=true) (ha:bP es dX gV) (hl:ops.toList.length=dX.length)
 (z:o.op=.call { callee:=.value (.func f),args:=ops,argTypes:=ats }):BU P o (FM ops.toList dX) es (.bn es.length) (es++[.arr e s xs]):=by
 intro C ok H a w Q hm I;unfold Oper.wp;rw[nK z,TG u,dS];have J:ops.map a.eval=(ops.toList.map a.eval).toArray:=aDG
 rw[J];refine(aQa (o:=o) q hp ha hl hm I).mono ?_;rintro e' w' ⟨v,rfl,L,M,j,hE⟩;obtain⟨O,U⟩:=hm.aFk (v':=v) (size:=s) (e:=.arr e s xs) L M (fun _=>hE _ _);refine⟨v,ok,_,rfl,U,Names.push _ _,O,?_⟩;have Y:(H++[(⟨v,s⟩:BO)])[es.length]? =some ⟨v,s⟩:=QC
 cases v with
 |slice ad n c=>exact .bn _ _ _ _ s Y
 |_=>cases j
def aUh {P:Program} {o:Oper} {es:List BA} {f:FuncId} {ops:Array Operand} {ats:Array TypeId} {dX gV:List AV} {e s:Nat} {xs:List D} (u:Ar P f gV [] (.bn 0) [.arr e s xs]) (hp:∀x∈xs,x.plain=true) (z:BD P f=true) (ha:bP es dX gV) (hl:ops.toList.length=dX.length)
 (I:o.op=.call { callee:=.value (.func f),args:=ops,argTypes:=ats }):BU P o (FM ops.toList dX) es (.d (.sl xs)) es:=by
 intro C ok H a w Q hm J;unfold Oper.wp;rw[nK I,TG z,dS];have L:ops.map a.eval=(ops.toList.map a.eval).toArray:=aDG
 rw[L];refine(aQa (o:=o) u hp ha hl hm J).mono ?_;rintro e' w' ⟨v,rfl,j,M,O,hE⟩;obtain⟨U,Y⟩:=hm.change (ok':=fun b=>ok b∨Cx v=some b) (H':=H) (es':=es) (w':=w') (fun _=>False) j.os j.tape j.output j.size (fun b q _=>j.block b q BF) (fun _ h=>h.elim) (fun _ h=>.inl h) (fun b h=>h.imp id fun h=>M b h) (.refl _) hm.hlen (fun k e h Z hh=>.inl ⟨Z,hh,fun _ _ _ h=>h⟩);exact⟨v,_,H,rfl,Y,.refl _,U,.d _ _ (dD (hE ok H) (fun _ h=>.inl h) (fun _ h=>.inr h))⟩
def aw6 {F:Fence} {n:Nat} {P:Program} {Q:Exit→Act→World→Prop} {a:Act} {w:World} {c:Code} (h:c.wpIn F n P (Exit.noGoto Q) a w):(Code.scope c).wpIn F n P Q a w:=by
 intro b k cs J L M;have j:(lone (b.atR a (.code (.scope c)::k)) cs w).fenced P F:=fenced_calm L M rfl;have q:step P (lone (b.atR a (.code (.scope c)::k)) cs w)=.next (lone (b.atR a (.code c::.inScope c::k)) cs w):=step_lone_go aWv;obtain⟨e,z,I,u,harr⟩:=h b (.inScope c::k) cs J L M;cases e with
 |normal=>exact⟨.normal,z,I,u,.head j q (StepsIn.trans harr (.one (fenced_calm L M rfl) (step_lone_go aWv)))⟩
 |exit id=>
  have Y:exitTo id (.inScope c::k)=exitTo id k:=by simp[exitTo]
  exact⟨.exit id,z,I,u,fun k' O=>.head j q (harr.1 k' (by rw[Y];exact O)),fun U O=>let⟨Z,h1,h2⟩:=harr.2 U (by rw[Y];exact O);⟨Z,h1,.head j q h2⟩⟩
 |goto l=>exact u.elim
 |ret=>exact⟨_,z,I,u,.of_steps (.one j q) harr⟩
 |panic ch=>exact⟨_,z,I,u,.of_steps (.one j q) harr⟩
 |outgrown=>exact⟨_,z,I,u,.of_steps (.one j q) harr⟩
def acP (Q:Exit→Am→Prop):Exit→Am→Prop
 | .goto _,_=>False
 |e,σ=>Q e σ
def AQ.scope {P:Program} {σ:Am} {Q:Exit→Am→Prop} {c:Code} (h:AQ P c σ (acP Q)):AQ P (.scope c) σ Q:=⟨fun ro q C ok H a w u=>
 aw6 (Uo (h.run ro (q.imp id fun h=>h) C ok H a w u) (by
  rintro e a' w' ⟨ok',H',σ',z,j⟩;cases e with
  |goto l=>exact j.elim
  |_=>exact⟨ok',H',σ',z,j⟩))⟩
def aWc (P:Program) (f:FuncId) (args:List AV) (u:Value):Prop:=
 ∀(ok:Nat→Prop) (X:List Nat) (H:List BO) (w:World) (j:Array Value),Ch ⟨w,ok,X,H⟩ ok H [] w→j.size=args.length→(∀i,i<args.length→R ok w H (args.getD i .junk) (j.getD i undef))→
  Calls P f j w fun e w'=>∃ok' H',e=.panicked [{ v:=u,recovered:=false }]∧Ch ⟨w,ok,X,H⟩ ok' H' [] w'
def Ph {Rr:Type} (P:Program) (f:FuncId) (args:List AV) (r:Except Value Rr) (j:Rr→AV):Prop:=(∀x,r=.ok x→Ar P f args [] (j x) [])∧∀u,r=.error u→aWc P f args u
def ad8 {Rr:Type} (P:Program) (fn:Func) (r:Except Value Rr) (j:Rr→AV) (e:Exit) (σ:Am):Prop:=
 (∃x,r=.ok x∧aR0 P fn (j x) [] e σ)∨∃u,r=.error u∧e=oZ u∧σ.base=0
def aYj {P:Program} {fn:Func} {Rr:Ending→World→Prop} {C:ES} {ch:List PanicEntry} (u:∀b,C.ok0 b→b<C.w0.heap.size) {H:List BO} {σ:Am}
 (z:∀ok a w,Holds C ok H σ a w→Rr (.panicked ch) w) {tmps:Array Value}:∀(Ds:List Nat) {ok:Nat→Prop} {a:Act} {w:World},Holds C ok H σ a w→(∀d∈Ds,ok d∧C.w0.heap.size≤d∧w.heap[d]? =some (.deferred (some [])))→Ds.Nodup→
  LeavesInM (J3 none) 0 P fn tmps Rr (Ds.map fun D=>{ target:=.collected D,args:= #[] }) (.panicking ch) w
 | [],ok,a,w,h,_,_=>z ok a w h
 |D::Ds,ok,a,w,h,hd,I=>by
  obtain⟨ok',h',j⟩:=h.take u (fun d q=>hd d (FB _ q)) (hd D (EU ..)) I;have J:=aYj (P:=P) (fn:=fn) (tmps:=tmps) u z Ds h' j (Kr.1 I).2;exact⟨BF,.inl ⟨D,_,rfl,run_takeDeferred (hd D (EU ..)).2.2,J⟩⟩
def Ch.none {C:ES} {ok:Nat→Prop} {H:List BO} {es:List BA} {w:World} (hm:Ch C ok H es w) (q:C.H0=[]):Ch C ok [] [] w:=
 ⟨hm.fr,hm.yR,hm.yS,hm.kP,by rw[q];exact .refl _,rfl,fun k e h j=>wE,fun k e h b j=>wE,fun k k' e e' h h' b j=>wE⟩
def Ph.aN {Rr:Type} {P:Program} {f:FuncId} {fn:Func} {c:Code} {args:List AV} {r:Except Value Rr} {z:Rr→AV} (Z:P.funcs[f]? =some fn) (hb:fn.body=some c)
 (h:AQ P c (.enter args fn.ntmps []) (ad8 P fn r z)):Ph P f args r z:=by
 refine⟨fun x hx=>Ar.aN Z hb (h.mono fun e σ hq=>?_),fun u hu=>?_⟩
 ·rcases hq with⟨x',q,J⟩|⟨u,q,_⟩
  ·rw[hx]at q;cases q;exact J
  rw[hx]at q;cases q
 intro ok X H w j hm hs ha;have hH:H=[]:=Gf hm.hlen;refine(aEc (ro:=none) (n:=0)).1 (aOh Z hb trivial (Uo (h.run none (.inl rfl) ⟨w,ok,X,H⟩ ok H _ w ?_) ?_) rfl)
 ·refine⟨hm,by simp[Am.enter,hs],.nil _ _ _,hm.hlen,fun t ht=>?_⟩;simp only[Am.enter];by_cases e:t<args.length
  ·have L:(args++List.replicate (fn.ntmps-args.length) AV.junk).getD t .junk=args.getD t .junk:=aPW
   have e2:(j++Array.replicate (fn.ntmps-j.size) undef).getD t undef=j.getD t undef:=by
    simp[Ih,Zx (show t<j.size by omega)]
   rw[L,e2];exact ha t e
  have L:(args++List.replicate (fn.ntmps-args.length) AV.junk).getD t .junk=.junk:=by
   simp only[List.getD,Ju (UU e),aNj];split<;>rfl
  rw[L];exact .junk _
 rintro e a' w' ⟨ok',H',σ',q,J⟩;rcases J with⟨x,I,_⟩|⟨u',I,rfl,_⟩
 ·rw[hu]at I;cases I
 rw[hu]at I;cases I;obtain⟨Ds,M,O,U⟩:=q.defers;show LeavesInM (J3 none) 0 P fn a'.tmps _ a'.defers (.panicking _) w';rw[M];exact aYj (P:=P) (C:=⟨w,ok,X,H⟩) hm.kP (fun Y a2 w2 h4=>⟨Y,[],rfl,h4.mem.none hH⟩) Ds q U O
section
variable {P : Program} {ops : Array Oper} {o : Oper} {rest l : List Oper} {σ : Am} {K : Exit → Am → Prop}
def Ci.panic {x:Operand} {t:TypeId} {u:Value} (q:o.op=.panic x) (z:σ.get x=.d (.lit (.iface t u))) (I:Ja ops σ o.guard=some true) (h:K (oZ (.iface t u)) σ):Ci P ops (o::rest) σ K:=by
 refine⟨fun ro J Q C ok H a w j L=>?_⟩;show wpListIn (J3 ro) 0 P ops Q (o::(rest++J)) a w;unfold wpListIn;rw[CS (Pe j (MO I))];have M:=(z▸j.get x).lit;unfold Oper.wpIn;rw[eM _ _ _ (by rw[q];intro c h;cases h)];have O:(execOp a.eval o).run P w=.halt (.panic (.iface t u)) w:=by simp[execOp,q,M,Instr.panic,goPanic]
 rw[O];exact⟨fun _ _=>trivial,L.2 _ _ _ _ _ _ h j⟩
end
section
variable {P : Program} {ops : Array Oper}
def AQ.aFm {id:Nat} {σ σ':Am} {Q:Exit→Am→Prop} {rs:List AV} {ess:List (List BA)} {bs:List Bool} (N:Nat) (hNs:N+1=ops.size) (hm:P.follows .mixedOrders=true) (hcalm:(Vs ops&&X6 ops&&X7 ops σ.slots.length&&Vw ops)=true) (hbl:bs.length=N) (L:UR ops (bs++[true])=true)
 (h:Ep P ops (ops.toList.take N) σ rs ess bs σ') (hL:∀(ro:Option Nat) (C:ES) (ok:Nat→Prop) (H:List BO) (a:Act) (w:World),Holds C ok H σ' a w→wpOpIn (J3 ro) 0 P ops (fun e a' w'=>∃ok' H' σ',Holds C ok' H' σ' a' w'∧Q e σ') N (fun a' w'=>∃ok' H' σ',Holds C ok' H' σ' a' w'∧Q .normal σ') a w):AQ P (.region id ops true) σ Q:=by
 refine⟨fun ro _ C ok H a w hh=>?_⟩;simp only[CW]at hcalm;obtain⟨⟨⟨he,hd⟩,hs⟩,hc⟩:=hcalm;have aeB:=aYe he;have hinj:=aVx hd;have hcalm:=aRL hc
 have Xo:∀(i:Nat) (o:Oper) (d:Tmp),ops[i]? =some o→o.dst=some d→d<σ.slots.length:=by
  intro i o d h1 h2;unfold X7 at hs;rw[DY]at hs;simpa using hs d (aSG h1 h2)
 let r:Nat→AV:=fun i=>rs.getD i .junk
 let ev:Nat→List BA:=fun i=>ess.getD i []
 let bar:Nat→Bool:=fun i=>(bs++[true]).getD i false
 have hbN:bar N=true:=by simp[bar,List.getD,←hbl]
 obtain⟨Yi,hend⟩:=h.ayg N σ r ev bar 0 (fun k hk=>by
  simp only[FD]at hk
  rw[MB AA];simp) Dh rfl (fun k y hy=>by simp[r,List.getD,hy]) (fun k y hy=>by simp[ev,List.getD,hy]) (fun k y hy=>by have :=(FP.1 hy).1;simp only[bar,List.getD,JJ,Gq this,hy];rfl)
 let U:Nat→Am:=FY ops σ r ev
 have hU:∀i,i<ops.size→(U (i+1)).ents=ev i:=by
  intro i hi;have M:ops[i]? =some ops[i]:=Tf
  show(FY ops σ r ev (i+1)).ents=_;simp only[FY,M];rfl
 have hconst:∀n lo,(∀b,lo≤b→b<lo+n→bar b=false)→lo+n≤N→(U (lo+n)).ents=(U lo).ents:=by
  intro n
  induction n with
  |zero=>intro lo _ _;rfl
  |succ n ih=>
   intro lo z hle;have h1:=ih lo (fun b h1 h2=>z b h1 AA) AA;have hi:lo+n<ops.size:=AA
   have M:ops[lo+n]? =some ops[lo+n]:=Tf
   have h2:=(Yi (lo+n) _ AA AA M).2 (z (lo+n) AA AA);rw[←Rx,hU _ hi,h2];exact h1
 have Z:∀lo hi,lo≤hi→hi≤N→(∀b,lo≤b→b<hi→bar b=false)→(U hi).ents=(U lo).ents:=by
  intro lo hi h1 h2 h3;obtain⟨n,rfl⟩:=Nat.exists_eq_add_of_le h1;exact hconst n lo h3 h2
 refine wpIn_region_any hm ?_
 let I:Array Bool→Act→World→Prop:=fun l a w=>l.size=ops.size∧l.getD N false=false∧∃ok H m,m≤N∧(∀b,bar b=true→b<ops.size→(l.getD b false=true↔b<m))∧Ch C ok H (U m).ents w∧a.tmps.size=σ.slots.length∧Marks C ok w a.defers∧
  (∀t,t<σ.slots.length→(∀(j:Nat) (o:Oper),ops[j]? =some o→o.dst=some t→l.getD j false=false)→R ok w H (σ.slots.getD t .junk) (a.tmps.getD t undef))∧
  (∀(i:Nat) (o:Oper) (d:Tmp),ops[i]? =some o→o.dst=some d→l.getD i false=true→R ok w H (r i) (a.tmps.getD d undef))∧
  (∀(j:Nat) (o:Oper),ops[j]? =some o→l.getD j false=true→∀i,IE o i=true→l.getD i false=true)
 let I2:Array Bool→Act→World→Prop:=fun l a w=>I l a w∨(l.size=ops.size∧(Region.ready .any ops l=[]∧∃ok' H' σ',Holds C ok' H' σ' a w∧Q .normal σ'))
 refine aNf I2 (fun l a w h=>h.elim (fun h=>h.1) (fun h=>h.1)) ?_ ?_ ops.size _ _ _ ?_ ?_
 ·rintro l a w (⟨h1,hlN,ok,H,m,abL,adu,hmem0,hsz,hdf,h5,h6,h7⟩|⟨h1,h2,_⟩) i hi
  rotate_left
  ·rw[h2]at hi;simp at hi
  unfold Region.ready at hi;rw[FU]at hi;obtain⟨hi1,hi2⟩:=hi;have hi':i<ops.size:=by simpa using hi1
  have M:ops[i]? =some ops[i]:=by simp[hi']
  simp only[CW]at hi2;have aeC:=hi2.2;rw[M]at aeC;simp only[Ii,MK]at aeC;have arW:=fun e he=>(U3.1 aeC) e he
  have O:∀j,IE ops[i] j=true→l.getD j false=true∧j<i:=by
   intro j u;unfold IE at u;rw[Gn]at u;obtain⟨e,hee,u⟩:=u;simp only[CW,Gg]at u;have :=arW e (by simpa using hee);simp only[u.2,EF,NJ]at this;rw[u.1]at this;exact⟨this,u.1▸aeB i _ M e hee u.2⟩
  have Y:l.getD i false=false:=by
   have h8:=hi2.1;have hil:i<l.size:=AA
   simp[Array.getD,hil]at h8 ⊢;exact h8
  have J:∀(j:Nat) (o:Oper),ops[j]? =some o→l.getD j false=true→∀m,IE o m=true→l.getD m false=true:=fun j o u hl m hm=>h7 j o u hl m hm
  have hmem:Ch C ok H (U i).ents w:=by
   have hE:(U i).ents=(U m).ents:=by
    by_cases him:i≤m
    ·refine(Z i m him abL (fun b h2 h3=>?_)).symm;rw[←PE];intro z;have hbl:=(adu b z AA).2 h3;by_cases e:b=i
     ·subst e;rw[Y]at hbl;cases hbl
     have hob:ops[b]? =some (ops[b]' AA):=by simp[show b<ops.size by omega]
     have :=sI L (show b<ops.size by omega) z (D:=fun j=>l.getD j false=true) J (fun o M m hm=>J b o M hbl m hm) i AA;rw[Y]at this;cases this
    refine Z m i AA AA (fun b h2 h3=>?_);rw[←PE];intro z;have :=aYp L (show b<ops.size by omega) z (D:=fun j=>l.getD j false=true) J i h3 _ M (fun m hm=>(O m hm).1);exact absurd ((adu b z AA).1 this) AA
   rw[hE];exact hmem0
  by_cases hiN:i=N
  ·subst hiN;have aCa:∀j,j<i→l.getD j false=true:=fun j u=>sI L hi' hbN (D:=fun j=>l.getD j false=true) J (fun o ho' m hm=>aWm) j u
   have hH:Holds C ok H σ' a w:=by
    subst hend;refine⟨hmem,by rw[Xc];exact hsz,hdf,by rw[yH];exact hh.base,fun t ht=>?_⟩;rw[Xc]at ht;by_cases hw:∃(j:Nat) (o:Oper),ops[j]? =some o∧o.dst=some t
    ·obtain⟨j,o,u,q⟩:=hw;have hjn:j<ops.size:=(GX.1 u).1;by_cases hji:j<i
     ·rw[Zc hinj u q ht i hji];exact h6 j o t u q (aCa j hji)
     have hje:j=i:=AA
     subst hje;rw[Xe j (fun j' o' hj' ho' hd'=>aLS)];exact h5 t ht (fun j' o' ho' hd'=>by have :=hinj j j' o o' t u ho' q hd';subst this;exact hlN)
    have hw':∀(j:Nat) (o:Oper),ops[j]? =some o→o.dst≠some t:=fun j o h1 h2=>hw ⟨j,o,h1,h2⟩;rw[Xe i (fun j o _ u=>hw' j o u)];exact h5 t ht (fun j o u q=>absurd q (hw' j o u))
   refine wpOpIn_mono (fun a' w' hx=>.inr ⟨by simp[h1],?_,hx⟩) (hL ro C ok H a w hH);unfold Region.ready;rw[og];intro j u;have hjn:j<ops.size:=TP
   have hdn:(l.setIfInBounds i true).getD j true=true:=by
    by_cases hji:j=i
    ·subst hji;simp[Array.getD,h1,hi']
    have :=aCa j AA;simp only[Ih,O8 (Ne.symm hji)];have hjl:j<l.size:=AA
    simp[Array.getD,hjl]at this;simp[hjl,this]
   rw[hdn];simp
  have hiN:i<N:=AA
  have hread:∀t,t∈tmpsOf ops[i]→R ok w H ((FY ops σ r ev i).slots.getD t .junk) (a.tmps.getD t undef):=by
   intro t ht;by_cases hw:∃(j:Nat) (o:Oper),ops[j]? =some o∧o.dst=some t
   ·obtain⟨j,o,u,q⟩:=hw;rcases(hcalm i _ M).1 j o t u q ht with hce|hce
    ·obtain⟨hdj,hji⟩:=O j hce;rw[Zc hinj u q (Xo j o t u q) i hji];exact h6 j o t u q hdj
    have hij:i<j:=by
     unfold IE at hce;rw[Gn]at hce;obtain⟨e,hee,hce⟩:=hce;simp only[CW,Gg]at hce;exact hce.1▸aeB j _ u e hee hce.2
    rw[Xe i (fun j' o' hj' ho' hd'=>aLS)];refine h5 t (Xo j o t u q) (fun j' o' ho' hd'=>?_);have hjj:=hinj j j' o o' t u ho' q hd';subst hjj;rw[←PE];intro hd;rw[h7 j o u hd i hce]at Y;cases Y
   have hw':∀(j:Nat) (o:Oper),ops[j]? =some o→o.dst≠some t:=fun j o h1 h2=>hw ⟨j,o,h1,h2⟩;rw[Xe i (fun j o _ u=>hw' j o u)];by_cases htn:t<σ.slots.length
   ·exact h5 t htn (fun j o u q=>absurd q (hw' j o u))
   rw[oW htn];exact .junk _
  have ag6:∀j d v,IE ops[i] j=true→(ops[j]?).bind (·.dst)=some d→(FY ops σ r ev i).slots.getD d .junk=.d (.lit v)→yielded ops a.tmps j=(match v with | .bool b=>some b|_=>none):=by
   intro j d v u q z;cases hoj:ops[j]? with
   |none=>rw[hoj]at q;simp at q
   |some oj=>
    rw[hoj]at q;simp only[AO]at q;obtain⟨hdj,hji⟩:=O j u;have hdn:=Xo j oj d hoj q;rw[Zc hinj hoj q hdn i hji]at z;have hv:=(z▸h6 j oj d hoj q hdj).bool
    have hs:a.tmps[d]? =some v:=by
     have :d<a.tmps.size:=by rw[hsz];exact hdn
     simp[Array.getD,this]at hv;simp[this,hv]
    unfold yielded;rw[hoj];simp only[AO,q,hs];cases v<;>rfl
  have hput:∀(x:AV) (v:Value) (ok':Nat→Prop) (H':List BO) (w':World),x=r i→ER ok w ok' w'→Names H H'→Ch C ok' H' (ev i) w'→R ok' w' H' x v→I2 (l.setIfInBounds i true) (a.put ops[i].dst v) w':=by
   intro x v ok' H' w' hx hgr hnm hmem' hR;subst hx
   have hother:∀(d t:Nat),ops[i].dst=some d→d≠t→(a.put ops[i].dst v).tmps.getD t undef=a.tmps.getD t undef:=by
    intro d t hd hne;rw[hd];exact aSe hne
   obtain⟨m',awM,aow,awN⟩:∃m',m'≤N∧(∀b,bar b=true→b<ops.size→((l.setIfInBounds i true).getD b false=true↔b<m'))∧Ch C ok' H' (U m').ents w':=by
    have hget:∀b,b≠i→(l.setIfInBounds i true).getD b false=l.getD b false:=fun b z=>by
     simp only[Ih,O8 (Ne.symm z)]
    have awO:(l.setIfInBounds i true).getD i false=true:=by simp[Array.getD,h1,hi']
    cases hbi:bar i with
    |false=>
     refine⟨m,abL,fun b z hbs=>?_,?_⟩
     ·have hne:b≠i:=fun e=>by subst e;rw[hbi]at z;cases z
      rw[hget b hne];exact adu b z hbs
     have h2:=(Yi i _ AA hiN M).2 hbi;rw[h2]at hmem'
     have hE:(U i).ents=(U m).ents:=by
      by_cases him:i≤m
      ·refine(Z i m him abL (fun b h2 h3=>?_)).symm;rw[←PE];intro z;have hbl:=(adu b z AA).2 h3;by_cases e:b=i
       ·subst e;rw[Y]at hbl;cases hbl
       have :=sI L (show b<ops.size by omega) z (D:=fun j=>l.getD j false=true) J (fun o M m hm=>J b o M hbl m hm) i AA;rw[Y]at this;cases this
      refine Z m i AA AA (fun b h2 h3=>?_);rw[←PE];intro z;have :=aYp L (show b<ops.size by omega) z (D:=fun j=>l.getD j false=true) J i h3 _ M (fun m hm=>(O m hm).1);exact absurd ((adu b z AA).1 this) AA
     rw[←hE];exact hmem'
    |true=>
     refine⟨i+1,AA,fun b z hbs=>?_,by rw[hU i hi'];exact hmem'⟩;by_cases e:b=i
     ·subst e;rw[awO];simp
     rw[hget b e];constructor
     ·intro hbl;apply Xa;intro hn;have :=sI L hbs z (D:=fun j=>l.getD j false=true) J (fun o M m hm=>J b o M hbl m hm) i AA;rw[Y]at this;cases this
     intro hlt;exact sI L hi' hbi (D:=fun j=>l.getD j false=true) J (fun o ho' m hm=>aWm) b AA
   refine .inl ⟨by simp[h1],by simpa only[Ih,O8 (show i≠N by omega)]using hlN,ok',H',m',awM,aow,awN,by rw[size_put];exact hsz,by rw[aRZ];exact hdf.mono hgr,?_,?_,?_⟩
   ·intro t ht hno
    have hne:ops[i].dst≠some t:=by
     intro e;have :=hno i _ M e;simp[Array.getD,h1,hi']at this
    have hold:(a.put ops[i].dst v).tmps.getD t undef=a.tmps.getD t undef:=by
     cases hdi:ops[i].dst with
     |none=>rfl
     |some d=>exact hdi▸hother d t hdi (fun e=>hne (by rw[hdi,e]))
    rw[hold];refine(h5 t ht (fun j o u q=>?_)).mono hgr hnm;have hij:i≠j:=fun e=>by subst e;rw[M]at u;obtain rfl:=CV u;exact hne q
    have :=hno j o u q;simpa only[Ih,O8 hij]using this
   ·intro k o d hk hkd hl;by_cases hik:i=k
    ·subst hik;rw[M]at hk;obtain rfl:=CV hk;rw[hkd,aQJ (by rw[hsz];exact Xo i _ d M hkd)];exact hR
    have hl':l.getD k false=true:=by
     simp only[Ih,O8 hik]at hl ⊢;exact hl
    have :=(h6 k o d hk hkd hl').mono hgr hnm;cases hdst:ops[i].dst with
    |none=>exact this
    |some d'=>
     have hne:d'≠d:=fun e=>hik (hinj i k _ _ d' M hk hdst (e▸hkd));rw[←hdst,hother d' d hdst hne];exact this
   intro j o u hl k hk;have hil:i<l.size:=AA
   by_cases hik:i=k
   ·subst hik;simp[Array.getD,hil]
   have hkk:l.getD k false=true:=by
    by_cases hij:i=j
    ·subst hij;rw[M]at u;obtain rfl:=CV u;exact(O k hk).1
    have hl':l.getD j false=true:=by
     simp only[Ih,O8 hij]at hl ⊢;exact hl
    exact h7 j o u hl' k hk
   simp only[Ih,O8 hik]at hkk ⊢;exact hkk
  unfold wpOpIn;rw[M];show if Region.wanted ops[i] (yielded ops a.tmps)=true then _ else _
  rcases(Yi i ops[i] AA hiN M).1 with⟨ns,hop,amT,hnt,hg⟩|⟨hx,hev,hg⟩
  ·have hwant:Region.wanted ops[i] (yielded ops a.tmps)=true:=by
    unfold Region.wanted;rcases hg with hg|⟨j,want,d,b,hg,u,z,rfl⟩
    ·rw[hg]
    rw[hg];show(yielded ops a.tmps j==some b)=true;rw[ag6 j d _ ((hcalm i _ M).2 j b hg) u z];simp
   rw[CS hwant];refine Rh ?_ (hop.inR ro C ok H a w _ hmem (fun n hn=>?_))
   ·rintro a' w' ⟨v,ok',H',rfl,hgr,hnn,hm',hx⟩;exact hput _ v ok' H' w' rfl hgr hnn hm' hx
   have hnv:=Qs amT n hn;obtain⟨x,y⟩:=n;simp only at hnv ⊢;subst hnv;cases x with
   |tmp t=>
    refine hread t ?_;rw[DY]at hnt
    have :t∈Nv ns:=by
     unfold Nv;rw[Tj];exact⟨_,hn,rfl⟩
    simpa using hnt t this
   |const v=>exact .d _ _ (.lit v)
   |global g=>exact .d _ _ (.lit _)
   |func f=>exact .d _ _ (.fn (.func f) [] [] #[] #[] rfl rfl (fun i hi=>P7) (fun i hi=>P7))
  have hwant:Region.wanted ops[i] (yielded ops a.tmps)=false:=by
   unfold Region.wanted;obtain⟨j,want,d,v,hg,u,z,hv⟩:=hg;rw[hg];show(yielded ops a.tmps j==some want)=false;rw[ag6 j d _ ((hcalm i _ M).2 j want hg) u z];rcases hv with rfl|rfl
   ·simp
   rfl
  rw[CY (by rw[hwant];simp)];exact⟨fun _ _=>trivial,hput _ _ ok H w hx.symm (.refl _ _) (.refl _) (by rw[hev];exact hmem) (.d _ _ (.lit _))⟩
 ·rintro l a w (⟨h1,hlN,ok,H,m,abL,adu,hmem,hsz,hdf,h5,h6,h7⟩|⟨h1,_,h2⟩) hr
  rotate_left
  ·exact h2
  have hall:∀n i,i<n→i<ops.size→l.getD i false=true:=by
   intro n
   induction n with
   |zero=>intro i hi;omega
   |succ n ih=>
    intro i hi hi2;by_cases hn:i<n
    ·exact ih i hn hi2
    have hin:i=n:=AA
    subst hin;rw[←Bool.not_eq_false];intro hf;have M:ops[i]? =some ops[i]:=by simp[hi2]
    have hmem:i∈Region.ready .any ops l:=by
     unfold Region.ready;rw[FU];refine⟨by simpa using hi2,?_⟩;have hil:i<l.size:=AA
     have hf':l.getD i true=false:=aPa
     rw[hf',M];simp only[Io,GL,Ii,MK];rw[U3];intro e he;cases hbe:Region.binds .any e with
     |false=>simp
     |true=>
      have hlt:=aeB i _ M e aAV hbe;rw[ih e.on AA AA];simp
    rw[hr]at hmem;simp at hmem
  have :=hall (N+1) N AA AA;rw[hlN]at this;cases this
 ·unfold toCome;simp
 refine .inl ⟨BF,by simp[Array.getD],ok,H,0,Du _,fun b z _=>by simp[Array.getD],?_,hh.size,hh.defers.mono (fun b z=>⟨z,rfl⟩),fun t ht _=>?_,fun i o d _ _ hl=>?_,fun j o _ hl=>?_⟩
 ·exact⟨⟨hh.mem.fr.os,hh.mem.fr.tape,hh.mem.fr.output,hh.mem.fr.size,hh.mem.fr.block⟩,hh.mem.yR,hh.mem.yS,hh.mem.kP,hh.mem.names,hh.mem.hlen,fun k e h h1 h2=>(hh.mem.ent k e h h1 h2).drew,hh.mem.blk,hh.mem.DU⟩
 ·exact R.mono (w:=w) (ok:=ok) (w':={ w with drawn:=w.drawn+1 }) (fun b z=>⟨z,rfl⟩) (.refl _) (hh.slot t ht)
 ·simp[Array.getD]at hl
 simp[Array.getD]at hl
def AQ.aCb {id:Nat} {σ σ':Am} {Q:Exit→Am→Prop} {rs:List AV} {ess:List (List BA)} {bs:List Bool} (N:Nat) (h:Ep P ops (ops.toList.take N) σ rs ess bs σ') (hl:Ci P ops (ops.toList.drop N) σ' Q) (z:N+1=ops.size:=by kernel_rfl) (hm:P.follows .mixedOrders=true:=by kernel_rfl) (j:(Vs ops&&X6 ops&&X7 ops σ.slots.length&&Vw ops)=true:=by kernel_rfl) (I:bs.length=N:=by kernel_rfl) (q:UR ops (bs++[true])=true:=by kernel_rfl):AQ P (.region id ops true) σ Q:=by
 refine AQ.aFm N z hm j I q h fun ro C ok H a w O=>?_;have L:N<ops.size:=AA
 have hd:ops.toList.drop N=[ops[N]]:=by
  rw[Kw Vm];simp[←z]
 rw[hd]at hl;have M:=hl.run ro [] (fun e a' w'=>∃ok' H' σ',Holds C ok' H' σ' a' w'∧Q e σ') C ok H a w O ⟨fun σ' ok' H' a' w' J u=>⟨ok',H',σ',u,J⟩,fun v σ' ok' H' a' w' J u=>⟨ok',H',σ',u,J⟩⟩;unfold wpOpIn;have U:ops[N]? =some ops[N]:=by simp[L]
 rw[U];simp only[Yj,II,wpListIn]at M;exact M
end
section
variable {P : Program} {o : Oper} {es : List BA}
def aAp {t:TypeId} (e s:Nat) (I:(P.info? t).bind (·.zero)=some (.slice none 0 0)) (J:o.op=.alloc t):BU P o [] es (.ptr (es.length+1) 0) (es++[.arr e s [],.box [.bn es.length]]):=
 .eff fun C ok H a w hm Z=>by
  obtain⟨z,h2⟩:=aIp hm e s;have j:(H++[(⟨.slice none 0 0,s⟩:BO)]).length=(es++[BA.arr e s []]).length:=z.hlen;have L:(H++[(⟨.slice none 0 0,s⟩:BO)])[es.length]? =some ⟨.slice none 0 0,s⟩:=QC
  have M:Eo ok (w.alloc (.cells #[.slice none 0 0] t)) ((H++[⟨.slice none 0 0,s⟩])++[⟨.pointer (some ⟨w.heap.size,0,none⟩),0⟩]) ⟨.pointer (some ⟨w.heap.size,0,none⟩),0⟩ (.box [.bn es.length]):=by
   refine⟨w.heap.size, #[.slice none 0 0],t,rfl,YO w _,rfl,fun i hi=>?_⟩
   match i,hi with
   |0,_=>exact⟨rfl,.bn _ none 0 0 s (by rw[Gq dI];exact L)⟩
  obtain⟨O,U⟩:=z.push (.cells #[.slice none 0 0] t) ⟨.pointer (some ⟨w.heap.size,0,none⟩),0⟩ _ (aBS w) M;have q:Ch C ok ((H++[⟨.slice none 0 0,s⟩])++[⟨.pointer (some ⟨w.heap.size,0,none⟩),0⟩]) (es++[.arr e s [],.box [.bn es.length]]) (w.alloc (.cells #[.slice none 0 0] t)):=by simpa[Hw]using O
  refine⟨.pointer (some ⟨w.heap.size,0,none⟩),_,ok,_,.inl ?_,U,(Names.push _ _).trans (Names.push _ _),q,.ptr _ _ w.heap.size 0 ?_⟩
  ·obtain⟨i,hi,u⟩:=kG.1 I;have Y:Value.cells (.slice none 0 0)= #[.slice none 0 0]:=rfl;simp[execOp,J,Instr.alloc,zeroValue,typeInfo,hi,u,newVar,newRow,Y]
  rw[Ju (by rw[j];simp),j];simp
def aCt {α:Type} {x y:Operand} {t e:TypeId} {k n:Nat} {kd:IntKind} {i:Int} (enc:α→D) {l:List α} {a:α} (h:Af l i=some a) (hl:l.length=n) (ht:P.underlying t=some (.array n e)) (L:EM P e false 1) (M:es[k]? =some (.box (BG (MN enc l)))) (O:o.op=.indexAddr t x y):
 BU P o [(x,.ptr k 0),(y,.d (.lit (.int kd i)))] es (.ptr k i.toNat) es:=
 .pure fun ok H U w j u I=>by
  obtain⟨Y,Z⟩:=LU h;obtain⟨hd,hh,_⟩:=GR j u M;have z:=(Ef I).1;have J:=(Ef I).2.lit;simp only at z J;have hlt:=(FP.1 Z).1;have hu:(underlying t).run P w=.ok (.array n e) w:=OH
  generalize hv:U.eval x=v at z;cases z with
  |ptr _ _ b s hH=>
   have hb:0≤i∧i<n:=⟨Y,AA⟩
   refine⟨.pointer (some ⟨b,i.toNat,none⟩),?_,.ptr k _ b s hH⟩;have q:(⟨b,0,none⟩:Addr).add i.toNat=⟨b,i.toNat,none⟩:=by rw[addr_add,JJ]
   simp[execOp,O,hv,J,Instr.indexAt,asIntOf,hu,Instr.sureAddr,hb,L.size w,q]
def ajb {α:Type} {i:Int} {enc:α→D} {l:List α} {a:α} (h:Af l i=some a):(BG (MN enc l))[i.toNat]? =some (.d (enc a)):=by
 have j:=(LU h).2;simp[BG,MN,D.cells,j]
def zs {α:Type} {x:Operand} {t:TypeId} {k:Nat} {i:Int} (enc:α→D) {l:List α} {a:α} (h:Af l i=some a) (j:es[k]? =some (.box (BG (MN enc l)))) (q:EM P t false 1) (u:o.op=.load t x):BU P o [(x,.ptr k i.toNat)] es (.d (enc a)) es:=aRU j (ajb h) q u
def aWr {t:TypeId} {x:Operand} {y:D} (j:match P.underlying t with |some (.interface _)=>false|some _=>true|none=>false) (q:o.op=.makeInterface t x):BU P o [(x,.d y)] es (.d (.OV t y)) es:=
 .pure fun ok H a w _ _ u=>by
  have z:Dc ok w y (a.eval x):=by have :=u (x,.d y) BF;cases this with |d _ _ h=>exact h
  refine⟨.iface t (a.eval x),?_,.d _ _ (.OV t y _ z)⟩;cases ht:P.underlying t with
  |none=>rw[ht]at j;cases j
  |some d=>
   rw[ht]at j;have I:(underlying t).run P w=.ok d w:=OH
   cases d<;>first|(cases j;done)|simp[execOp,q,Instr.makeInterface,I]
def aRy {t:TypeId} {x:Operand} (us:List Value) (j:match P.underlying t with |some (.interface _)=>false|some _=>true|none=>false) (u:o.op=.makeInterface t x):BU P o [(x,.d (.agg (us.map .lit)))] es (.d (.lit (.iface t (.agg us.toArray)))) es:=
 .pure fun ok H a w _ _ z=>by
  have q:=(z (x,.d (.agg (us.map .lit))) BF).ahb;simp only at q;refine⟨.iface t (.agg us.toArray),?_,.d _ _ (.lit _)⟩;cases ht:P.underlying t with
  |none=>rw[ht]at j;cases j
  |some d=>
   rw[ht]at j;have I:(underlying t).run P w=.ok d w:=OH
   cases d<;>first|(cases j;done)|simp[execOp,u,Instr.makeInterface,I,q]
def su (P:Program) (t:TypeId) (j:String) (f:FuncId):Bool:=
 match P.info? t with
 |some i=>(match i.methods.find? (·.name==j)with
  |some m=>m.path.toList.isEmpty&&(match m.func with |some (g,p)=>decide (g=f)&& !p|none=>false)
  |none=>false)&&(match P.underlying t with |some (.pointer _)=>false|some _=>true|none=>false)
 |none=>false
def agP {t:TypeId} {j:String} {f:FuncId} (h:su P t j f=true) (n:Nat) (v:Value) (w:World):(method (n+1) t v j).run P w=.ok (f,v) w:=by
 unfold su at h;split at h
 ·rename_i i hi;rw[CW]at h;obtain⟨q,u⟩:=h;split at q
  ·rename_i m hm;rw[CW]at q;obtain⟨I,z⟩:=q;split at z
   ·rename_i g p J;simp only[CW,Gg,MF]at z;obtain⟨rfl,rfl⟩:=z;have hp:m.path.toList=[]:=List.isEmpty_iff.1 I;cases ht:P.underlying t with
    |none=>rw[ht]at u;cases u
    |some d=>
     rw[ht]at u;have L:∀w,(underlying t).run P w=.ok d w:=fun w=>OH
     cases d<;>first|(cases u;done)|simp[method,typeInfo,hi,hm,hp,follow,J,receiverAt,L,Place.get]
   cases z
  cases q
 cases h
def ab6 {f:FuncId} {j:Operand} {I:String} {ops:Array Operand} {ats:Array TypeId} {t:TypeId} (x:D) (q:List D) {z:AV} (hr:Ar P f ((x::q).map .d) [] z []) (hf:BD P f=true) (J:su P t I f=true) (hl:ops.toList.length=q.length) (O:z.up [] es.length=z)
 (ho:o.op=.call { callee:=.invoke j I,args:=ops,argTypes:=ats }):BU P o ((j,.d (.OV t x))::FM ops.toList (q.map .d)) es z es:=by
 intro C ok H a w Q hm hn;have Z:=hn (j,.d (.OV t x)) BF;simp only at Z;have L:=qL (xs:=ops.toList) (vs:=q.map .d) Lc (fun n hn'=>hn n (FB _ hn'));generalize hv:a.eval j=v at Z;cases Z with
 |d _ _ h=>
  cases h with
  |OV _ _ u h1=>
   unfold Oper.wp
   have he:(execOp a.eval o).run P w=.ok (.enter f (#[u]++ops.map a.eval)) w:=by
    have h2:=TG hf (#[u]++ops.map a.eval) w;have M:=agP J (P.types.size+99) u w;have h4:(#[Value.iface t u]++ops.map a.eval)[0]? =some (.iface t u):=by rw[Zx BF];rfl
    have h5:(#[Value.iface t u]++ops.map a.eval).extract 1 (#[Value.iface t u]++ops.map a.eval).size=ops.map a.eval:=by
     apply aOd;rw[Array.toList_extract];simp only[Array.size_append,Array.size_map,List.extract_eq_take_drop,Array.toList_append,lu,O6];simp;exact QB BF
    simp only[execOp,ho,resolve,hv,FT,Gj,Fh,invoke,h4,h5,callMethod];have h6:(program).run P w=.ok P w:=rfl;simp only[h6,Fh];have h7:P.types.size+Made.depth=P.types.size+99+1:=rfl;rw[h7,M];exact h2
   rw[he,dS];have U:(ops.map a.eval).size=q.length:=Lc
   refine(aUx hm hr _ (by simp at U;simp[U];omega) (fun i hi=>?_) O).mono ?_
   ·cases i with
    |zero=>
     have e0:(#[u]++ops.map a.eval).getD 0 undef=u:=by simp[Ih,Zx]
     rw[e0];exact h1
    |succ i=>
     have Y:i<q.length:=G9
     have M:=L i Vl;have e1:(q.map AV.d).getD i .junk=.d (q.getD i DT):=by simp[List.getD,Y]
     have hi2:i<ops.size:=aXC
     have e2:(#[u]++ops.map a.eval).getD (i+1) undef=(ops.toList.map a.eval).getD i undef:=by
      simp only[Ih,List.getD];rw[aK3 BF];simp[hi2]
     rw[e2];rw[e1]at M;have e3:(x::q).getD (i+1) DT=q.getD i DT:=BF
     rw[e3];cases M with |d _ _ h=>exact h
   rintro e w' ⟨v,ok',H',rfl,M,h4,h5,h6⟩;exact⟨v,ok',H',rfl,M,h4,h5,h6⟩
end
section
variable {P : Program} {ops : Array Oper} {o : Oper} {rest l : List Oper} {σ : Am} {K : Exit → Am → Prop}
def Ci.Dz {f:FuncId} {dX:List AV} {u:Value} (hr:aWc P f dX u) (hf:BD P f=true) (h:K (oZ u) σ) (J:V4 σ o=some (f,dX):=by kernel_rfl) (hd:dX.all AV.Au=true:=by kernel_rfl) (hg:Ja ops σ o.guard=some true:=by kernel_rfl):Ci P ops (o::rest) σ K:=by
 refine⟨fun ro l2 Q C ok H a w j hk=>?_⟩;show wpListIn (J3 ro) 0 P ops Q (o::(rest++l2)) a w;unfold wpListIn;rw[CS (Pe j (MO hg))];unfold V4 at J;split at J
 ·rename_i c O;split at J
  ·rename_i f' I;cases J;obtain⟨callee,args,ats⟩:=c;simp only at I;subst I;have z:(execOp a.eval o).run P w=.ok (.enter f (args.map a.eval)) w:=by rw[nK O,TG hf]
   unfold Oper.wpIn;rw[eM _ _ _ (by rw[O];intro c h;cases h),z]
   have M:Ch ⟨w,ok,[],[]⟩ ok [] [] w:=
    ⟨.refl _ _,fun _ h=>h,fun _ h=>.inl h,j.mem.kP,.refl _,rfl,fun k e h z=>xY,fun k e h b z=>xY,fun k k' e e' h h' b z=>xY⟩
   have key:Calls P f (args.map a.eval) w fun e w'=>e=.panicked [{ v:=u,recovered:=false }]∧∃ok',Holds C ok' H σ a w':=by
    refine(hr ok [] [] w _ M BF (fun i hi=>?_)).mono ?_
    ·have L:i<args.size:=G9
     have e1:(args.toList.map σ.get).getD i .junk=σ.get args[i]:=by simp[List.getD,L]
     have e2:(args.map a.eval).getD i undef=a.eval args[i]:=by simp[Array.getD,L]
     have U:AV.Au (σ.get args[i])=true:=by
      rw[DY]at hd;exact hd _ (E5.2 ⟨args[i],BF,rfl⟩)
     have Y:=j.get args[i];rw[e1,e2];generalize σ.get args[i]=y at U Y;cases y with
     |d y=>cases Y with |d _ _ h=>exact .d _ _ h
     |_=>cases U
    rintro e w' ⟨ok',H',rfl,q⟩;obtain⟨h1,Z⟩:=j.mem.change (ok':=ok) (H':=H) (es':=σ.ents) (w':=w') (fun _=>False) q.fr.os q.fr.tape q.fr.output q.fr.size (fun b hb _=>q.fr.block b hb BF) (fun _ h=>h.elim) (fun _ h=>h) (fun _ h=>.inl h) (.refl _) j.mem.hlen (fun k e h z j=>.inl ⟨z,j,fun _ _ _ h=>h⟩);exact⟨rfl,ok,h1,j.size,j.defers.mono Z,j.base,fun t ht=>(j.slot t ht).mono Z (.refl _)⟩
   refine⟨fun _ _=>trivial,fun h=>Gy,aEc.2 (key.mono ?_)⟩;rintro e w' ⟨rfl,ok',h5⟩;exact hk.2 _ _ _ _ _ _ h h5
  cases J
 cases J
end
def Ky {α β:Type} (r:Except Value α) (f:α→Option (Except Value β)):Option (Except Value β):=
 match r with
 | .ok a=>f a
 | .error u=>some (.error u)
def akA (p:Addr) (w:World):
 CallsD Tryz.prog 146 #[.pointer (some p)] .returning w fun e j w'=>e=.returned (.tuple #[])∧j=.returning∧w'=w:=by
 refine aAv Tryz.func146 rfl fun q cs u=>?_;apply PX;apply Q9;simp[wpOpsS,go_sem,recoverD,u,Tryz.ntmps146,Exit.thenS];apply PX;apply Q9;simp[wpOpsS,go_sem,Exit.thenS];refine lC (t:=false) eH ?_;simp only[Qm,Jh];refine wpS_of_wp (wp_skip ?_);cases q
 simp_all [bodyPostS,results,Tryz.results146]
def amu (b:Nat) (x:Value) (n:Int) (w:World) (L:w.heap[b]? =some (.cells #[x] 40 (0,0))):
 CallsD Tryz.prog 146 #[.pointer (some ⟨b,0,none⟩)] (.panicking [{ v:=.iface 165 (.agg #[.int .i64 n]),recovered:=false }]) w fun e M w'=>
  e=.returned (.tuple #[])∧M=.panicking [{ v:=.iface 165 (.agg #[.int .i64 n]),recovered:=true }]∧w.grownBy w' (some b)∧w'.heap[b]? =some (.cells #[.int .i64 n] 40 (0,0)):=by
 have q:∀(O:TypeId) (w:World),(Instr.typeAssert (.iface 165 (.agg #[.int .i64 n])) O 165 true).run Tryz.prog w=.ok (.tuple #[.agg #[.int .i64 n],.bool true]) w:=fun _ _=>A8
 have U:∀w:World,(Instr.alloc 165 true (.tuple #[])).run Tryz.prog w=.ok (.pointer (some ⟨w.heap.size,0,none⟩)) (w.alloc (.cells #[.int .i64 0] 165)):=fun w=>by
  simp[Instr.alloc,go_sem]
 have hst:∀w:World,(Instr.storeAt 165 (.pointer (some ⟨w.heap.size,0,none⟩)) (.agg #[.int .i64 n])).run Tryz.prog (w.alloc (.cells #[.int .i64 0] 165))=.ok () (w.alloc (.cells #[.int .i64 n] 165)):=fun w=>by
  simp[Instr.storeAt,go_sem]
 refine aAv Tryz.func146 rfl fun c₀ cs Y=>?_;apply PX;apply Q9;simp[wpOpsS,go_sem,recoverD,Y,Tryz.ntmps146,Exit.thenS];apply PX;apply Q9;simp[wpOpsS,go_sem,Exit.thenS];refine lC (t:=true) eH ?_;simp only[Jg];apply PX;apply Q9;simp[wpOpsS,execOp,q,U,hst,go_sem,Exit.thenS];apply PX;apply PX;apply Q9;simp[wpOpsS,go_sem,Exit.thenS];refine lC (t:=false) eH ?_;simp only[Qm,Jh];refine wpS_of_wp (wp_skip ?_);simp only[Exit.thenS];have u:b<w.heap.size:=(GX.1 L).1;have j:(w.alloc (.cells #[.int .i64 n] 165)).heap[b]? =some (.cells #[x] 40 (0,0)):=(Js _ _ _ u).trans L;have Z:(w.alloc (.cells #[.int .i64 n] 165)).cell? ⟨b,0,none⟩=some x:=aFB
 have z:(w.alloc (.cells #[.int .i64 n] 165)).frozen? ⟨b,0,none⟩=false:=by simp[World.frozen?,j]
 apply Q9;simp[wpOpsS,go_sem,Exit.thenS,Z,z,bodyPostS,results,Tryz.results146]
 have key:(w.alloc (.cells #[.int .i64 n] 165)).setCell ⟨b,0,none⟩ (.int .i64 n)=(w.alloc (.cells #[.int .i64 n] 165)).putObj b (.cells #[.int .i64 n] 40 (0,0)):=by
  simp only[World.setCell,World.putObj];congr 1;apply sO;intro i;rw[Nh,aNb];by_cases e:b=i
  ·subst e;rw[CS rfl,CS rfl,j,CS (GX.1 j).1];rfl
  rw[CY e,CY e]
 rw[key];have I:b<(w.alloc (.cells #[.int .i64 n] 165)).heap.size:=(GX.1 j).1;refine⟨⟨rfl,rfl,rfl,BF,fun i hi J=>?_⟩,X5 I⟩;rw[Xk (fun e=>J (by rw[e]))];exact Js _ _ _ hi
def TQ {T:Type}:Except Value T→Option Int
 | .ok _=>some 0
 | .error (.iface t (.agg cs))=>bif t==165 then(match cs.toList with | [.int .i64 n]=>some n|_=>none)else none
 | .error _=>none
def aYD (b:Nat) (n:Int) (w:World) (j:w.heap[b]? =some (.cells #[.int .i64 n] 40 (0,0))) (tmps:Array Value) (ht:tmps.getD 2 undef=.pointer (some ⟨b,0,none⟩)):(results Tryz.f81 tmps).run Tryz.prog w=.ok (.int .i64 n) w:=by
 have q:w.cell? ⟨b,0,none⟩=some (.int .i64 n):=aFB
 have e:results Tryz.f81 tmps=(do let v ←loadVar 40 (←asAddr (tmps.getD 2 undef));pure v):=by simp[results,Tryz.results81]
 rw[e,ht];simp[go_sem,q]
def aq6 {g:FuncId} {us:Array Value} {w:World} {n:Int} (he:∀(vs:Array Value) (w:World),(callFunc g vs).run Tryz.prog w=.ok (.enter g vs) w)
 (I:Calls Tryz.prog g us (w.alloc (.cells #[.int .i64 0] 40 (0,0))) fun e u=>(w.alloc (.cells #[.int .i64 0] 40 (0,0))).grownBy u none∧((∃v,e=.returned v∧n=0)∨e=.panicked [{ v:=.iface 165 (.agg #[.int .i64 n]),recovered:=false }])):
 Calls Tryz.prog 81 #[.func (.func g) #[] us] w fun e w'=>e=.returned (.int .i64 n)∧w.grownBy w' none:=by
 have Y:∀(fn:Fn) (first cap:Array Value) (w:World),(Instr.makeFunc fn first cap).run Tryz.prog w=.ok (.func fn first cap) w:=fun _ _ _ _=>rfl;have q:w.grownBy (w.alloc (.cells #[.int .i64 0] 40 (0,0))) none:=⟨rfl,rfl,rfl,BF,fun i hi _=>Js _ _ _ hi⟩
 go_enter_defers Tryz.func81,Tryz.ntmps81
 apply wp_seq;apply dG;refine .inl ?_;simp[Oper.wp,go_sem,wpList,Exit.then];apply wp_seq;apply dG;refine .inl ?_;simp[Oper.wp,go_sem,Y,wpList,Exit.then];refine .inl ?_;apply wp_seq;apply dG;refine .inl ?_;simp[Oper.wp,go_sem,he,wpList,Exit.then];refine .inl (I.mono ?_);rintro e u ⟨L,h⟩;have M:u.heap[w.heap.size]? =some (.cells #[.int .i64 0] 40 (0,0)):=(L.block w.heap.size BF BF).trans (kn _ _);have O:w.heap.size<u.heap.size:=(GX.1 M).1;have j:w.grownBy u none:=⟨L.os.trans q.os,L.tape.trans q.tape,L.output.trans q.output,Ed q.size L.size,fun i hi U=>(L.block i Dh U).trans (q.block i hi U)⟩
 have z:∀(Z:World) (m:Int),u.grownBy Z (some w.heap.size)→w.grownBy Z none:=fun Z m J=>⟨J.os.trans j.os,J.tape.trans j.tape,J.output.trans j.output,Ed j.size J.size,fun i hi U=>(J.block i (by have :=j.size;omega) Dh).trans (j.block i hi U)⟩
 rcases h with⟨v,rfl,rfl⟩|rfl
 ·have hc:u.cell? ⟨w.heap.size,0,none⟩=some (.int .i64 0):=by rw[World.cell?,M];rfl
  have hfz:u.frozen? ⟨w.heap.size,0,none⟩=false:=by simp[World.frozen?,M]
  apply wp_seq;apply dG;refine .inl ?_;simp[Oper.wp,go_sem,hc,hfz,wpList,Exit.then];apply wp_ret
  have key:u.setCell ⟨w.heap.size,0,none⟩ (.int .i64 0)=u.putObj w.heap.size (.cells #[.int .i64 0] 40 (0,0)):=by
   simp only[World.setCell,World.putObj];congr 1;apply sO;intro i;rw[Nh,aNb];by_cases e:w.heap.size=i
   ·subst e;rw[CS rfl,CS rfl,M,CS O];rfl
   rw[CY e,CY e]
  rw[key];refine leaves_cons (f:=146) (args:= #[.pointer (some ⟨w.heap.size,0,none⟩)]) BF aG3 ?_;refine(akA ⟨w.heap.size,0,none⟩ _).mono ?_;rintro e u' w'' ⟨rfl,rfl,rfl⟩;refine⟨.int .i64 0,aYD w.heap.size 0 _ (X5 O) _ rfl,rfl,z _ 0 ⟨rfl,rfl,rfl,BF,fun i hi hne=>Xk (fun e=>hne (by rw[e]))⟩⟩
 refine leaves_cons (f:=146) (args:= #[.pointer (some ⟨w.heap.size,0,none⟩)]) BF aG3 ?_;refine(amu w.heap.size (.int .i64 0) n u M).mono ?_;rintro e u' w'' ⟨rfl,rfl,J,h4⟩;exact⟨.int .i64 n,aYD w.heap.size n _ h4 _ rfl,rfl,z _ n J⟩
def aUj {T:Type} {res:T→AV} (g:FuncId) (j:List D) (r:Except Value T) (hr:Ph Tryz.prog g (j.map .d) r res) (M:BD Tryz.prog g=true) (n:Int) (z:TQ r=some n):
 BI 81 [.d (.fn (.func g) [] j)] [] (.d (Ac n)) []:=by
 intro ok X H w J hm hs ha;obtain rfl:H=[]:=Gf hm.hlen;have h0:=ha 0 BF
 obtain⟨fv,rfl⟩:∃fv,J= #[fv]:=by
  have h1:J.size=1:=hs;exact⟨J[0],by apply Zm (by simp[h1]);intro i h1 h2;simp at h2;subst h2;rfl⟩
 have h0:R ok w [] (.d (.fn (.func g) [] j)) fv:=h0;cases h0 with
 |d _ _ h0=>
 cases h0 with
 |fn _ _ _ vs us hl1 hl2 h1 h2=>
 obtain rfl:vs= #[]:=WX (by simpa using hl1);obtain⟨I,Y⟩:∃I,I=w.alloc (.cells #[.int .i64 0] 40 (0,0)):=⟨_,rfl⟩
 have hg1:ER ok w ok I:=fun b U=>⟨U,by rw[Y];exact Js _ _ _ (hm.kP b U)⟩
 have hmc:Ch ⟨I,ok,[],[]⟩ ok [] [] I:=
  ⟨.refl _ _,fun _ h=>h,fun _ h=>.inl h,fun b U=>by rw[Y];simp;exact Nat.lt_succ_of_lt (hm.kP b U),.refl _,rfl,fun k e h M=>by simp at M,fun k e h b M=>by simp at M,fun k k' e e' h h' b M=>by simp at M⟩
 have L:∀i,i<(j.map AV.d).length→R ok I [] ((j.map AV.d).getD i .junk) (us.getD i undef):=fun i hi=>by
  rw[CG]at hi;have e1:(j.map AV.d).getD i .junk=.d (j.getD i DT):=N7
  rw[e1];exact .d _ _ ((h2 i hi).mono hg1)
 have hgr:∀{Z:Nat→Prop} {H2:List BO} {w2:World},Ch ⟨I,ok,[],[]⟩ Z H2 [] w2→I.grownBy w2 none:=fun q=>⟨q.fr.os,q.fr.tape,q.fr.output,q.fr.size,fun b U _=>q.fr.block b U BF⟩
 have hcall:Calls Tryz.prog g us I fun e w2=>I.grownBy w2 none∧((∃v,e=.returned v∧n=0)∨e=.panicked [{ v:=.iface 165 (.agg #[.int .i64 n]),recovered:=false }]):=by
  cases O:r with
  |ok x=>
   rw[O]at z;refine(hr.1 x O ok [] [] I us hmc (by simpa using hl2) L).mono ?_;rintro e w2 ⟨v,Z,H2,rfl,q,_⟩;exact⟨hgr q,.inl ⟨v,rfl,(CV z).symm⟩⟩
  |error u=>
   rw[O]at z
   have hu:u=.iface 165 (.agg #[.int .i64 n]):=by
    unfold TQ at z;split at z
    ·rename_i h;cases h
    ·rename_i t cs h;cases h;cases ht:(t==165)with
     |false=>rw[ht]at z;cases z
     |true=>
      rw[ht]at z;simp only[Az]at z;obtain rfl:t=165:=aCu
      split at z
      ·rename_i m hcs;obtain rfl:=CV z;rw[←bg (xs:=cs),hcs]
      cases z
    cases z
   refine(hr.2 u O ok [] [] I us hmc (by simpa using hl2) L).mono ?_;rintro e w2 ⟨Z,H2,rfl,q⟩;exact⟨hgr q,.inr (by rw[hu])⟩
 subst Y;refine(aq6 (fun vs w=>TG M vs w) hcall).mono ?_;rintro e w' ⟨rfl,hg⟩;obtain⟨m1,_⟩:=hm.change (ok':=ok) (H':=[]) (es':=[]) (w':=w') (fun _=>False) hg.os hg.tape hg.output hg.size (fun b U _=>hg.block b U BF) (fun _ h=>h.elim) (fun _ h=>h) (fun _ h=>.inl h) (.refl _) rfl (fun k e h M=>by simp at M);exact⟨_,ok,[],rfl,m1,.d _ _ (.lit _)⟩
def setCell_eq {w:World} {b:Nat} {x y:Value} {t:TypeId} (j:w.heap[b]? =some (.cells #[x] t (0,0))):w.setCell ⟨b,0,none⟩ y=w.putObj b (.cells #[y] t (0,0)):=by
 simp only[World.setCell,World.putObj];congr 1;apply sO;intro i;rw[Nh,aNb];by_cases e:b=i
 ·subst e;rw[CS rfl,CS rfl,j,CS (GX.1 j).1];rfl
 rw[CY e,CY e]
def ah3 (p q:Addr) (w:World):
 CallsD Tryz.prog 401 #[.pointer (some p),.pointer (some q)] .returning w fun e j w'=>e=.returned (.tuple #[])∧j=.returning∧w'=w:=by
 refine aAv Tryz.func401 rfl fun u cs z=>?_;apply PX;apply Q9;simp[wpOpsS,go_sem,recoverD,z,Tryz.ntmps401,Exit.thenS];apply PX;apply Q9;simp[wpOpsS,go_sem,Exit.thenS];refine lC (t:=false) eH ?_;simp only[Qm,Jh];refine wpS_of_wp (wp_skip ?_);cases u
 simp_all [bodyPostS,results,Tryz.results401]
def ahP (b c:Nat) (ad:Option Addr) (n cap:Nat) (x:Value) (w:World) (Y:w.heap[b]? =some (.cells #[.slice ad n cap] 52 (0,0))) (Z:w.heap[c]? =some (.cells #[x] 52 (0,0))):
 CallsD Tryz.prog 401 #[.pointer (some ⟨b,0,none⟩),.pointer (some ⟨c,0,none⟩)] (.panicking [{ v:=.iface 331 (.agg #[]),recovered:=false }]) w fun e u' w'=>
  e=.returned (.tuple #[])∧u'=.panicking [{ v:=.iface 331 (.agg #[]),recovered:=true }]∧w.grownBy w' (some c)∧w'.heap[c]? =some (.cells #[.slice ad n cap] 52 (0,0)):=by
 have q:∀(t0:TypeId) (w:World),(Instr.typeAssert (.iface 331 (.agg #[])) t0 331 true).run Tryz.prog w=.ok (.tuple #[.agg #[],.bool true]) w:=fun _ _=>A8
 refine aAv Tryz.func401 rfl fun c₀ cs hu=>?_;apply PX;apply Q9;simp[wpOpsS,go_sem,recoverD,hu,Tryz.ntmps401,Exit.thenS];apply PX;apply Q9;simp[wpOpsS,go_sem,Exit.thenS];refine lC (t:=true) eH ?_;simp only[Jg];apply PX;apply PX;apply Q9;simp[wpOpsS,execOp,q,go_sem,Exit.thenS];apply PX;apply Q9;simp[wpOpsS,go_sem,Exit.thenS];refine lC (t:=false) eH ?_;simp only[Qm,Jh];refine wpS_of_wp (wp_skip ?_);simp only[Exit.thenS];have u:b<w.heap.size:=(GX.1 Y).1;have z:c<w.heap.size:=(GX.1 Z).1;have I:(w.alloc (.cells #[] 331)).heap[b]? =some (.cells #[.slice ad n cap] 52 (0,0)):=(Js _ _ _ u).trans Y;have j:(w.alloc (.cells #[] 331)).heap[c]? =some (.cells #[x] 52 (0,0)):=(Js _ _ _ z).trans Z;have J:(w.alloc (.cells #[] 331)).cell? ⟨b,0,none⟩=some (.slice ad n cap):=by rw[World.cell?,I];rfl
 have L:(w.alloc (.cells #[] 331)).cell? ⟨c,0,none⟩=some x:=aFB
 have M:(w.alloc (.cells #[] 331)).frozen? ⟨c,0,none⟩=false:=by simp[World.frozen?,j]
 apply Q9;simp[wpOpsS,go_sem,Exit.thenS,J,L,M,bodyPostS,results,Tryz.results401];rw[setCell_eq j];have O:c<(w.alloc (.cells #[] 331)).heap.size:=(GX.1 j).1;refine⟨⟨rfl,rfl,rfl,BF,fun i hi U=>?_⟩,X5 O⟩;rw[Xk (fun e=>U (by rw[e]))];exact Js _ _ _ hi
def step_fin (b:Nat) (v:Value) (w:World) (j:w.heap[b]? =some (.cells #[v] 52 (0,0))) (tmps:Array Value) (ht:tmps.getD 6 undef=.pointer (some ⟨b,0,none⟩)):(results Tryz.f378 tmps).run Tryz.prog w=.ok v w:=by
 have q:w.cell? ⟨b,0,none⟩=some v:=aFB
 have e:results Tryz.f378 tmps=(do let v ←loadVar 52 (←asAddr (tmps.getD 6 undef));pure v):=by simp[results,Tryz.results378]
 rw[e,ht];simp[go_sem,q]
def anp {l id:Value} {ad:Option Addr} {n cap:Nat} {w:World} {Rv:Value→World→Prop} {bad:Prop}
 (I:Calls Tryz.prog 402 #[l,.slice ad n cap,id] ((w.alloc (.cells #[.slice ad n cap] 52 (0,0))).alloc (.cells #[.slice none 0 0] 52 (0,0))) fun e j=>((w.alloc (.cells #[.slice ad n cap] 52 (0,0))).alloc (.cells #[.slice none 0 0] 52 (0,0))).grownBy j none∧((∃L n' q,e=.returned (.slice L n' q)∧Rv (.slice L n' q) j)∨(e=.panicked [{ v:=.iface 331 (.agg #[]),recovered:=false }]∧bad))):
 Calls Tryz.prog 378 #[l,.slice ad n cap,id] w fun e w'=>w.grownBy w' none∧((∃v j,e=.returned v∧Rv v j∧w.grownBy j none∧w.heap.size+1<j.heap.size∧j.grownBy w' (some (w.heap.size+1)))∨(e=.returned (.slice ad n cap)∧bad)):=by
 have hmf:∀(fn:Fn) (first cap:Array Value) (w:World),(Instr.makeFunc fn first cap).run Tryz.prog w=.ok (.func fn first cap) w:=fun _ _ _ _=>rfl;obtain⟨U,u⟩:∃U,U=(w.alloc (.cells #[.slice ad n cap] 52 (0,0))).alloc (.cells #[.slice none 0 0] 52 (0,0)):=⟨_,rfl⟩
 have hs1:U.heap.size=w.heap.size+2:=by rw[u];simp
 have Z:U.heap[w.heap.size]? =some (.cells #[.slice ad n cap] 52 (0,0)):=by rw[u];exact(Js _ _ _ BF).trans (kn w _)
 have h1c:U.heap[w.heap.size+1]? =some (.cells #[.slice none 0 0] 52 (0,0)):=by
  have :=kn (w.alloc (.cells #[.slice ad n cap] 52 (0,0))) (.cells #[.slice none 0 0] 52 (0,0));rw[aOQ]at this;rw[u];exact this
 have J:w.grownBy U none:=by
  rw[u];exact⟨rfl,rfl,rfl,Dh,fun i hi _=>(Js _ _ _ Dh).trans (Js _ _ _ hi)⟩
 have hcb:U.cell? ⟨w.heap.size,0,none⟩=some (.slice ad n cap):=by rw[World.cell?,Z];rfl
 rw[←u]at I
 go_enter_defers Tryz.func378,Tryz.ntmps378
 apply wp_seq;apply dG;refine .inl ?_;simp[Oper.wp,go_sem,wpList,Exit.then];rw[←u];have he:∀(vs:Array Value) (w:World),(callFunc 402 vs).run Tryz.prog w=.ok (.enter 402 vs) w:=fun vs w=>TG (P:=Tryz.prog) (f:=402) A8 vs w;refine .inl ?_;apply wp_seq;apply dG;refine .inl ?_;simp[Oper.wp,go_sem,hmf,wpList,Exit.then];refine .inl ?_;apply wp_seq;apply dG;refine .inl ?_;simp[Oper.wp,go_sem,wpList,Exit.then,hcb,he];refine .inl (.inl (.inl (I.mono ?_)));rintro e j ⟨Y,h⟩;have hb:j.heap[w.heap.size]? =some (.cells #[.slice ad n cap] 52 (0,0)):=(Y.block _ AA BF).trans Z;have hc:j.heap[w.heap.size+1]? =some (.cells #[.slice none 0 0] 52 (0,0)):=(Y.block _ AA BF).trans h1c;have hcl:w.heap.size+1<j.heap.size:=(GX.1 hc).1;have z:w.grownBy j none:=⟨Y.os.trans J.os,Y.tape.trans J.tape,Y.output.trans J.output,Ed J.size Y.size,fun i hi hn=>(Y.block i AA hn).trans (J.block i hi hn)⟩
 have O:∀(w3:World),j.grownBy w3 (some (w.heap.size+1))→w.grownBy w3 none:=fun w3 M=>⟨M.os.trans z.os,M.tape.trans z.tape,M.output.trans z.output,Ed z.size M.size,fun i hi hn=>(M.block i AA Dh).trans (z.block i hi hn)⟩
 rcases h with⟨L,n',q,rfl,hv⟩|⟨rfl,hbad⟩
 ·have hcc:j.cell? ⟨w.heap.size+1,0,none⟩=some (.slice none 0 0):=by rw[World.cell?,hc];rfl
  have hfz:j.frozen? ⟨w.heap.size+1,0,none⟩=false:=by simp[World.frozen?,hc]
  simp[hcc,hfz,go_sem,wpList,Exit.then];refine .inl (wp_ret ?_);rw[setCell_eq hc];refine leaves_cons (f:=401) (args:= #[.pointer (some ⟨w.heap.size,0,none⟩),.pointer (some ⟨w.heap.size+1,0,none⟩)]) BF aG3 ?_;refine(ah3 ⟨w.heap.size,0,none⟩ ⟨w.heap.size+1,0,none⟩ _).mono ?_;rintro e u' w'' ⟨rfl,rfl,rfl⟩;have M:j.grownBy (j.putObj (w.heap.size+1) (.cells #[.slice L n' q] 52 (0,0))) (some (w.heap.size+1)):=⟨rfl,rfl,rfl,BF,fun i hi hne=>Xk (fun e=>hne (by rw[e]))⟩
  exact⟨.slice L n' q,step_fin (w.heap.size+1) _ _ (X5 hcl) _ rfl,O _ M,.inl ⟨_,rfl,j,hv,z,hcl,M⟩⟩
 refine leaves_cons (f:=401) (args:= #[.pointer (some ⟨w.heap.size,0,none⟩),.pointer (some ⟨w.heap.size+1,0,none⟩)]) BF aG3 ?_;refine(ahP w.heap.size (w.heap.size+1) ad n cap (.slice none 0 0) j hb hc).mono ?_;rintro e u' w'' ⟨rfl,rfl,M,h4⟩;exact⟨.slice ad n cap,step_fin (w.heap.size+1) _ _ h4 _ rfl,O _ M,.inr ⟨rfl,hbad⟩⟩
def aG4 {T:Type} (s:T):Except Value T→Option T
 | .ok x=>some x
 | .error (.iface t (.agg cs))=>bif t==331&&cs.toList.isEmpty then some s else none
 | .error _=>none
def akR {T:Type} (enc:T→List D) (dl di:D) (s:T) (r:Except Value T) (hr:Ph Tryz.prog 402 [.d dl,.d (.sl (enc s)),.d di] r (fun x=>.d (.sl (enc x)))) (O:T) (Z:aG4 s r=some O):
 BI 378 [.d dl,.d (.sl (enc s)),.d di] [] (.d (.sl (enc O))) []:=by
 intro ok X H w I hm hs ha;obtain rfl:H=[]:=Gf hm.hlen;have hsz:I.size=3:=hs
 obtain⟨l,sv,id,rfl⟩:∃l sv id,I= #[l,sv,id]:=⟨I[0],I[1],I[2],by
  apply Zm (by simp[hsz]);intro i h1 h2
  match i,h2 with
  |0,_=>rfl
  |1,_=>rfl
  |2,_=>rfl⟩
 have a0:R ok w [] (.d dl) l:=ha 0 BF;have a1:R ok w [] (.d (.sl (enc s))) sv:=ha 1 BF;have a2:R ok w [] (.d di) id:=ha 2 BF
 have slv:∀{ok:Nat→Prop} {w:World} {H:List BO} {xs:List D} {v:Value},R ok w H (.d (.sl xs)) v→∃ad n cap,v=.slice ad n cap:=fun h=>by
  cases h with
  |d _ _ h=>cases h with
   |sl0 ad cap=>exact⟨_,_,_,rfl⟩
   |sl=>exact⟨_,_,_,rfl⟩
 obtain⟨ad,n,cap,rfl⟩:=slv a1;obtain⟨J,hw1⟩:∃J,J=(w.alloc (.cells #[.slice ad n cap] 52 (0,0))).alloc (.cells #[.slice none 0 0] 52 (0,0)):=⟨_,rfl⟩
 have hs1:J.heap.size=w.heap.size+2:=by rw[hw1];simp
 have hg1:ER ok w ok J:=fun b z=>⟨z,by rw[hw1];exact(Js _ _ _ (by have h:=hm.kP b z;rw[aOQ];omega)).trans (Js _ _ _ (hm.kP b z))⟩
 have hmc:Ch ⟨J,ok,[],[]⟩ ok [] [] J:=
  ⟨.refl _ _,fun _ h=>h,fun _ h=>.inl h,fun b z=>by have h:=hm.kP b z;rw[hs1];omega,.refl _,rfl,fun k e h he=>by simp at he,fun k e h b he=>by simp at he,fun k k' e e' h h' b he=>by simp at he⟩
 have U:∀i,i<3→R ok J [] ([AV.d dl,.d (.sl (enc s)),.d di].getD i .junk) ((#[l,.slice ad n cap,id]:Array Value).getD i undef):=fun i hi=>by
  match i,hi with
  |0,_=>exact a0.mono hg1 (.refl _)
  |1,_=>exact a1.mono hg1 (.refl _)
  |2,_=>exact a2.mono hg1 (.refl _)
 have hgr:∀{j:Nat→Prop} {H2:List BO} {M:World},Ch ⟨J,ok,[],[]⟩ j H2 [] M→J.grownBy M none:=fun q=>⟨q.fr.os,q.fr.tape,q.fr.output,q.fr.size,fun b z _=>q.fr.block b z BF⟩
 have Y:Calls Tryz.prog 402 #[l,.slice ad n cap,id] J fun e M=>J.grownBy M none∧((∃ad' n' L,e=.returned (.slice ad' n' L)∧∃x j,r=.ok x∧Ch ⟨J,ok,[],[]⟩ j [] [] M∧Dc j M (.sl (enc x)) (.slice ad' n' L))∨(e=.panicked [{ v:=.iface 331 (.agg #[]),recovered:=false }]∧O=s)):=by
  cases hrr:r with
  |ok x=>
   refine(hr.1 x hrr ok [] [] J _ hmc rfl U).mono ?_;rintro e M ⟨v,j,H2,rfl,q,hR⟩;obtain⟨ad',n',L,rfl⟩:=slv hR;obtain rfl:H2=[]:=Gf q.hlen;exact⟨hgr q,.inl ⟨ad',n',L,rfl,x,j,rfl,q,by cases hR with |d _ _ h=>exact h⟩⟩
  |error u=>
   rw[hrr]at Z
   have hu:u=.iface 331 (.agg #[])∧O=s:=by
    unfold aG4 at Z;split at Z
    ·rename_i h;cases h
    ·rename_i t cs h;cases h;cases ht:(t==331&&cs.toList.isEmpty)with
     |false=>rw[ht]at Z;cases Z
     |true=>
      rw[ht]at Z;simp only[CW]at ht;obtain rfl:t=331:=by simpa using ht.1
      have :cs= #[]:=by rw[←bg (xs:=cs),List.isEmpty_iff.1 ht.2]
      subst this;exact⟨rfl,(CV Z).symm⟩
    cases Z
   refine(hr.2 u hrr ok [] [] J _ hmc rfl U).mono ?_;rintro e M ⟨j,H2,rfl,q⟩;exact⟨hgr q,.inr ⟨by rw[hu.1],hu.2⟩⟩
 rw[hw1]at Y;refine(anp Y (Rv:=fun v M=>∃x j,r=.ok x∧Ch ⟨_,ok,[],[]⟩ j [] [] M∧Dc j M (.sl (enc x)) v) (bad:=O=s)).mono ?_;rw[←hw1];rintro e w' ⟨hg,h⟩
 have mk:∀(j:Nat→Prop),(∀b,ok b→j b)→(∀b,j b→ok b∨(w.heap.size≤b∧b<w'.heap.size))→Ch ⟨w,ok,X,[]⟩ j [] [] w':=fun j h1 h2=>
  (hm.change (ok':=j) (H':=[]) (es':=[]) (w':=w') (fun _=>False) hg.os hg.tape hg.output hg.size (fun b z _=>hg.block b z BF) (fun _ h=>h.elim) h1 h2 (.refl _) rfl (fun k e h he=>by simp at he)).1
 rcases h with⟨v,M,rfl,⟨x,j,hx,q,hD⟩,hg2,hlt,h3⟩|⟨rfl,rfl⟩
 ·rw[hx]at Z;obtain rfl:=CV Z
  have hgg:ER j M j w':=fun b z=>⟨z,h3.block b (q.kP b z) (fun e=>by
   obtain rfl:=CV e;rcases q.yS _ z with h|h|h
   ·have :=hm.kP _ h;omega
   ·simp only at h;omega
   simp at h)⟩
  refine⟨v,j,[],rfl,mk j q.yR (fun b z=>?_),.d _ _ (hD.mono hgg)⟩;rcases q.yS b z with h|h|h
  ·exact .inl h
  ·simp only at h;exact .inr ⟨AA,Uu (q.kP b z) h3.size⟩
  simp at h
 have hgg:ER ok w ok w':=fun b z=>⟨z,hg.block b (hm.kP b z) BF⟩
 exact⟨_,ok,[],rfl,mk ok (fun _ h=>h) (fun _ h=>.inl h),a1.mono hgg (.refl _)⟩
end Go.Proofs.YtkkdimcnpacjhaaGreat
end
section
namespace Go.Proofs
open Go.Proofs.YtkkdimcnpacjhaaGreat
open Go.Shelf
def Tryz.Yv:Go.Shelf.Ren:=⟨fun |6=>438|15=>124|14=>442|28=>215|29=>216|20=>443|21=>444|22=>445|23=>446|24=>447|25=>448|26=>449|27=>450|46=>451|47=>307|48=>308|49=>452|50=>453|57=>454|n=>n,fun |22=>358|24=>360|25=>362|3=>3|39=>148|0=>0|53=>212|55=>214|4=>4|46=>206|45=>205|50=>47|5=>5|9=>9|66=>279|70=>283|76=>305|77=>306|n=>n,fun |n=>n⟩
def Tryz.asw:SlLaysF0.n6 Tryz.prog Tryz.Yv:={
 mixed:=A8
 f6:=⟨Tryz.f438.name,BK,Tryz.func438.trans (Aq some A8)⟩
 f14:=⟨Tryz.f442.name,BK,Tryz.func442.trans (Aq some A8)⟩
 f15:=Tryz.func124.trans (Aq some A8)
 f20:=⟨Tryz.f443.name,BK,Tryz.func443.trans (Aq some A8)⟩
 f21:=⟨Tryz.f444.name,BK,Tryz.func444.trans (Aq some A8)⟩
 f22:=⟨Tryz.f445.name,BK,Tryz.func445.trans (Aq some A8)⟩
 f23:=⟨Tryz.f446.name,BK,Tryz.func446.trans (Aq some A8)⟩
 f24:=⟨Tryz.f447.name,BK,Tryz.func447.trans (Aq some A8)⟩
 f25:=⟨Tryz.f448.name,BK,Tryz.func448.trans (Aq some A8)⟩
 f26:=⟨Tryz.f449.name,BK,Tryz.func449.trans (Aq some A8)⟩
 f27:=⟨Tryz.f450.name,BK,Tryz.func450.trans (Aq some A8)⟩
 f28:=Tryz.func215.trans (Aq some A8)
 f29:=Tryz.func216.trans (Aq some A8)
 f46:=⟨Tryz.f451.name,BK,Tryz.func451.trans (Aq some A8)⟩
 f47:=Tryz.func307.trans (Aq some A8)
 f48:=Tryz.func308.trans (Aq some A8)
 f49:=⟨Tryz.f452.name,BK,Tryz.func452.trans (Aq some A8)⟩
 f50:=⟨Tryz.f453.name,BK,Tryz.func453.trans (Aq some A8)⟩
 f57:=⟨Tryz.f454.name,BK,Tryz.func454.trans (Aq some A8)⟩
 t0:=aBG
 a0:=Tryz.isAgg0
 z0:=Tryz.sizeOf0
 v0:=aDD
 t3:=FX
 a3:=eB
 z3:=jU
 v3:=eI
 t4:=Tv
 a4:=sH
 z4:=ou
 v4:=sQ
 t5:=xK
 a5:=vH
 z5:=yE
 v5:=tY
 t9:=Ir
 a9:=yG
 z9:=sW
 v9:=xk
 t22:=Tryz.underlying358
 a22:=Tryz.isAgg358
 z22:=Tryz.sizeOf358
 v22:=Tryz.zeroValue358
 t25:=Tryz.underlying362
 a25:=Tryz.isAgg362
 z25:=Tryz.sizeOf362
 v25:=Tryz.zeroValue362
 t39:=aDQ
 a39:=Tryz.isAgg148
 z39:=aBO
 v39:=aBx
 t45:=Tryz.underlying205
 a45:=Tryz.isAgg205
 z45:=Tryz.sizeOf205
 v45:=Tryz.zeroValue205
 t46:=Tryz.underlying206
 a46:=Tryz.isAgg206
 z46:=Tryz.sizeOf206
 v46:=Tryz.zeroValue206
 t50:=Tryz.underlying47
 a50:=Tryz.isAgg47
 z50:=Tryz.sizeOf47
 v50:=Tryz.zeroValue47
 t53:=aCJ
 a53:=Tryz.isAgg212
 z53:=aC6
 v53:=aF8
 t55:=Tryz.underlying214
 a55:=Tryz.isAgg214
 z55:=Tryz.sizeOf214
 v55:=Tryz.zeroValue214
 t66:=Tryz.underlying279
 a66:=Tryz.isAgg279
 z66:=Tryz.sizeOf279
 v66:=Tryz.zeroValue279
 t70:=Tryz.underlying283
 a70:=Tryz.isAgg283
 z70:=Tryz.sizeOf283
 v70:=Tryz.zeroValue283
 t76:=Tryz.underlying305
 a76:=Tryz.isAgg305
 z76:=Tryz.sizeOf305
 v76:=Tryz.zeroValue305
 t77:=Tryz.underlying306
 a77:=Tryz.isAgg306
 z77:=Tryz.sizeOf306
 v77:=Tryz.zeroValue306 }
end Go.Proofs
end
section
namespace Go.Proofs.YtkkdimcnpacjhaaGreat
open Go.RowKit Go.Sort
section
variable {α : Type}
def dV (le:α→α→Bool) (x:α):List α→List α
 | []=>[x]
 |y::l=>bif le x y then x::y::l else y::dV le x l
def LM (le:α→α→Bool) (l:List α):List α:=l.foldr (dV le) []
def aOZ (le:α→α→Bool) (x:α):∀l,(dV le x l).Perm (x::l)
 | []=>.refl _
 |y::l=>by
  unfold dV;cases h:le x y with
  |true=>exact .refl _
  |false=>exact((aOZ le x l).cons y).trans (.swap x y l)
def TM (le:α→α→Bool):∀l,(LM le l).Perm l
 | []=>.refl _
 |x::l=>(aOZ le x (LM le l)).trans ((TM le l).cons x)
def aWz {le:α→α→Bool} (ht:∀x y z,le x y=true→le y z=true→le x z=true) (u:∀x y,le x y=false→le y x=true) (x:α):∀l,l.Pairwise (fun a b=>le a b=true)→(dV le x l).Pairwise (fun a b=>le a b=true)
 | [],_=>by simp[dV]
 |y::l,h=>by
  have h':=OC.1 h;unfold dV;cases q:le x y with
  |true=>
   refine OC.2 ⟨fun z j=>?_,h⟩;rcases EX.1 j with rfl|j
   ·exact q
   exact ht x y z q (h'.1 z j)
  |false=>
   refine OC.2 ⟨fun z j=>?_,aWz ht u x l h'.2⟩;rcases EX.1 ((aOZ le x l).mem_iff.1 j)with rfl|j
   ·exact u _ _ q
   exact h'.1 z j
def aD5 {le:α→α→Bool} (ht:∀x y z,le x y=true→le y z=true→le x z=true) (j:∀x y,le x y=false→le y x=true):∀l:List α,(LM le l).Pairwise (fun a b=>le a b=true)
 | []=>.nil
 |x::l=>aWz ht j x _ (aD5 ht j l)
def aVH {le:α→α→Bool} (ht:∀x y z,le x y=true→le y z=true→le x z=true) (j:∀x y,le x y=false→le y x=true) (ha:∀x y,le x y=true→le y x=true→x=y) {l m:List α} (hp:m.Perm l) (hs:m.Pairwise (fun a b=>le a b=true)):m=LM le l:=
 (hp.trans (TM le l).symm).eq_of_pairwise (fun a b _ _ q u=>ha a b q u) hs (aD5 ht j l)
def aJL {e:α→D} {enc:α→List Value} (j:∀x,(e x).cells=(enc x).map .lit):∀l:List α,flat (l.map e)=(l.flatMap enc).map fun v=>.d (.lit v)
 | []=>rfl
 |x::l=>by rw[Ip,UN,aJL j l,j,KO,KL,Uh];rfl
def pF {enc:α→List Value} {k:Nat} (j:∀x,(enc x).length=k):∀l:List α,(l.flatMap enc).length=l.length*k
 | []=>BF
 |x::l=>by rw[KO,EI,j,pF j l,G7,XU,aBP,VO]
def aVr {e:α→D} {enc:α→List Value} {k:Nat} (u:∀x,(e x).cells=(enc x).map .lit) (L:∀x,(enc x).length=k) (Y:∀x,∀v∈enc x,v.oneCell'=true) {ok:Nat→Prop} {w:World} {H:List BO} {h:BO} {T:TypeId} {l:List α}:
 Eo ok w H h (.arr T k (l.map e))↔h.size=k∧lM w T k h.v l.length (l.flatMap enc):=by
 have hl:=pF L l;constructor
 ·rintro⟨z,_,xs,q,I,M⟩;refine⟨z,?_⟩;rw[CG]at q
  have :xs=l.flatMap enc:=by
   rw[aJL u]at I M;rw[CG]at I;refine uQ I fun i hi O=>?_;have U:=(M i zO).2;simp only[List.getD,JG,D8 O,Ii,MK,D8 hi]at U;cases U with |d _ _ h=>rw[Dc.ado h]
  rw[←this];exact q
 rintro⟨z,q⟩;refine⟨z,fun x J=>?_,l.flatMap enc,by rw[CG];exact q,?_⟩
 ·obtain⟨n,_,rfl⟩:=E5.1 J;rw[u,CG,L]
 rw[aJL u];refine⟨BF,fun i hi=>?_⟩;have j:i<(l.flatMap enc).length:=G9
 simp only[List.getD,JG,D8 j,Ii,MK];refine⟨?_,.d _ _ (.lit _)⟩;obtain⟨x,_,J⟩:=SI.1 (EJ j);exact Y x _ J
def aWS {j:Array Value} (hs:j.size=2):j= #[j.getD 0 undef,j.getD 1 undef]:=by
 refine Zm (by simp[hs]) fun i u q=>?_;simp at q;have :i=0∨i=1:=AA
 rcases this with rfl|rfl<;>simp[Array.getD,hs]
def Ar.aAl {P:Program} {f g:FuncId} {T:TypeId} {k:Nat} {e:α→D} {enc:α→List Value} (L:∀x,(e x).cells=(enc x).map .lit) (hk:∀x,(enc x).length=k) (h1:∀x,∀v∈enc x,v.oneCell'=true) {l r:List α}
 (h:∀(v:Value) (w:World),lM w T k v l.length (l.flatMap enc)→Calls P f #[v,.func (.func g) #[] #[]] w fun x w'=>x=.returned (.tuple #[])∧lM w' T k v r.length (r.flatMap enc)∧Turns v w w'):
 Ar P f [.bn 0,.d (.fn (.func g) [] [])] [.arr T k (l.map e)] (.eu []) [.arr T k (r.map e)]:=by
 intro ok X H w I hm hs ha;have h0:=ha 0 BF;have M:=ha 1 BF;rw[aWS hs];obtain⟨hd,Z,hok⟩:=GR hm.ent hm.hlen (k:=0) rfl;obtain hv:=O5 h0 Z
 have hf:I.getD 1 undef=.func (.func g) #[] #[]:=by
  simp only[List.getD,qc,aDC,MK]at M;generalize I.getD 1 undef=u at M;cases M with
  |d _ _ M=>
   cases M with
   |fn _ _ _ vs us hl hm'=>
    have e1:vs= #[]:=WX Lc;have e2:us= #[]:=WX (by simpa using hm');rw[e1,e2]
 rw[hv,hf];obtain⟨hz,how⟩:=(aVr L hk h1).1 hok;refine(h hd.v w how).mono ?_;rintro x w' ⟨rfl,O,ht⟩;have z:=fun b U=>hm.blk 0 _ hd b rfl rfl Z U
 have hg:=hm.change (ok':=ok) (H':=H) (w':=w') (es':=[.arr T k (r.map e)]) (fun c=>Cx hd.v=some c) ht.os ht.tape ht.output ht.size ht.block (fun c L _=>⟨(z c L).1,(z c L).2.2⟩) (fun _ h=>h) (fun _ h=>.inl h) (.refl _) hm.hlen (by
  intro j e' h' q Y
  match j,q with
  |0,q=>
   simp at q;subst q;rw[Z]at Y;obtain rfl:=CV Y;refine .inr ⟨(aVr L hk h1).2 ⟨hz,O⟩,fun _ b U=>⟨(z b U).1,Uu (z b U).2.1 ht.size,(z b U).2.2,fun k' e'' h'' hne J=>?_⟩⟩
   match k',J with
   |0,_=>exact absurd rfl hne
   |k'+1,J=>simp at J
  |k+1,q=>simp at q)
 exact⟨_,ok,H,rfl,hg.1,.eu [] #[] rfl (fun i hi=>P7)⟩
end
section
variable {α : Type} [Inhabited α]
def aFY {enc:α→List Value} {k:Nat} (j:∀x,(enc x).length=k) (l:List α):(flatK enc k l.toArray).toList=l.flatMap enc:=by
 have key:∀(l:List α) (t:Nat),t<l.length*k→(enc (l[t/k]?.getD default))[t % k]? =(l.flatMap enc)[t]? :=by
  intro l
  induction l with
  |nil=>intro t ht;simp at ht
  |cons x l z=>
   intro t ht;rw[G7,XU,aBP]at ht;rw[KO];by_cases h:t<k
   ·rw[Nat.div_eq_of_lt h,Nat.mod_eq_of_lt h,Gq (by rw[j];exact h)];rfl
   have h':k≤t:=UU h;rcases WT k with q|q
   ·subst q;simp at ht
   have I:t/k=(t-k)/k+1:=Nat.div_eq_sub_div q h';rw[I,Nat.mod_eq_sub_mod h',Ju (by rw[j];exact h'),j,←z (t-k) AA,qc]
 refine uQ (by simp[pF j]) fun t J L=>?_;have ht:t<l.length*k:=Rs
 have :=key l t ht;rw[D8 L]at this;have u:=get_flatK enc k l.toArray t aCu;rw[YS _ _ aCu]at u;rw[Array.getElem_toList,u];have M:(l.toArray)[t/k]! =l[t/k]?.getD default:=BF
 rw[M];simp[List.getElem!_eq_getElem?_getD,this]
end
def JO (a b:Int):Int:=if a<b then -1 else if a>b then 1 else 0
def YG (p q:Int×Int×Int):Int:=if p.2.1=q.2.1 then(if p.2.2=q.2.2 then JO p.1 q.1 else JO p.2.2 q.2.2)else JO q.2.1 p.2.1
def xQ (a b:Int):JO a b<0↔a<b:=by
 unfold JO;split
 ·omega
 split<;>omega
def adY (p q:Int×Int×Int):YG p q<0↔q.2.1<p.2.1∨p.2.1=q.2.1∧(p.2.2<q.2.2∨p.2.2=q.2.2∧p.1<q.1):=by
 unfold YG;split
 ·split
  ·rw[xQ];omega
  rw[xQ];omega
 rw[xQ];omega
def alF (a b:Int) (W:World):Calls Tryz.prog 440 #[.int .i64 a,.int .i64 b] W fun e w'=>e=.returned (.int .i64 (JO a b))∧w'=W:=by
 unfold JO
 go_enter Tryz.func440,Tryz.ntmps440
 go_wp2
 all_goals (go_ret;exact⟨rfl,rfl⟩)
set_option maxHeartbeats 1000000 in
def aiz (r p1 p2 p3 q1 q2 q3:Int) (hr:r=if p2=q2 then(if p3=q3 then JO p1 q1 else JO p3 q3)else JO q2 p2) (W:World):Calls Tryz.prog 439 #[.agg #[.int .i64 p1,.int .i64 p2,.int .i64 p3],.agg #[.int .i64 q1,.int .i64 q2,.int .i64 q3]] W fun e w'=>e=.returned (.int .i64 r)∧∃q u,w'=grow (W.drewN q) u:=by
 have j:=alF;generalize JO=c at j hr;have z:p2≠q2→c q2 p2=r:=fun h=>by rw[hr,CY h]
 have I:p2=q2→p3≠q3→c p3 q3=r:=fun h k=>by rw[hr,CS h,CY k]
 have J:p2=q2→p3=q3→c p1 q1=r:=fun h k=>by rw[hr,CS h,CS k]
 clear hr
 go_enter Tryz.func439,Tryz.ntmps439
 go_wp2_with (go_at_call 440;refine(j _ _ _).mono ?_;rintro e w' ⟨rfl,rfl⟩)
 all_goals go_ret
 ·rename_i h;rw[z JZ];exact⟨rfl,0,_,aNn⟩
 ·rename_i h k;rw[I JZ (by simpa using k)];exact⟨rfl,0,_,aNn⟩
 rename_i h k;rw[J JZ (by simpa using k)];exact⟨rfl,0,_,aNn⟩
def KP (p q:Int×Int×Int):Bool:= !decide (YG q p<0)
def rP (p q:Int×Int×Int):KP p q=true↔¬(p.2.1<q.2.1∨q.2.1=p.2.1∧(q.2.2<p.2.2∨q.2.2=p.2.2∧q.1<p.1)):=by
 unfold KP;rw[MF,P8,adY]
def aMj (x y z:Int×Int×Int) (h:KP x y=true) (k:KP y z=true):KP x z=true:=by
 rw[rP]at *;omega
def aa0 (x y:Int×Int×Int) (h:KP x y=false):KP y x=true:=by
 have h:¬KP x y=true:=by rw[h];decide
 rw[rP]at *;omega
def aUg (x y:Int×Int×Int) (h:KP x y=true) (k:KP y x=true):x=y:=by
 rw[rP]at *;obtain⟨j,q,u⟩:=x;obtain⟨z,I,J⟩:=y;simp only[QL]at *;omega
def aTv (p q:Int×Int×Int):KP p q=false↔(p.2.1<q.2.1∨q.2.1=p.2.1∧(q.2.2<p.2.2∨q.2.2=p.2.2∧q.1<p.1)):=by
 rw[←PE,rP,Decidable.not_not]
def ap8 (x y z:Int×Int×Int) (h:KP y x=false) (k:KP z y=false):KP z x=false:=by
 rw[aTv]at *;omega
section
variable {α : Type}
def aCy (f:α→Int×Int×Int) (l:List α):Option (List α):=if l.length≤1099511627776 then some (LM (fun x y=>KP (f x) (f y)) l)else none
def PN (f:α→Int×Int×Int) (x:α):List Value:=[.int .i64 (f x).1,.int .i64 (f x).2.1,.int .i64 (f x).2.2]
def aks (f:α→Int×Int×Int) (x:α):(PN f x).length=3:=rfl
def aWd (f:α→Int×Int×Int) (x:α):∀v∈PN f x,v.oneCell'=true:=fun v j=>by
 simp[PN]at j;rcases j with rfl|rfl|rfl<;>rfl
def aE6 (f:α→Int×Int×Int) (x y:α):ltOf (fun x y=>YG (f x) (f y)) x y= !KP (f y) (f x):=by simp[ltOf,KP]
def akX (f:α→Int×Int×Int):SWO (ltOf fun x y:α=>YG (f x) (f y)):=by
 refine⟨fun x=>?_,fun x y z h k=>?_,fun x y z h k=>?_⟩
 ·rw[aE6,(rP (f x) (f x)).2 AA];rfl
 ·rw[aE6,MF]at *;exact ap8 _ _ _ h k
 rw[aE6,Bool.not_eq_false']at *;exact aMj _ _ _ k h
variable [Inhabited α]
def afR (f:α→Int×Int×Int) (blk off size:Nat) (w:World):CmpLays Tryz.prog 439 #[] (PN f) 3 (fun x y=>YG (f x) (f y)) blk off size w:=
 fun m os j _ x y=>aiz (YG (f x) (f y)) (f x).1 (f x).2.1 (f x).2.2 (f y).1 (f y).2.1 (f y).2.2 rfl (sortWorldK (PN f) 3 w blk off m j os)
set_option maxHeartbeats 2000000 in
def asC (f:α→Int×Int×Int) (hf:∀x y,f x=f y→x=y) (e:α→D) (he:∀x,e x=.agg [Ac (f x).1,Ac (f x).2.1,Ac (f x).2.2]) (l r:List α) (h:aCy f l=some r):
 BI 438 [.bn 0,.d (.fn (.func 439) [] [])] [.arr 360 3 (l.map e)] (.eu []) [.arr 360 3 (r.map e)]:=by
 unfold aCy at h;split at h
 ·rename_i hn;obtain rfl:=CV h;have U:=aks f;refine Ar.aAl (enc:=PN f) (fun x=>by rw[he];rfl) U (aWd f) fun v w how=>?_;generalize hr:LM (fun x y=>KP (f x) (f y)) l=r;have I:r.length=l.length:=by rw[←hr];exact(TM _ l).length_eq
  rcases how.2 with⟨rfl,h0⟩|⟨g,cap,cur,rfl,hbase,hg,hnc,hcm,hcs,J⟩
  ·have hl:l=[]:=Gf h0;have hl':r=[]:=Gf (by rw[I,h0]);subst hl;subst hl';refine(AnyF.slices_SortFunc_none (P:=Tryz.prog) (ρ:=Tryz.Yv) { Tryz.asw with } none 0 _ w).mono ?_;rintro e w' ⟨rfl,h⟩;subst h;exact⟨rfl,lM.nil _ _ _,Turns.refl _ _⟩
  have Y:g<w.heap.size:=(GX.1 hg).1;have q:=aFY (enc:=PN f) U l
  have hH:HoldsK (PN f) 3 w g 0 l.toArray:=by
   unfold HoldsK;have L:(flatK (PN f) 3 l.toArray).size=l.length*3:=BF
   generalize flatK (PN f) 3 l.toArray=F at q L;intro j M;refine⟨?_,by simp[World.frozen?,hg]⟩;have e0:(cur.toList.take (l.length*3))[j]? =(l.flatMap (PN f))[j]? :=by rw[J]
   rw[MB AA,←q]at e0;simp only[World.cell?,hg,JJ];simp only[Option.isSome_none,Qm,Jh];rw[←XG,e0,XG,YS F j M,xW M];rfl
  have eg:∀args w,(callFunc 439 args).run Tryz.prog w=.ok (.enter 439 args) w:=enters_of Tryz.func439 A8 rfl;have :=AnyQ.slices_SortFunc (P:=Tryz.prog) (ρ:=Tryz.Yv) Tryz.asw 3 Tryz.isAgg360 Tryz.sizeOf360 (PN f) U (aWd f) (fun x y=>YG (f x) (f y)) (akX f) 439 #[] g 0 cap l.toArray w eg (afR f _ _ _ _) hH Y Dh;refine this.mono ?_;rintro e' w' ⟨rfl,O,n,os,hp,hs,rfl⟩;obtain⟨Z,_,u⟩:=hp;have hsz':O.size=l.length:=by simpa using Z
  have e1:O.extract 0 l.toArray.size=O:=by rw[←Z];exact aFV
  rw[e1,aFV]at u
  have hm:O.toList=r:=by
   rw[←hr];refine aVH (le:=fun x y=>KP (f x) (f y)) (fun x y z=>aMj (f x) (f y) (f z)) (fun x y=>aa0 (f x) (f y)) (fun x y h k=>hf _ _ (aUg (f x) (f y) h k)) u ?_;refine IW.2 fun i j hi M hij=>?_;have :=hs i j (Du _) hij (by simpa[hsz']using M);rw[aE6,YS O i G9,YS O j (by simpa using M)]at this;simpa using this
  obtain rfl:O=r.toArray:=by rw[←hm]
  have hF:=aFY (enc:=PN f) U r;have L:(flatK (PN f) 3 r.toArray).size=l.length*3:=by simp[I]
  generalize hFF:flatK (PN f) 3 r.toArray=F at hF L;refine⟨rfl,⟨by rw[pF U],.inr ⟨g,cap,putCells id 0 F cur,by rw[I],Du _,?_,AA,hcm,by simpa[putCells]using hcs,?_⟩⟩,⟨rfl,rfl,rfl,by simp[sortWorldK,putRowK],fun c hc hne=>?_⟩⟩
  ·unfold sortWorldK putRowK;rw[hFF,heap_grow_old _ _ Vl];simp[putRow,mapBlock,Sort.ahead,Nh,hg,onCells]
  ·rw[←hF,I];apply aX;intro j;by_cases M:j<l.length*3
   ·have hjc:j<cur.size:=by have :=Jl 3 hnc;omega
    rw[MB M,XG,XG];have hjF:j<F.size:=AA
    simp[putCells,hjF,hjc]
   rw[aQr AA,Ib Dh]
  unfold sortWorldK putRowK;rw[heap_grow_old _ _ aEC];have :g≠c:=fun e=>hne lV;simp[putRow,mapBlock,Sort.ahead,Nh,this]
 cases h
end
end Go.Proofs.YtkkdimcnpacjhaaGreat
end
