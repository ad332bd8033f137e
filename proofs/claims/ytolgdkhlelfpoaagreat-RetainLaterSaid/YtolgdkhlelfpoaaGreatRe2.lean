/- Part 2 of what the laws' proofs lean on: states of the walk, typed functions of the program and their laws (short forms written by wip/shrink.py; no condition). -/
import Derived.Test.YtolgdkhlelfpoaaGreatRe1
set_option linter.unusedVariables false
set_option linter.unusedSimpArgs false
section
namespace Go.Proofs.YtolgdkhlelfpoaaGreat
open Go.RowKit
section
variable {P : Program} {o : Oper} {es : List bn}
theorem Ql {ns:List (Operand×AV)} {v:AV} {es':List bn} (e:TypeId) (size:Nat) (h:bK P o ((.const (.slice none 0 0),.aK es.length)::ns) (es++[.arr e size []]) v es'):bK P o ns es v es':=by
 intro C ok H a w Q hm hn;obtain⟨h1,h2⟩:=afs hm e size;refine Oper.wp_mono ?_ (h C ok _ a w Q h1 (fun n hn'=>?_))
 ·rintro a' w' ⟨v',ok',H',e1,hg,hnm,hm',hR⟩;exact⟨v',ok',H',e1,hg,(Names.push _ _).trans hnm,hm',hR⟩
 rcases List.mem_cons.1 hn' with rfl|hn'
 ·exact h2
 exact(hn n hn').mono (.refl _ _) (Names.push _ _)
theorem R.YK {ok:Nat→Prop} {w:World} {H:List Hd} {us:List Value} {v:Value} (h:R ok w H (.d (.agg (us.map .lit))) v):v=.agg us.toArray:=by
 cases h with
 |d _ _ h=>
  cases h with
  |agg _ vs hl _ h=>
   congr 1;apply Array.ext
   ·simpa using hl
   intro i h1 h2;have hi:i<(us.map D.lit).length:=by omega
   have h3:=h i hi;have hi':i<us.length:=by simpa using hi
   have e1:(us.map D.lit).getD i dz=.lit (us[i]):=by simp[List.getD,hi']
   have e2:vs.getD i undef=vs[i]:=by simp[Array.getD,h1]
   rw[e1,e2]at h3;generalize vs[i]=u at h3;cases h3;simp
structure afz (P:Program) (n:Nat) (t:TypeId) (us vs:List Value) (b:Bool):Prop where
 run:∀(d:Nat) (w:World),(Op.equalIn (d+n) t (.agg us.toArray) (.agg vs.toArray)).run P w=.ok b w
theorem kQ {t:TypeId} {cs:Array Value} {off:Nat} {v:Value} {size:Nat} (hT:Ty P t false size) (h:cs[off]? =some v) (w:World):(part t cs off).run P w=.ok v w:=by
 simp[part,hT.agg,h]
def O9 (d:Nat) (xs ys:Array Value):List (TypeId×Nat)→Sem Bool
 | []=>pure true
 |f::fs=>do
  let a ←part f.1 xs f.2
  let b ←part f.1 ys f.2
  let r ←Op.equalIn d f.1 a b
  if(!r)=true then pure false else O9 d xs ys fs
theorem aiT (d:Nat) (xs ys:Array Value):∀(fs:List Field),fs.all (fun f=>f.name != "_")=true→Op.eqFields d xs ys fs=O9 d xs ys (fs.map fun f=>(f.type,f.offset))
 | [],_=>rfl
 |f::fs,h=>by
  simp only[List.all_cons,Bool.and_eq_true,bne_iff_ne,ne_eq]at h;simp only[Op.eqFields,List.map_cons,O9,ne_eq,h.1,not_false_eq_true,if_true,aiT d xs ys fs h.2]
theorem adA {d:Nat} {t:TypeId} {xs ys:Array Value} {l:List (TypeId×Nat)} {b:Bool} {w:World} (ht:P.underlying t=some (.struct (P.fieldsOf t))) (hp:P.stoodInHeld t=false) (hn:(P.fieldsOf t).toList.all (fun f=>f.name != "_")=true)
 (hl:(P.fieldsOf t).toList.map (fun f=>(f.type,f.offset))=l) (h:(O9 d xs ys l).run P w=.ok b w):(Op.equalIn (d+1) t (.agg xs) (.agg ys)).run P w=.ok b w:=by
 rw[run_equalIn_struct w d t xs ys ht hp,aiT _ _ _ _ hn,hl,h]
theorem aal (d:Nat) (xs ys:Array Value) (w:World):(O9 d xs ys []).run P w=.ok true w:=by simp[O9]
theorem Ai {d:Nat} {xs ys:Array Value} {t:TypeId} {off:Nat} {fs:List (TypeId×Nat)} {a b:Value} {r rs:Bool} {w:World} (ha:(part t xs off).run P w=.ok a w) (hb:(part t ys off).run P w=.ok b w)
 (hr:(Op.equalIn d t a b).run P w=.ok r w) (hs:(O9 d xs ys fs).run P w=.ok rs w):(O9 d xs ys ((t,off)::fs)).run P w=.ok (r&&rs) w:=by
 unfold O9;simp only[Sem.run_bind,ha,hb,hr,Result.andThen_ok];cases r<;>simp[hs]
theorem aud {t t':TypeId} {x y:Operand} {n:Nat} (us vs:List Value) {b:Bool} (h:afz P n t us vs b) (hd:n≤10000) (hg:P.eqGuardType P.depth t=false) (ho:o.op=.binOp .eql t x y t'):
 bK P o [(x,.d (.agg (us.map .lit))),(y,.d (.agg (vs.map .lit)))] es (.d (eB b)) es:=
 .pure fun _ _ a w _ _ hn=>⟨.bool b,by
  have h1:=(mem2 hn).1.YK;have h2:=(mem2 hn).2.YK;simp only at h1 h2;have hgu:(eqGuard .eql t x y (.agg us.toArray) (.agg vs.toArray)).run P w=.ok () w:=by simp[eqGuard,hg]
  simp only[execOp,ho,h1,h2,Sem.run_bind,hgu,Result.andThen_ok,Sem.run_pure,run_eql_struct,(by have:=h.run (10000-n) w;rwa [Nat.sub_add_cancel hd]at this:(Op.equalIn 10000 t (.agg us.toArray) (.agg vs.toArray)).run P w=.ok b w)],.d _ _ (.lit _)⟩
theorem aiU {t t':TypeId} {x y:Operand} {n:Nat} (us vs:List Value) {b:Bool} (h:afz P n t us vs b) (hd:n≤10000) (hg:P.eqGuardType P.depth t=false) (ho:o.op=.binOp .neq t x y t'):
 bK P o [(x,.d (.agg (us.map .lit))),(y,.d (.agg (vs.map .lit)))] es (.d (eB (!b))) es:=
 .pure fun _ _ a w _ _ hn=>⟨.bool (!b),by
  have h1:=(mem2 hn).1.YK;have h2:=(mem2 hn).2.YK;simp only at h1 h2;have hgu:(eqGuard .neq t x y (.agg us.toArray) (.agg vs.toArray)).run P w=.ok () w:=by simp[eqGuard,hg]
  simp only[execOp,ho,h1,h2,Sem.run_bind,hgu,Result.andThen_ok,Sem.run_pure,run_neq_struct,(by have:=h.run (10000-n) w;rwa [Nat.sub_add_cancel hd]at this:(Op.equalIn 10000 t (.agg us.toArray) (.agg vs.toArray)).run P w=.ok b w)],.d _ _ (.lit _)⟩
def YL (l:List Int):ByteArray:=l.foldl (fun r n=>r.push (UInt8.ofNat n.toNat)) ByteArray.empty
theorem aww {ok:Nat→Prop} {w:World} {H:List Hd} {l:List Int} {news:List Value} (h:Rs ok w H (flat (l.map dY)) news):news=l.map (.int .u8):=by
 rw[aak]at h;apply List.ext_getElem
 ·simpa using h.1
 intro i h1 h2;have hi:i<(l.map fun n=>AV.d (dY n)).length:=by simpa using h2
 have h3:=(h.2 i hi).2;have hi':i<l.length:=by simpa using hi
 have e1:(l.map fun n=>AV.d (dY n)).getD i .junk=.d (dY l[i]):=by simp[List.getD,hi']
 have e2:news.getD i undef=news[i]:=by simp[List.getD,h1]
 rw[e1,e2]at h3;have:=h3.lit;simpa using this
theorem an4 {w:World} {v:Value} {m:Nat} {l:List Int} (h:Src w v m 1 (l.map (.int .u8))):(Conv.bytesToString v).run P w=.ok (.string (YL l)) w:=by
 rcases h.at_ with⟨ad,c,rfl,hc⟩|⟨c,rfl,hm⟩
 ·refine run_bytesToString w ad m c l ?_;have hl:=h.len;have:=run_loadCells_list (P:=P) w ad (l.map (Value.int .u8)) hc;rw[List.length_map,Nat.mul_one]at hl;rw[List.length_map,hl]at this;exact this
 have hl:=h.len;rw[hm,Nat.zero_mul,List.length_map]at hl;rw[List.eq_nil_of_length_eq_zero hl];simp[Conv.bytesToString,YL]
def Value.isSlice:Value→Bool
 | .slice _ _ _=>true
 |_=>false
theorem an5 {w:World} {v:Value} {m size:Nat} {news:List Value} (h:Src w v m size news):Value.isSlice v=true:=by
 rcases h.at_ with⟨_,_,rfl,_⟩|⟨_,rfl,_⟩<;>rfl
theorem amo {s t e:TypeId} {v:Value} {w:World} {r:ByteArray} (hs:P.underlying s=some (.slice e)) (he:P.underlying e=some (.int .u8)) (ht:P.underlying t=some .string) (hv:Value.isSlice v=true)
 (h:(Conv.bytesToString v).run P w=.ok (.string r) w):(convert s t v).run P w=.ok (.string r) w:=by
 cases v<;>simp[Value.isSlice]at hv
 simp[convert,underlying,hs,he,ht,h]
theorem asy {s t e:TypeId} {x:Operand} {l:List Int} (hs:P.underlying s=some (.slice e)) (he:P.underlying e=some (.int .u8)) (ht:P.underlying t=some .string) (ho:o.op=.convert s t x):
 bK P o [(x,.d (eL dY l))] es (.d (eS (YL l))) es:=
 .pure fun ok H a w _ _ hn=>by
  have h1:=mem1 hn;simp only at h1;generalize hv:a.eval x=v at h1;refine⟨.string (YL l),?_,.d _ _ (.lit _)⟩;cases h1 with
  |d _ _ h=>
   obtain⟨news,hsrc,hrs⟩:=KJ H h (size:=1) (fun y hy=>by obtain⟨n,_,rfl⟩:=List.mem_map.1 hy;rfl);obtain rfl:=aww hrs;have hsl:=an5 hsrc;simp[execOp,ho,hv,amo hs he ht hsl (an4 hsrc)]
theorem kL {fn:Fn} {firsts caps:Array Operand} {fi ca:List AV} (hl:firsts.toList.length=fi.length) (hm:caps.toList.length=ca.length) (ho:o.op=.makeFunc fn firsts caps):
 bK P o (fV firsts.toList fi++fV caps.toList ca) es (.fn fn fi ca) es:=
 .pure fun ok H a w _ _ hn=>by
  have key:∀(xs:Array Operand) (vs:List AV),xs.toList.length=vs.length→(∀n∈fV xs.toList vs,R ok w H n.2 (a.eval n.1))→∀i,i<vs.length→R ok w H (vs.getD i .junk) ((xs.map a.eval).getD i undef):=by
   intro xs vs hl hn i hi;have h1:=DJ hl hn i hi
   have hi2:i<xs.size:=by have :xs.size=vs.length:=by simpa using hl
                          omega
   have e2:(xs.toList.map a.eval).getD i undef=(xs.map a.eval).getD i undef:=by simp[List.getD,Array.getD,hi2]
   rw[e2]at h1;exact h1
  refine⟨.func fn (firsts.map a.eval) (caps.map a.eval),by simp[execOp,ho,Instr.makeFunc],.fn fn fi ca _ _ (by simpa using hl) (by simpa using hm) (key _ _ hl fun n h=>hn n (by simp[h])) (key _ _ hm fun n h=>hn n (by simp[h]))⟩
theorem IL :∀{xs:List Operand} {vs:List AV} {ys:List Operand} {us:List AV},xs.length=vs.length→fV (xs++ys) (vs++us)=fV xs vs++fV ys us
 | [],[],_,_,_=>rfl
 | [],_::_,_,_,h=>by simp at h
 |_::_,[],_,_,h=>by simp at h
 |x::xs,v::vs,ys,us,h=>by simp[fV,IL (xs:=xs) (vs:=vs) (by simpa using h)]
theorem UA {ok:Nat→Prop} {w:World} {H:List Hd} {a:Act}:∀{us:List Value} {vs:List AV},us.length=vs.length→(∀i,i<vs.length→R ok w H (vs.getD i .junk) (us.getD i undef))→∀n∈fV (us.map Operand.const) vs,R ok w H n.2 (a.eval n.1)
 | [],[],_,_,n,hn=>by simp[fV]at hn
 | [],_::_,h,_,_,_=>by simp at h
 |_::_,[],h,_,_,_=>by simp at h
 |u::us,v::vs,hl,h,n,hn=>by
  simp only[List.map_cons,fV,List.mem_cons]at hn;rcases hn with rfl|hn
  ·have:=h 0 (by simp);simp at this;exact this
  exact UA (us:=us) (vs:=vs) (by simpa using hl) (fun i hi=>by simpa using h (i+1) (by simpa using hi)) n hn
theorem aiV {f:FuncId} {x:Operand} {ops:Array Operand} {ats:Array TypeId} (srcs:List Sr) {fi ca dI dK:List AV} {E E':List bn} {res:AV} (hr:Runs P f dK E res E') (hf:aF P f=true) (hb:O7 srcs es E E'=true) (hE:Qh srcs es E)
 (ha:yR srcs (fi++dI++ca) dK) (hl:ops.toList.length=dI.length) (ho:o.op=.call { callee:=.value x,args:=ops,argTypes:=ats }):
 bK P o ((x,.fn (.func f) fi ca)::fV ops.toList dI) es (res.up srcs es.length) (uo srcs es E'):=by
 intro C ok H a w Q hm hn;have hx:=hn (x,.fn (.func f) fi ca) (by simp);simp only at hx;generalize hv:a.eval x=v at hx;cases hx with
 |fn _ _ _ vs us hl1 hl2 h1 h2=>
  unfold Oper.wp
  have he:(execOp a.eval o).run P w=.ok (.enter f ((vs++ops.map a.eval)++us)) w:=by
   have:=oC hf (vs++ops.map a.eval++us) w;rw[Array.append_assoc]at this;simp[execOp,ho,resolve,hv,Deferred.ofValue,invoke,this]
  rw[he,Oper.upon_enter]
  have e:vs++ops.map a.eval++us=((vs.toList.map Operand.const++ops.toList++us.toList.map Operand.const).map a.eval).toArray:=by
   apply Array.ext';simp[Function.comp_def,Act.eval]
  rw[e];have l1:(vs.toList.map Operand.const).length=fi.length:=by simpa using hl1
  refine(ahg hm srcs hr hb hE ha (by simp at hl;simp[hl1,hl2,hl]) (a:=a) ?_).mono ?_
  ·rw[IL (by simp at hl;simp[hl1,hl]),IL l1];intro n hn';simp only[List.mem_append]at hn';rcases hn' with(hn'|hn')|hn'
   ·exact UA (by simpa using hl1) (fun i hi=>by have:=h1 i hi;simpa[List.getD,Array.getD_eq_getD_getElem?]using this) n hn'
   ·exact hn n (List.mem_cons_of_mem _ hn')
   exact UA (by simpa using hl2) (fun i hi=>by have:=h2 i hi;simpa[List.getD,Array.getD_eq_getD_getElem?]using this) n hn'
  rintro e w' ⟨v,ok',H',rfl,h3,h4,h5,h6⟩;exact⟨v,ok',H',rfl,h3,h4,h5,h6⟩
theorem R.dfn {ok:Nat→Prop} {w:World} {H:List Hd} {f:Fn} {fi ca:List D} {v:Value} (h:R ok w H (.d (.fn f fi ca)) v):R ok w H (.fn f (fi.map .d) (ca.map .d)) v:=by
 cases h with
 |d _ _ h=>
  cases h with
  |fn _ _ _ vs us h1 h2 h3 h4=>
   refine .fn f _ _ vs us (by simpa using h1) (by simpa using h2) (fun i hi=>?_) (fun i hi=>?_)
   ·have hi':i<fi.length:=by simpa using hi
    have e1:(fi.map AV.d).getD i .junk=.d (fi.getD i dz):=by simp[List.getD,hi']
    rw[e1];exact .d _ _ (h3 i hi')
   have hi':i<ca.length:=by simpa using hi
   have e1:(ca.map AV.d).getD i .junk=.d (ca.getD i dz):=by simp[List.getD,hi']
   rw[e1];exact .d _ _ (h4 i hi')
theorem an6 {f:FuncId} {x:Operand} {ops:Array Operand} {ats:Array TypeId} (srcs:List Sr) {fi ca:List D} {dI dK:List AV} {E E':List bn} {res:AV} (hr:Runs P f dK E res E') (hf:aF P f=true) (hb:O7 srcs es E E'=true) (hE:Qh srcs es E)
 (ha:yR srcs (fi.map .d++dI++ca.map .d) dK) (hl:ops.toList.length=dI.length) (ho:o.op=.call { callee:=.value x,args:=ops,argTypes:=ats }):
 bK P o ((x,.d (.fn (.func f) fi ca))::fV ops.toList dI) es (res.up srcs es.length) (uo srcs es E'):=by
 intro C ok H a w Q hm hn;refine aiV (fi:=fi.map .d) (ca:=ca.map .d) srcs hr hf hb hE ha hl ho C ok H a w Q hm (fun n hn'=>?_);rcases List.mem_cons.1 hn' with rfl|hn'
 ·exact R.dfn (hn (x,.d (.fn (.func f) fi ca)) (by simp))
 exact hn n (List.mem_cons_of_mem _ hn')
def SS (S:List Sr) (es:List bn):List Sr→List bn→Prop
 |s::srcs,e::E=>(match s with | .ent k=>es[k]? =some (e.up S es.length)| .nil sz=>∃t,e=.arr t sz [])∧SS S es srcs E
 | [],_=>True
 |_::_,[]=>False
theorem cZ {S:List Sr} {es:List bn} {k:Nat} {e:bn} {srcs:List Sr} {E:List bn} (h:es[k]? =some (e.up S es.length)) (hs:SS S es srcs E):SS S es (.ent k::srcs) (e::E):=⟨h,hs⟩
theorem ahj {S:List Sr} {es:List bn}:∀{srcs:List Sr} {E:List bn},SS S es srcs E→∀(i:Nat) (s:Sr),srcs[i]? =some s→match s with | .ent k=>(E[i]?).map (bn.up S es.length)=es[k]? | .nil sz=>∃e,E[i]? =some (.arr e sz [])
 | [],_,_,i,s,hs=>by simp at hs
 |_::_,[],h,_,_,_=>h.elim
 |s::srcs,e::E,h,0,s',hs=>by
  simp at hs;subst hs;have h1:=h.1;cases s with
  |ent k=>simp only at h1;simp[h1]
  |nil sz=>obtain⟨t,rfl⟩:=h1;exact⟨t,rfl⟩
 |s::srcs,e::E,h,i+1,s',hs=>by
  have:=ahj h.2 i s' (by simpa using hs);cases s' with
  |ent k=>simpa using this
  |nil sz=>simpa using this
theorem abW {es:List bn} {srcs:List Sr} {E:List bn} (h:SS srcs es srcs E):Qh srcs es E:=ahj h
theorem eU {f:FuncId} {ops:Array Operand} {ats:Array TypeId} (srcs:List Sr) {dI dK:List AV} {E E':List bn} {res res':AV} (hr:Runs P f dK E res E') (hf:aF P f=true) (hb:O7 srcs es E E'=true) (hE:SS srcs es srcs E) (ha:yR srcs dI dK) (hl:ops.toList.length=dI.length)
 (hu:res'=res.up srcs es.length) (ho:o.op=.call { callee:=.value (.func f),args:=ops,argTypes:=ats }):bK P o (fV ops.toList dI) es res' (uo srcs es E'):=hu▸alG srcs hr hf hb (abW hE) ha hl ho
theorem DK {f:FuncId} {x:Operand} {ops:Array Operand} {ats:Array TypeId} (srcs:List Sr) (fi ca:List AV) {dI dK:List AV} {E E':List bn} {res res':AV} (hr:Runs P f dK E res E') (hf:aF P f=true) (hb:O7 srcs es E E'=true) (hE:SS srcs es srcs E)
 (ha:yR srcs (fi++dI++ca) dK) (hl:ops.toList.length=dI.length) (hu:res'=res.up srcs es.length) (ho:o.op=.call { callee:=.value x,args:=ops,argTypes:=ats }):
 bK P o ((x,.fn (.func f) fi ca)::fV ops.toList dI) es res' (uo srcs es E'):=hu▸aiV srcs hr hf hb (abW hE) ha hl ho
theorem ahk {f:FuncId} {x:Operand} {ops:Array Operand} {ats:Array TypeId} (srcs:List Sr) (fi ca:List D) {dI dK:List AV} {E E':List bn} {res res':AV} (hr:Runs P f dK E res E') (hf:aF P f=true) (hb:O7 srcs es E E'=true) (hE:SS srcs es srcs E)
 (ha:yR srcs (fi.map .d++dI++ca.map .d) dK) (hl:ops.toList.length=dI.length) (hu:res'=res.up srcs es.length) (ho:o.op=.call { callee:=.value x,args:=ops,argTypes:=ats }):
 bK P o ((x,.d (.fn (.func f) fi ca))::fV ops.toList dI) es res' (uo srcs es E'):=hu▸an6 srcs hr hf hb (abW hE) ha hl ho
end
end Go.Proofs.YtolgdkhlelfpoaaGreat
end
section
namespace Go.Proofs.YtolgdkhlelfpoaaGreat
open Go.RowKit
structure Turns (v:Value) (w w':World):Prop where
 os:w'.os=w.os
 tape:w'.tape=w.tape
 output:w'.output=w.output
 size:w.heap.size≤w'.heap.size
 block:∀c,c<w.heap.size→eG v≠some c→w'.heap[c]? =w.heap[c]?
theorem Turns.refl (v:Value) (w:World):Turns v w w:=⟨rfl,rfl,rfl,Nat.le_refl _,fun _ _ _=>rfl⟩
theorem Turns.apX {g o n c:Nat} {s:Option Nat} {w w':World} (h:w.grownBy w' (some g)):Turns (.slice (some ⟨g,o,s⟩) n c) w w':=
 ⟨h.os,h.tape,h.output,h.size,fun k hk hne=>h.block k hk (fun e=>hne (by cases e;rfl))⟩
theorem RD.adB {ok:Nat→Prop} {w:World} {u v:Value} (h:RD ok w (.lit u) v):v=u:=by cases h;rfl
theorem YM :∀(l:List Int),flat (l.map eI)=l.map fun n=>.d (eI n)
 | []=>rfl
 |n::l=>by rw[List.map_cons,Ik,YM l];rfl
theorem WU {ok:Nat→Prop} {w:World} {H:List Hd} {h:Hd} {e:TypeId} {l:List Int}:iL ok w H h (.arr e 1 (List.map eI l))↔h.size=1∧lY w e 1 h.v l.length (l.map (.int .i64)):=by
 constructor
 ·rintro⟨h1,_,xs,h3,h4,h5⟩;refine⟨h1,?_⟩;rw[List.length_map]at h3
  have :xs=l.map (.int .i64):=by
   rw[YM]at h4 h5;rw[List.length_map]at h4;refine List.ext_getElem (by simp[h4]) fun i hi hj=>?_;have hil:i<l.length:=by omega
   have h6:=(h5 i (by simpa using hil)).2;simp only[List.getD,List.getElem?_map,List.getElem?_eq_getElem hil,Option.map_some,Option.getD_some,List.getElem?_eq_getElem hi]at h6;cases h6 with |d _ _ h=>rw[RD.adB h];simp
  rw[←this];exact h3
 rintro⟨h1,h3⟩;refine⟨h1,fun x hx=>?_,l.map (.int .i64),by rw[List.length_map];exact h3,?_⟩
 ·obtain⟨n,_,rfl⟩:=List.mem_map.1 hx;rfl
 rw[YM];refine⟨by simp,fun i hi=>?_⟩;have hil:i<l.length:=by simpa using hi
 simp only[List.getD,List.getElem?_map,List.getElem?_eq_getElem hil,Option.map_some,Option.getD_some];exact⟨rfl,.d _ _ (.lit _)⟩
theorem alI {vals:Array Value} (hs:vals.size=1):vals= #[vals.getD 0 undef]:=by
 refine Array.ext (by simp[hs]) fun i h1 h2=>?_;simp at h2;subst h2;simp[Array.getD,hs]
theorem Runs.asz {P:Program} {f:FuncId} {e:TypeId} {l r:List Int}
 (h:∀(v:Value) (w:World),lY w e 1 v l.length (l.map (.int .i64))→Calls P f #[v] w fun x w'=>x=.returned (.tuple #[])∧lY w' e 1 v r.length (r.map (.int .i64))∧Turns v w w'):
 Runs P f [.aK 0] [.arr e 1 (List.map eI l)] (.eH []) [.arr e 1 (List.map eI r)]:=by
 intro ok X H w vals hm hs ha;have h0:=ha 0 (by decide);rw[alI hs];obtain⟨hd,hh,hok⟩:=jy hm.ent hm.hlen (k:=0) rfl;obtain hv:=oV h0 hh;rw[hv];obtain⟨hz,how⟩:=WU.1 hok;refine(h hd.v w how).mono ?_;rintro x w' ⟨rfl,abX,ht⟩;have hb0:=fun b hb=>hm.blk 0 _ hd b rfl rfl hh hb
 have hg:=hm.change (ok':=ok) (H':=H) (w':=w') (es':=[.arr e 1 (List.map eI r)]) (fun c=>eG hd.v=some c) ht.os ht.tape ht.output ht.size ht.block (fun c hc _=>⟨(hb0 c hc).1,(hb0 c hc).2.2⟩) (fun _ h=>h) (fun _ h=>.inl h) (.refl _) hm.hlen (by
  intro k e' h' he' hh'
  match k,he' with
  |0,he'=>
   simp at he';subst he';rw[hh]at hh';obtain rfl:=Option.some.inj hh';refine .inr ⟨WU.2 ⟨hz,abX⟩,fun _ b hb=>⟨(hb0 b hb).1,Nat.lt_of_lt_of_le (hb0 b hb).2.1 ht.size,(hb0 b hb).2.2,fun k' e'' h'' hne hk'=>?_⟩⟩
   match k',hk' with
   |0,_=>exact absurd rfl hne
   |k'+1,hk'=>simp at hk'
  |k+1,he'=>simp at he')
 exact⟨_,ok,H,rfl,hg.1,.eH [] #[] rfl (fun i hi=>by simp at hi)⟩
theorem Runs.turned {P:Program} {f:FuncId} {e:TypeId} {l r:List Int}
 (h:∀(v:Value) (w:World),lY w e 1 v l.length (l.map (.int .i64))→Calls P f #[v] w fun x w'=>∃v',x=.returned v'∧lY w' e 1 v' r.length (r.map (.int .i64))∧Turns v w w'∧∀g,eG v'=some g→eG v=some g∨w.heap.size≤g):
 Runs P f [.aK 0] [.arr e 1 (List.map eI l)] (.aK 1) [.dead,.arr e 1 (List.map eI r)]:=by
 intro ok X H w vals hm hs ha;have h0:=ha 0 (by decide);rw[alI hs];obtain⟨hd,hh,hok⟩:=jy hm.ent hm.hlen (k:=0) rfl;obtain hv:=oV h0 hh;rw[hv];obtain⟨hz,how⟩:=WU.1 hok;refine(h hd.v w how).mono ?_;rintro x w' ⟨v',rfl,abX,ht,hblk⟩;have hg:=hm.turn (e:=.arr e 1 (List.map eI r)) (h':=⟨v',1⟩) (w':=w') (k:=0) rfl rfl hh ht.os ht.tape ht.output ht.size ht.block (fun g hg=>⟨O6 abX hg,hblk g hg⟩) (fun _=>WU.2 ⟨rfl,abX⟩);refine⟨v',ok,H++[⟨v',1⟩],rfl,hg.1,?_⟩;have hl:H.length=1:=hm.hlen;have hr:(H++[(⟨v',1⟩:Hd)])[1]? =some ⟨v',1⟩:=by rw[←hl];simp
 rcases abX.2 with⟨rfl,_⟩|⟨g,cap,cur,rfl,_⟩
 ·exact .aK 1 _ _ _ 1 hr
 exact .aK 1 _ _ _ 1 hr
theorem Runs.plain {P:Program} {f:FuncId} {vs:List Value} {res:AV} {v:Value} (hv:∀ok w H,R ok w H res v)
 (h:∀w,Calls P f vs.toArray w fun x w'=>x=.returned v∧Below w.heap.size w w'):Runs P f (vs.map fun u=>.d (.lit u)) [] res []:=by
 intro ok X H w vals hm hs ha
 have e:vals=vs.toArray:=by
  refine Array.ext (by simpa using hs) fun i h1 h2=>?_;have h2':i<vs.length:=by simpa using h2
  have h3:=ha i (by simpa using h2');simp only[List.getD,List.getElem?_map,List.getElem?_eq_getElem h2',Option.map_some,Option.getD_some]at h3;cases h3 with |d _ _ h=>have:=RD.adB h;simpa[Array.getD,h1]using this
 rw[e];refine(h w).mono ?_;rintro x w' ⟨rfl,hb⟩
 have hg:=hm.change (ok':=ok) (H':=H) (w':=w') (es':=[]) (fun _=>False) hb.os hb.tape hb.output hb.size (fun c hc _=>hb.block c hc) (fun _ h=>h.elim) (fun _ h=>h) (fun _ h=>.inl h) (.refl _) hm.hlen (by
  intro k e' h' he' hh'
  simp at he')
 exact⟨v,ok,H,rfl,hg.1,hv _ _ _⟩
theorem Chain.an7 {P:Program} {ops:Array Oper} {l arH:List Oper} {σ σ':St} (h:Chain P ops l σ σ') {ro:Option Nat} {C:Cx} {H0:List Hd} {Q:Exit→Act→World→Prop}:
 ∀{ok:Nat→Prop} {H:List Hd} {a:Act} {w:World},Holds C ok H σ a w→Names H0 H→(∀ok' H' a' w',Holds C ok' H' σ' a' w'→Names H0 H'→wpListIn (FW ro) 0 P ops Q arH a' w')→wpListIn (FW ro) 0 P ops Q (l++arH) a w:=by
 induction h with
 |nil σ=>intro ok H a w hh hn hQ;exact hQ ok H a w hh hn
 | @op o rest σ σ' ns x d ho hn hg hd k ih=>
   intro ok H a w hh hnm hQ;subst hd;rw[List.cons_append];unfold wpListIn;rw[if_pos (lZ hh hg)];refine Oper.wpIn_mono ?_ (ho.Vo ro C ok H a w Q hh.mem (fun n hn'=>nX hn n hn'▸hh.get n.1));rintro a' w' ⟨v,ok',H',rfl,hgr,hnn,hm,hx⟩;exact ih (hh.put o.dst hgr hnn hm hx) (hnm.trans hnn) hQ
 | @oe o rest σ σ' ns x es' d E ho he hn hg hd k ih=>
   intro ok H a w hh hnm hQ;subst hd;subst he;rw[List.cons_append];unfold wpListIn;rw[if_pos (lZ hh hg)];refine Oper.wpIn_mono ?_ (ho.Vo ro C ok H a w Q hh.mem (fun n hn'=>nX hn n hn'▸hh.get n.1));rintro a' w' ⟨v,ok',H',rfl,hgr,hnn,hm,hx⟩;exact ih (hh.put o.dst hgr hnn hm hx) (hnm.trans hnn) hQ
 | @skip o rest σ σ' d hg hd k ih=>
   intro ok H a w hh hnm hQ;subst hd;rw[List.cons_append];unfold wpListIn;rw[if_neg (by rw[zW hh hg];simp)];exact⟨fun _ _=>trivial,ih (hh.put o.dst (.refl _ _) (.refl _) hh.mem (.d _ _ (.lit _))) hnm hQ⟩
 | @any o rest σ σ' x d hs hd k ih=>
   intro ok H a w hh hnm hQ;subst hd;rw[List.cons_append];unfold wpListIn;rcases hs.1 with⟨ns,ho,hn,_,hg⟩|⟨rfl,_,hg⟩
   ·rw[if_pos (lZ hh hg)];refine Oper.wpIn_mono ?_ (ho.Vo ro C ok H a w Q hh.mem (fun n hn'=>nX hn n hn'▸hh.get n.1));rintro a' w' ⟨v,ok',H',rfl,hgr,hnn,hm,hx⟩;exact ih (hh.put o.dst hgr hnn hm hx) (hnm.trans hnn) hQ
   rw[if_neg (by rw[zW hh hg];simp)];exact⟨fun _ _=>trivial,ih (hh.put o.dst (.refl _ _) (.refl _) hh.mem (.d _ _ (.lit _))) hnm hQ⟩
 | @WM o rest σ σ' x E bar d hs hd k ih=>
   intro ok H a w hh hnm hQ;subst hd;rw[List.cons_append];unfold wpListIn;rcases hs.1 with⟨ns,ho,hn,_,hg⟩|⟨rfl,rfl,hg⟩
   ·rw[if_pos (lZ hh hg)];refine Oper.wpIn_mono ?_ (ho.Vo ro C ok H a w Q hh.mem (fun n hn'=>nX hn n hn'▸hh.get n.1));rintro a' w' ⟨v,ok',H',rfl,hgr,hnn,hm,hx⟩;exact ih (hh.put o.dst hgr hnn hm hx) (hnm.trans hnn) hQ
   rw[if_neg (by rw[zW hh hg];simp)];exact⟨fun _ _=>trivial,ih (hh.put o.dst (.refl _ _) (.refl _) hh.mem (.d _ _ (.lit _))) hnm hQ⟩
 |conv σ2 hc k ih=>
  intro ok H a w hh hnm hQ;obtain⟨ok',hh'⟩:=hc C ok H a w hh;exact ih hh' hnm hQ
theorem SP.amq {P:Program} {σ σ1:St} {Q:Exit→St→Prop} {id:Nat} {ops:Array Oper} {q:Oper} {x:Operand} {t t' e d:Nat} {es:List D} (k:Nat) (hops:ops.toList.drop k=[q]) (h:Chain P ops (ops.toList.take k) σ σ1)
 (hq:q.op=.binOp .eql t x (.const (.slice none 0 0)) t') (hd:q.dst=some d) (hg:q.guard=none) (ht:P.underlying t=some (.slice e)) (hx:σ1.get x=.d (.sl es)) (hQ:∀b,(es≠[]→b=false)→Q .normal (σ1.qU (some d) (.d (.lit (.bool b))))):SP P (.region id ops false) σ Q:=by
 refine⟨fun ro _ C ok H a w hh=>wpIn_region_list ?_⟩;rw[←List.take_append_drop k ops.toList,hops];refine h.an7 hh (.refl H) fun ok' H' a' w' h1 _=>?_;have hv:=hx▸h1.get x
 obtain⟨b,hb,hr⟩:∃b,(es≠[]→b=false)∧(execOp a'.eval q).run P w'=.ok (.value (.bool b)) w':=by
  cases hv with
  |d _ _ hv=>
   generalize hav:a'.eval x=v at hv
   have key:∀(ad:Option Addr) (n c:Nat),v=.slice ad n c→(execOp a'.eval q).run P w'=.ok (.value (.bool ad.isNone)) w':=fun ad n c hvv=>by
    have hgu:(eqGuard .eql t x (.const (.slice none 0 0)) (.slice ad n c) (.slice none 0 0)).run P w'=.ok () w':=by simp[eqGuard]
    have e0:a'.eval (.const (.slice none 0 0))=.slice none 0 0:=rfl;rw[hvv]at hav;simp only[execOp,hq,hav,e0,Sem.run_bind,hgu,Result.andThen_ok,Lib.run_eql_slice_nil w' t e ad n c 0 0 ht,Sem.run_pure]
   cases hv with
   |sl0 ad cap=>exact⟨ad.isNone,fun h=>absurd rfl h,key _ _ _ rfl⟩
   |sl es b off cap size=>exact⟨false,fun _=>rfl,key _ _ _ rfl⟩
 unfold wpListIn;rw[if_pos (by unfold Region.wanted;rw[hg])];unfold Oper.wpIn;rw[Oper.semAt_eq _ _ _ (by rw[hq];intro c h;cases h),hr,Oper.uponIn_value];refine⟨fun _ _=>trivial,?_⟩;unfold wpListIn;exact⟨ok',H',_,by rw[hd];exact h1.put (some d) (.refl _ _) (.refl _) h1.mem (.d _ _ (.lit _)),hQ b hb⟩
theorem SP.WV {P:Program} {σ σ1:St} {Q:Exit→St→Prop} {id:Nat} {ops:Array Oper} {y:Code} {q:Oper} {x:Operand} {t t' e d:Nat} {es:List D} (k:Nat) (hops:ops.toList.drop k=[q]) (h:Chain P ops (ops.toList.take k) σ σ1)
 (hq:q.op=.binOp .eql t x (.const (.slice none 0 0)) t') (hd:q.dst=some d) (hg:q.guard=none) (ht:P.underlying t=some (.slice e)) (hx:σ1.get x=.d (.sl es)) (hy:∀b,(es≠[]→b=false)→SP P y (σ1.qU (some d) (.d (.lit (.bool b)))) Q):SP P (.seq (.region id ops false) y) σ Q:=
 SP.seq (fun s=>∃b,(es≠[]→b=false)∧s=σ1.qU (some d) (.d (.lit (.bool b)))) (SP.amq k hops h hq hd hg ht hx fun b hb=>⟨b,hb,rfl⟩) (by rintro _ ⟨b,hb,rfl⟩;exact hy b hb)
theorem adC {α:Type} {l:List α} {e:α→D} (h:List.map e l≠[]→true=false):l=[]:=by
 cases l with
 |nil=>rfl
 |cons a l=>exact absurd (h (by simp)) (by decide)
end Go.Proofs.YtolgdkhlelfpoaaGreat
end
section
namespace Go.Proofs.YtolgdkhlelfpoaaGreat
open Go.RowKit
theorem adD {α:Type} {p:Nat→α→Prop}:∀n,(∀i,i<n→∃x,p i x)→∃l:List α,l.length=n∧∀i (h:i<l.length),p i l[i]
 |0,_=>⟨[],rfl,fun i h=>by simp at h⟩
 |n+1,h=>by
  obtain⟨l,h1,h2⟩:=adD n (fun i hi=>h i (by omega));obtain⟨x,hx⟩:=h n (by omega);refine⟨l++[x],by simp[h1],fun i hi=>?_⟩;simp at hi;by_cases e:i<l.length
  ·rw[List.getElem_append_left e];exact h2 i e
  have :i=n:=by omega
  subst this;rw[List.getElem_append_right (by omega)];simpa[h1]using hx
def pieces :List Nat→Nat→List Value→List Value
 | [],_,_=>[]
 |n::r,o,cs=>(cs.drop o).take n++pieces r (o+n) cs
theorem pieces_eq :∀(ns:List Nat) (o:Nat) (cs:List Value),cs.length=o+ns.sum→pieces ns o cs=cs.drop o
 | [],o,cs,h=>by simp at h;simp[pieces,h]
 |n::r,o,cs,h=>by
  simp only[List.sum_cons]at h;unfold pieces;rw[pieces_eq r (o+n) cs (by omega),←List.drop_drop,List.take_append_drop]
def dR (w:World) (ds:List D) (cs:List Value):Prop:=cs.length=ds.length∧∀j,j<ds.length→(ds.getD j dz).leaf=true∧RD (fun b=>b<w.heap.size) w (ds.getD j dz) (cs.getD j undef)
theorem dR.nil (w:World):dR w [] []:=⟨rfl,fun j h=>by simp at h⟩
theorem dR.append {w:World} {ds es:List D} {cs us:List Value} (h:dR w ds cs) (k:dR w es us):dR w (ds++es) (cs++us):=by
 refine⟨by simp[h.1,k.1],fun j hj=>?_⟩;by_cases e:j<ds.length
 ·have e1:(ds++es).getD j dz=ds.getD j dz:=by simp[List.getD,List.getElem?_append_left e]
  have e2:(cs++us).getD j undef=cs.getD j undef:=by simp[List.getD,List.getElem?_append_left (show j<cs.length by rw[h.1];exact e)]
  rw[e1,e2];exact h.2 j e
 have hj':j-ds.length<es.length:=by simp at hj;omega
 have e1:(ds++es).getD j dz=es.getD (j-ds.length) dz:=by simp[List.getD,List.getElem?_append_right (Nat.le_of_not_lt e)]
 have e2:(cs++us).getD j undef=us.getD (j-ds.length) undef:=by
  have h1:=h.1;simp only[List.getD,List.getElem?_append_right (show cs.length≤j by omega),h1]
 rw[e1,e2];exact k.2 _ hj'
section
variable {H : Type} {enc : TypeId × Value → H} {w : World} {base : Nat} {spare : Nat → Bool} {held : Bool} {P : Program} {t : TypeId}
def Opn {α:Type} (enc:TypeId×Value→H) (P:Program) (w:World) (base:Nat) (spare:Nat→Bool) (held:Bool) (t:TypeId) (e:α→D) (V:α→Prop):Prop:=
 ∀fuel cs x,DataW.trod enc P w base spare held fuel t cs=some x→∃a:α,V a∧dR w (e a).cells cs
theorem dR.one {w:World} {x:D} {v:Value} (hc:x.cells=[x]) (hl:x.leaf=true) (h:RD (fun b=>b<w.heap.size) w x v):dR w x.cells [v]:=by
 rw[hc];refine⟨rfl,fun j hj=>?_⟩
 match j,hj with
 |0,_=>exact⟨hl,h⟩
theorem iY {α:Type} {e:TypeId} {sz:Nat} {en:α→D} {V:α→Prop} (ht:P.underlying t=some (.slice e)) (hc:P.cellsOf e=sz) (hpos:0<sz) (hsz:∀a,(en a).cells.length=sz) (hR:Opn enc P w base spare held e en V):
 Opn enc P w base spare held t (eL en) (fun l=>l.length≤maxLen∧∀x∈l,V x):=by
 intro fuel cs x h;rcases Go.Deep.open_slice ht h with⟨rfl, -⟩|⟨a,len,cap,m,n,D,Pl,rfl, -,hl,hm,hmm, -,hx⟩
 ·exact⟨[],⟨Nat.zero_le _,fun x h=>by simp at h⟩,.one rfl rfl (.sl0 none 0)⟩
 have hlm:len≤m:=by rw[hmm];split<;>omega
 rw[hc]at hx
 have hex:∀i,i<len→∃y:α,V y∧∃cs':List Value,w.cells? base (a.add (i*sz)) sz=some cs'∧dR w (en y).cells cs':=by
  intro i hi;obtain⟨cs',h1,h2⟩:=hx i (by omega);obtain⟨y,h3,h4⟩:=hR _ _ _ h2;exact⟨y,h3,cs',h1,h4⟩
 obtain⟨l,hlen,hall⟩:=adD len hex;subst hlen;refine⟨l,⟨by omega,fun x hx=>?_⟩,?_⟩
 ·obtain⟨i,hi,rfl⟩:=List.getElem_of_mem hx;exact(hall i hi).1
 rcases Nat.eq_zero_or_pos l.length with h0|hlp
 ·have :l=[]:=List.eq_nil_of_length_eq_zero h0;subst this;exact .one rfl rfl (.sl0 _ _)
 have hcell:∀i,(hi:i<l.length)→∀j,j<sz→∃u,w.cell? ((a.add (i*sz)).add j)=some u∧((en l[i]).cells.getD j dz).leaf=true∧RD (fun b=>b<w.heap.size) w ((en l[i]).cells.getD j dz) u:=by
  intro i hi j hj;obtain⟨-,cs',h1,h2⟩:=hall i hi;obtain⟨-,h6,h5⟩:=World.cells?_some h1;have hcl:cs'.length=sz:=by rw[h2.1,hsz]
  have h7:=h5 j hj;rw[List.getElem?_eq_getElem (by omega)]at h7;refine⟨_,h7,?_⟩;have h8:=h2.2 j (by rw[hsz];exact hj);simpa[List.getD,show j<cs'.length by omega]using h8
 have hspot:a.spot=none:=by
  obtain⟨u,h4, -⟩:=hcell 0 hlp 0 hpos;have e0:(a.add (0*sz)).add 0=a:=by simp[Addr.add]
  rw[e0]at h4;unfold World.cell? at h4;cases hsp:a.spot with
  |none=>rfl
  |some s=>
   rw[hsp]at h4;cases hh:w.heap[a.block]? with
   |none=>rw[hh]at h4;simp at h4
   |some o=>rw[hh]at h4;cases o<;>simp at h4
 have hblk:a.block<w.heap.size:=by
  obtain⟨u,h4, -⟩:=hcell 0 hlp 0 hpos;have e0:(a.add (0*sz)).add 0=a:=by simp[Addr.add]
  rw[e0]at h4;unfold World.cell? at h4;apply Classical.byContradiction;intro hn;rw[Array.getElem?_eq_none (Nat.le_of_not_lt hn)]at h4;simp at h4
 obtain⟨b,o,s⟩:=a;simp only at hspot hblk;subst hspot;have hml:(List.map en l).length=l.length:=List.length_map _;have hget:∀i,(hi:i<l.length)→(List.map en l).getD i dz=en l[i]:=fun i hi=>by simp[List.getD,hi]
 have arI:∀i j,((⟨b,o,none⟩:Addr).add (i*sz)).add j=⟨b,o+(i*sz+j),none⟩:=fun i j=>by simp only[Addr.add];split<;>split<;>simp_all<;>omega
 refine .one rfl rfl ?_
 have:=RD.sl (ok:=fun b=>b<w.heap.size) (w:=w) (List.map en l) b o cap sz (by rw[hml];exact hl) (fun _ _=>hblk) (fun i hi=>by rw[hml]at hi;rw[hget i hi];exact hsz _)
  (fun i hi j hj=>by rw[hml]at hi;obtain⟨u,_,h2,_⟩:=hcell i hi j hj;rw[hget i hi];exact h2)
  (fun i hi j hj=>by rw[hml]at hi;obtain⟨u,h1,_,_⟩:=hcell i hi j hj;rw[arI]at h1;rw[h1];rfl)
  (fun i hi j hj=>by rw[hml]at hi;obtain⟨u,h1,_,h3⟩:=hcell i hi j hj;rw[arI]at h1;rw[hget i hi];unfold cellAt;rw[h1];exact h3)
 rw[hml]at this;exact this
theorem dS {k:IntKind} (ht:P.underlying t=some (.int k)):Opn enc P w base spare held t (fun n=>D.lit (.int k n)) (fun n:Int=>k.min≤n∧n≤k.max):=by
 intro fuel cs x h;obtain⟨n,rfl, -,hw⟩:=DataW.trod_int ht h;exact⟨n,by simpa[Lit.wf]using hw,.one rfl rfl (.lit _)⟩
theorem jR (ht:P.underlying t=some .string):Opn enc P w base spare held t eS (fun s=>s.size≤maxLen):=by
 intro fuel cs x h;obtain⟨n,rfl, -,hw⟩:=DataW.trod_string ht h;exact⟨n,hw,.one rfl rfl (.lit _)⟩
theorem KO (ht:P.underlying t=some .bool):Opn enc P w base spare held t eB (fun _=>True):=by
 intro fuel cs x h;obtain⟨n,rfl, -⟩:=DataW.trod_bool ht h;exact⟨n,trivial,.one rfl rfl (.lit _)⟩
theorem aO {α:Type} {fs:Array Field} {fuel:Nat} {cs:List Value} {x:DataW H×List MemPlace} (ht:P.underlying t=some (.struct fs)) (h:DataW.trod enc P w base spare held fuel t cs=some x) (i:Nat) (u o n:Nat) (hf:(fs[i]?).map (fun f=>(f.type,f.offset,P.cellsOf f.type))=some (u,o,n))
 {en:α→D} {V:α→Prop} (hR:Opn enc P w base spare held u en V):∃a:α,V a∧dR w (en a).cells ((cs.drop o).take n):=by
 obtain⟨xs,k, -, -, -,hlen,hall⟩:=DataW.trod_struct ht h;cases hfi:fs[i]? with
 |none=>rw[hfi]at hf;simp at hf
 |some f=>
  rw[hfi]at hf;simp only[Option.map_some,Option.some.injEq,Prod.mk.injEq]at hf;obtain⟨rfl,rfl,rfl⟩:=hf;have h1:=hall i f hfi;have hi:i<fs.size:=(Array.getElem?_eq_some_iff.1 hfi).1;rw[List.getElem?_eq_getElem (by omega)]at h1;exact hR _ _ _ h1
theorem jm {fs:Array Field} {fuel:Nat} {cs:List Value} {x:DataW H×List MemPlace} (ht:P.underlying t=some (.struct fs)) (h:DataW.trod enc P w base spare held fuel t cs=some x) (n:Nat) (hn:P.cellsOf t=n):cs.length=n:=by
 obtain⟨xs,k, -, -,hlen, -⟩:=DataW.trod_struct ht h;rw[hlen,hn]
theorem jo {cs:List Value} {ds:List D} (ns:List Nat) (hl:cs.length=ns.sum) (h:dR w ds (pieces ns 0 cs)):dR w ds cs:=by
 rw[pieces_eq ns 0 cs (by omega)]at h;simpa using h
end
theorem an8 {w:World} {x:D} {ds:List D} {cs:Array Value} (hx:x=.agg ds) (h:dR w x.cells (Value.agg cs).cells.toList):RD (fun b=>b<w.heap.size) w x (.agg cs):=by
 subst hx;have h':dR w ds cs.toList:=h
 exact .agg ds cs (by simpa using h'.1) (fun i hi=>(h'.2 i hi).1) fun i hi=>by
  have:=(h'.2 i hi).2;simpa[Array.getD_eq_getD_getElem?,List.getD]using this
theorem aam {w:World} {x:D} {v:Value} (hx:x.cells=[x]) (hv:v.cells= #[v]) (h:dR w x.cells v.cells.toList):RD (fun b=>b<w.heap.size) w x v:=by
 rw[hx,hv]at h;exact(h.2 0 (by simp)).2
theorem Runs.start {P:Program} {f:FuncId} {xs:List D} {vals:Array Value} {W:World} {x:D} (h:Runs P f (xs.map .d) [] (.d x) []) (hs:vals.size=xs.length) (ha:∀i,i<xs.length→RD (fun b=>b<W.heap.size) W (xs.getD i dz) (vals.getD i undef)):
 Calls P f vals W fun e W'=>∃v ok,e=.returned v∧RD ok W' x v∧Below W.heap.size W W':=by
 refine(h (fun b=>b<W.heap.size) [] [] W vals ⟨.refl _ _,fun _ h=>h,fun _ h=>.inl h,fun _ h=>h,.refl _,rfl,fun k e h he=>by simp at he,fun k e h b he=>by simp at he,fun k k' e e' h h' b he=>by simp at he⟩ (by simpa using hs) (fun i hi=>?_)).mono ?_
 ·have hi':i<xs.length:=by simpa using hi
  have :(xs.map AV.d).getD i .junk=.d (xs.getD i dz):=by simp[List.getD,hi']
  rw[this];exact .d _ _ (ha i hi')
 rintro e W' ⟨v,ok',H',rfl,hm,hr⟩;cases hr with
 |d _ _ hr=>exact⟨v,ok',rfl,hr,hm.fr.below⟩
theorem Runs.law {P:Program} {f:FuncId} {xs:List D} {vals:Array Value} {W:World} (h:Runs P f (xs.map .d) [] (.d (eB true)) []) (hs:vals.size=xs.length) (ha:∀i,i<xs.length→RD (fun b=>b<W.heap.size) W (xs.getD i dz) (vals.getD i undef)):
 Calls P f vals W fun e W'=>e=.returned (.bool true)∧Below W.heap.size W W':=by
 refine(h.start hs ha).mono ?_;rintro e W' ⟨v,ok,rfl,hr,hb⟩;exact⟨by rw[RD.adB hr],hb⟩
end Go.Proofs.YtolgdkhlelfpoaaGreat
end
section
namespace Go.Proofs.YtolgdkhlelfpoaaGreat
def hasB (l:List Int) (x:Int):Bool:=l.contains x
theorem qj {l:List Int} {x:Int}:hasB l x=true↔x∈l:=by unfold hasB;simp
theorem oJ {l:List Int} {x:Int}:hasB l x=false↔x∉l:=by unfold hasB;simp
def put (l:List Int) (x:Int):List Int:=if hasB l x then l else l.takeWhile (decide<| · <x)++x::l.dropWhile (decide<| · <x)
def iW (l:List Int):List Int:=l.foldl put []
def lq (a b:List Int):List Int:=b.foldl put (iW a)
def xu (a b:List Int):List Int:=(iW a).filter (fun x=>!hasB b x)
abbrev Inc (l:List Int):Prop:=l.Pairwise (· < ·)
theorem aiW {l:List Int} {x:Int}:∀y∈l.takeWhile (decide<| · <x),y<x:=by
 intro y hy;have:=List.all_takeWhile (l:=l) (p:=(decide<| · <x));rw[List.all_eq_true]at this;simpa using this y hy
theorem YN :∀{l:List Int} {x:Int},Inc l→∀y∈l.dropWhile (decide<| · <x),x≤y
 | [],x,_,y,hy=>by simp at hy
 |a::l,x,h,y,hy=>by
  have h':=List.pairwise_cons.1 h;by_cases ha:a<x
  ·rw[List.dropWhile_cons_of_pos (by simpa using ha)]at hy;exact YN h'.2 y hy
  rw[List.dropWhile_cons_of_neg (by simpa using ha)]at hy;rcases List.mem_cons.1 hy with rfl|hy
  ·omega
  have:=h'.1 y hy;omega
theorem alJ {l:List Int} {x y:Int}:y∈put l x↔y∈l∨y=x:=by
 unfold put;split
 ·rename_i h;have hx:x∈l:=qj.1 h;constructor
  ·exact .inl
  rintro(h|rfl)
  ·exact h
  exact hx
 have e:l.takeWhile (decide<| · <x)++l.dropWhile (decide<| · <x)=l:=List.takeWhile_append_dropWhile
 have :y∈l↔y∈l.takeWhile (decide<| · <x)∨y∈l.dropWhile (decide<| · <x):=by
  conv=>lhs;rw[←e]
  exact List.mem_append
 rw[this,List.mem_append,List.mem_cons];constructor
 ·rintro(h|h|h)
  ·exact .inl (.inl h)
  ·exact .inr h
  exact .inl (.inr h)
 rintro((h|h)|h)
 ·exact .inl h
 ·exact .inr (.inr h)
 exact .inr (.inl h)
theorem alK {l:List Int} {x:Int} (h:Inc l):Inc (put l x):=by
 unfold put;split
 ·exact h
 rename_i hx;have hx':x∉l:=fun h=>hx (qj.2 h)
 have hd:∀y∈l.dropWhile (decide<| · <x),x<y:=by
  intro y hy;have h1:=YN h y hy;have h2:y∈l:=(List.dropWhile_sublist _).mem hy;have :y≠x:=fun e=>hx' (e▸h2);omega
 refine List.pairwise_append.2 ⟨h.sublist (List.takeWhile_sublist _),List.pairwise_cons.2 ⟨hd,h.sublist (List.dropWhile_sublist _)⟩,?_⟩;intro a ha b hb;have h1:=aiW a ha;rcases List.mem_cons.1 hb with rfl|hb
 ·exact h1
 have:=hd b hb;omega
theorem ahM {l:List Int}:∀{acc:List Int} {y:Int},y∈l.foldl put acc↔y∈acc∨y∈l:=by
 induction l with
 |nil=>intro acc y;simp
 |cons a l ih=>intro acc y;rw[List.foldl_cons,ih,alJ,List.mem_cons,or_assoc]
theorem ahN {l:List Int}:∀{acc:List Int},Inc acc→Inc (l.foldl put acc):=by
 induction l with
 |nil=>intro acc h;exact h
 |cons a l ih=>intro acc h;exact ih (alK h)
theorem lS {l:List Int} {y:Int}:y∈iW l↔y∈l:=by unfold iW;rw[ahM];simp
theorem nZ (l:List Int):Inc (iW l):=ahN List.Pairwise.nil
theorem P6 :∀{a b:List Int},Inc a→Inc b→(∀x,x∈a↔x∈b)→a=b
 | [],[],_,_,_=>rfl
 | [],b::bs,_,_,h=>by have:=(h b).2 (by simp);simp at this
 |a::ayd,[],_,_,h=>by have:=(h a).1 (by simp);simp at this
 |a::ayd,b::bs,ha,hb,h=>by
  have ha':=List.pairwise_cons.1 ha;have hb':=List.pairwise_cons.1 hb
  have e:a=b:=by
   rcases List.mem_cons.1 ((h a).1 (by simp))with h1|h1
   ·exact h1
   rcases List.mem_cons.1 ((h b).2 (by simp))with h2|h2
   ·exact h2.symm
   have:=ha'.1 b h2;have:=hb'.1 a h1;omega
  subst e;congr 1;refine P6 ha'.2 hb'.2 fun x=>?_;have hx:=h x;rw[List.mem_cons,List.mem_cons]at hx;constructor
  ·intro h1;rcases hx.1 (.inr h1)with rfl|h2
   ·exact absurd (ha'.1 x h1) (by omega)
   exact h2
  intro h1;rcases hx.2 (.inr h1)with rfl|h2
  ·exact absurd (hb'.1 x h1) (by omega)
  exact h2
theorem Nk (a b:List Int):lq a b=iW (a++b):=by unfold lq iW;rw[List.foldl_append]
theorem EF {a b:List Int} {x:Int}:x∈lq a b↔x∈a∨x∈b:=by rw[Nk,lS,List.mem_append]
theorem Pe (a b:List Int):Inc (lq a b):=by rw[Nk];exact nZ _
theorem WW {a b:List Int} {x:Int}:x∈xu a b↔x∈a∧x∉b:=by unfold xu;rw[List.mem_filter,lS];simp[hasB]
theorem amr (a b:List Int):Inc (xu a b):=(nZ a).sublist List.filter_sublist
theorem akH (zs:List Int):∀m,m≤zs.length→∀x,x∈Lib.compactUpTo zs.toArray m↔x∈zs.take m:=by
 intro m
 induction m with
 |zero=>intro _ x;simp[Lib.compactUpTo]
 |succ m ih=>
  intro hm x;rw[Lib.compactUpTo_succ,List.mem_append,ih (by omega),List.take_succ_eq_append_getElem (by omega),List.mem_append];have hg:zs.toArray[m]! =zs[m]'(by omega):=by simp[show m<zs.length by omega]
  by_cases hk:Lib.keeps zs.toArray m=true
  ·rw[if_pos hk,hg]
  rw[if_neg hk];have hk':Lib.keeps zs.toArray m=false:=by simpa using hk
  have h0:m≠0:=by intro e;subst e;simp[Lib.keeps]at hk'
  have he:zs[m]'(by omega)=zs[m-1]'(by omega):=by
   simp[Lib.keeps,h0]at hk';simpa[show m<zs.length by omega,show m-1<zs.length by omega]using hk'
  constructor
  ·intro h;rcases h with h|h
   ·exact .inl h
   simp at h
  rintro(h|h)
  ·exact .inl h
  refine .inl ?_;simp at h;subst h;rw[he];rw[List.mem_take_iff_getElem];exact⟨m-1,by omega,rfl⟩
theorem akI (zs:List Int) (hs:zs.Pairwise (· ≤ ·)):∀m,m≤zs.length→Inc (Lib.compactUpTo zs.toArray m)∧∀x∈Lib.compactUpTo zs.toArray m,∃i,∃_:i<m,∃h2:i<zs.length,x=zs[i]:=by
 intro m
 induction m with
 |zero=>intro _;refine⟨by simp[Lib.compactUpTo],fun x hx=>by simp[Lib.compactUpTo]at hx⟩
 |succ m ih=>
  intro hm;obtain⟨h1,h2⟩:=ih (by omega);have hg:zs.toArray[m]! =zs[m]'(by omega):=by simp[show m<zs.length by omega]
  rw[Lib.compactUpTo_succ];by_cases hk:Lib.keeps zs.toArray m=true
  ·rw[if_pos hk,hg];refine⟨List.pairwise_append.2 ⟨h1,by simp,?_⟩,?_⟩
   ·intro a ha b hb;simp at hb;subst hb;obtain⟨i,hi,hi2,rfl⟩:=h2 a ha
    have hle:∀j,(hj:j<m)→zs[j]'(by omega)≤zs[m-1]'(by omega):=by
     intro j hj;by_cases e:j=m-1
     ·subst e;omega
     exact List.pairwise_iff_getElem.1 hs j (m-1) (by omega) (by omega) (by omega)
    have h3:=hle i hi;have h4:=List.pairwise_iff_getElem.1 hs (m-1) m (by omega) (by omega) (by omega)
    have h5:zs[m]'(by omega)≠zs[m-1]'(by omega):=by
     have hm0:m≠0:=by omega
     simp[Lib.keeps,hm0]at hk;simpa[show m<zs.length by omega,show m-1<zs.length by omega]using hk
    omega
   intro x hx;rcases List.mem_append.1 hx with hx|hx
   ·obtain⟨i,a,b,c⟩:=h2 x hx;exact⟨i,by omega,b,c⟩
   simp at hx;exact⟨m,by omega,by omega,hx⟩
  rw[if_neg hk,List.append_nil];refine⟨h1,fun x hx=>?_⟩;obtain⟨i,a,b,c⟩:=h2 x hx;exact⟨i,by omega,b,c⟩
theorem Qm (l:List Int):Lib.compact (l.mergeSort fun x y=>decide (x≤y))=iW l:=by
 have hs:(l.mergeSort fun x y=>decide (x≤y)).Pairwise (· ≤ ·):=by
  have:=List.pairwise_mergeSort (le:=fun x y:Int=>decide (x≤y)) (by intro a b c;simp;omega) (by intro a b;simp;omega) l;exact this.imp (by intro a b h;simpa using h)
 refine P6 (akI _ hs _ (Nat.le_refl _)).1 (nZ l) fun x=>?_;rw[lS];unfold Lib.compact;rw[akH _ _ (Nat.le_refl _),List.take_length];exact List.mem_mergeSort
end Go.Proofs.YtolgdkhlelfpoaaGreat
end
section
namespace Go.Proofs.YtolgdkhlelfpoaaGreat
open Go.RowKit
def dn {R:Type} (o:Option R) (Q:R→Prop):Prop:=∃r,o=some r∧Q r
section
variable {R A B α : Type} {Q : R → Prop}
theorem dn.ret {r:R} (h:Q r):dn (some r) Q:=⟨r,rfl,h⟩
theorem dn.bind {o:Option A} {f:A→Option R} {P:A→Prop} (h:dn o P) (k:∀x,P x→dn (f x) Q):dn (o.bind f) Q:=by
 obtain⟨x,rfl,hx⟩:=h;exact k x hx
theorem dn.mono {o:Option R} {P:R→Prop} (h:dn o P) (k:∀r,P r→Q r):dn o Q:=by
 obtain⟨x,rfl,hx⟩:=h;exact⟨x,rfl,k x hx⟩
theorem dn.bif {b:Bool} {x y:Option R} (h1:b=true→dn x Q) (h2:b=false→dn y Q):dn (bif b then x else y) Q:=by
 cases b with
 |true=>exact h1 rfl
 |false=>exact h2 rfl
theorem dn.eq {o:Option R} {r:R} (h:dn o (· =r)):o=some r:=by obtain⟨x,rfl,rfl⟩:=h;rfl
theorem dn.of {o:Option R} {r:R} (h:o=some r):dn o (· =r):=⟨r,h,rfl⟩
theorem WX (l:List α) (i:Nat):aV l (i:Int)=l[i]?:=by unfold aV;rw[if_pos (Int.natCast_nonneg i)];simp
theorem fZ {l:List α} {i:Nat} (h:i<l.length):aV l (i:Int)=some l[i]:=by rw[WX];simp[h]
theorem eX {b:Nat} {l m:List α} (h:(l.length+m.length)*b≤140737488355328):gK b l m=some (l++m):=by unfold gK;rw[if_pos h]
theorem P7 {l:List α} {lo hi:Nat} (h1:lo≤hi) (h2:hi≤l.length):wM l (lo:Int) (hi:Int)=some ((l.drop lo).take (hi-lo)):=by
 unfold wM;rw[if_pos ⟨by omega,by omega,by omega⟩];simp
theorem wrap_succ (i:Nat) (h:i<9223372036854775807):IntKind.i64.wrap ((i:Int)+1)=((i+1:Nat):Int):=by
 rw[IntKind.wrap_i64];omega
theorem BU {x:Int} (h1: -9223372036854775808≤x) (h2:x≤9223372036854775807):IntKind.i64.wrap x=x:=by
 rw[IntKind.wrap_i64];omega
theorem YO {body:(A→Option R)→A→Option R} (I:Nat→A→Prop) (hs:∀m a k,I m a→(∀m' a',m'<m→I m' a'→dn (k a') Q)→dn (body k a) Q):
 ∀n m a,m<n→I m a→dn (dB body n a) Q
 |0,m,a,h,_=>by omega
 |n+1,m,a,h,hi=>hs m a _ hi fun m' a' h' hi'=>YO I hs n m' a' (by omega) hi'
theorem uU {body:(A→B→Option R)→A→B→Option R} (I:Nat→A→B→Prop) (hs:∀m a b k,I m a b→(∀m' a' b',m'<m→I m' a' b'→dn (k a' b') Q)→dn (body k a b) Q):
 ∀n m a b,m<n→I m a b→dn (aY body n a b) Q
 |0,m,a,b,h,_=>by omega
 |n+1,m,a,b,h,hi=>hs m a b _ hi fun m' a' b' h' hi'=>uU I hs n m' a' b' (by omega) hi'
theorem kF {body:(Int→Option R)→Int→Option R} (N:Nat) (hN:N<fuel) (I:Nat→Prop) (h0:I 0)
 (hs:∀i k,i<N→I i→(I (i+1)→dn (k ((i+1:Nat):Int)) Q)→dn (body k (i:Int)) Q) (he:∀k,I N→dn (body k (N:Int)) Q):dn (dB body fuel 0) Q:=by
 refine YO (body:=body) (Q:=Q) (fun m a=>∃i:Nat,a=i∧i+m=N∧I i) ?_ fuel N 0 hN ⟨0,rfl,by omega,h0⟩;rintro m a k ⟨i,rfl,hm,hi⟩ hk;by_cases e:i<N
 ·exact hs i k e hi fun h=>hk (m-1) _ (by omega) ⟨i+1,rfl,by omega,h⟩
 have :i=N:=by omega
 subst this;exact he k hi
theorem ql {body:(A→Int→Option R)→A→Int→Option R} (N:Nat) (hN:N<fuel) (I:Nat→A→Prop) {a0:A} (h0:I 0 a0)
 (hs:∀i a k,i<N→I i a→(∀a',I (i+1) a'→dn (k a' ((i+1:Nat):Int)) Q)→dn (body k a (i:Int)) Q) (he:∀a k,I N a→dn (body k a (N:Int)) Q):dn (aY body fuel a0 0) Q:=by
 refine uU (body:=body) (Q:=Q) (fun m a b=>∃i:Nat,b=i∧i+m=N∧I i a) ?_ fuel N a0 0 hN ⟨0,rfl,by omega,h0⟩;rintro m a b k ⟨i,rfl,hm,hi⟩ hk;by_cases e:i<N
 ·exact hs i a k e hi fun a' h=>hk (m-1) _ _ (by omega) ⟨i+1,rfl,by omega,h⟩
 have :i=N:=by omega
 subst this;exact he a k hi
end
end Go.Proofs.YtolgdkhlelfpoaaGreat
end
section
namespace Go.Proofs
open Go.Shelf
def Tryz.akJ:Go.Shelf.Ren:=⟨fun |137=>171|217=>234|266=>308|n=>n,fun |9=>9|5=>5|3=>3|n=>n,fun |n=>n⟩
theorem Tryz.lays137:Go.Proofs.Lays.n137 Tryz.prog Tryz.akJ:={
 mixed:=by kernel_rfl
 f137:=Tryz.func171.trans (congrArg some (by kernel_rfl))
 f217:=Tryz.func234.trans (congrArg some (by kernel_rfl))
 f266:=Tryz.func308.trans (congrArg some (by kernel_rfl))
 t3:=Tryz.underlying3
 a3:=Tryz.isAgg3
 z3:=Tryz.sizeOf3
 v3:=Tryz.zeroValue3
 t5:=Tryz.underlying5
 a5:=Tryz.isAgg5
 z5:=Tryz.sizeOf5
 v5:=Tryz.zeroValue5
 t9:=Tryz.underlying9
 a9:=Tryz.isAgg9
 z9:=Tryz.sizeOf9
 v9:=Tryz.zeroValue9 }
open Go.RowKit in
theorem Tryz.strings_IndexByte (s:ByteArray) (c:Int) (w:World):
 Calls Tryz.prog 171 #[.string s,.int .u8 c] w fun e w'=>e=.returned (.int .i64 (Lib.indexByte s.data.toList c.toNat.toUInt8))∧w'=w:=Any.strings_IndexByte Tryz.lays137 s c w
def Tryz.akK:Go.Shelf.Ren:=⟨fun |215=>261|n=>n,fun |3=>3|4=>4|n=>n,fun |n=>n⟩
theorem Tryz.lays215:Go.Proofs.Lays.n215 Tryz.prog Tryz.akK:={
 mixed:=by kernel_rfl
 f215:=Tryz.func261.trans (congrArg some (by kernel_rfl))
 t3:=Tryz.underlying3
 a3:=Tryz.isAgg3
 z3:=Tryz.sizeOf3
 v3:=Tryz.zeroValue3
 t4:=Tryz.underlying4
 a4:=Tryz.isAgg4
 z4:=Tryz.sizeOf4
 v4:=Tryz.zeroValue4 }
open Go.RowKit in
theorem Tryz.cmp_isNaN_int (x:Int) (w:World):
 Calls Tryz.prog 261 #[.int .i64 x] w fun e w'=>e=.returned (.bool false)∧w'=w:=Any.cmp_isNaN_int Tryz.lays215 x w
def Tryz.akL:Go.Shelf.Ren:=⟨fun |219=>309|217=>234|225=>371|224=>372|267=>373|266=>308|314=>393|n=>n,fun |9=>9|3=>3|4=>4|5=>5|46=>89|146=>326|51=>226|n=>n,fun |1=>0|n=>n⟩
theorem Tryz.lays219:Go.Proofs.Lays.n219 Tryz.prog Tryz.akL:={
 mixed:=by kernel_rfl
 f217:=Tryz.func234.trans (congrArg some (by kernel_rfl))
 f219:=Tryz.func309.trans (congrArg some (by kernel_rfl))
 f224:=Tryz.func372.trans (congrArg some (by kernel_rfl))
 f225:=Tryz.func371.trans (congrArg some (by kernel_rfl))
 f266:=Tryz.func308.trans (congrArg some (by kernel_rfl))
 f267:=Tryz.func373.trans (congrArg some (by kernel_rfl))
 f314:=Tryz.func393.trans (congrArg some (by kernel_rfl))
 t3:=Tryz.underlying3
 a3:=Tryz.isAgg3
 z3:=Tryz.sizeOf3
 v3:=Tryz.zeroValue3
 t4:=Tryz.underlying4
 a4:=Tryz.isAgg4
 z4:=Tryz.sizeOf4
 v4:=Tryz.zeroValue4
 t5:=Tryz.underlying5
 a5:=Tryz.isAgg5
 z5:=Tryz.sizeOf5
 v5:=Tryz.zeroValue5
 t9:=Tryz.underlying9
 a9:=Tryz.isAgg9
 z9:=Tryz.sizeOf9
 v9:=Tryz.zeroValue9
 t46:=Tryz.underlying89
 a46:=Tryz.isAgg89
 z46:=Tryz.sizeOf89
 v46:=Tryz.zeroValue89
 t51:=Tryz.underlying226
 a51:=Tryz.isAgg226
 z51:=Tryz.sizeOf226
 v51:=Tryz.zeroValue226
 t146:=Tryz.underlying326
 a146:=Tryz.isAgg326
 z146:=Tryz.sizeOf326
 v146:=Tryz.zeroValue326
 g1:=by kernel_rfl }
open Go.RowKit Go.Lib in
theorem Tryz.stringslite_Index_one (s:ByteArray) (c:UInt8) (w:World):
 Calls Tryz.prog 309 #[.string s,.string ⟨#[c]⟩] w fun e w'=>e=.returned (.int .i64 (Lib.indexByte s.data.toList c))∧w'=w:=Any.stringslite_Index_one Tryz.lays219 s c w
def Tryz.akM:Go.Shelf.Ren:=⟨fun |145=>172|220=>235|219=>309|217=>234|225=>371|224=>372|267=>373|266=>308|314=>393|n=>n,fun |9=>9|4=>4|59=>152|3=>3|5=>5|46=>89|146=>326|51=>226|n=>n,fun |1=>0|n=>n⟩
theorem Tryz.lays145:Go.Proofs.Lays.n145 Tryz.prog Tryz.akM:={
 mixed:=by kernel_rfl
 f145:=Tryz.func172.trans (congrArg some (by kernel_rfl))
 f217:=Tryz.func234.trans (congrArg some (by kernel_rfl))
 f219:=Tryz.func309.trans (congrArg some (by kernel_rfl))
 f220:=Tryz.func235.trans (congrArg some (by kernel_rfl))
 f224:=Tryz.func372.trans (congrArg some (by kernel_rfl))
 f225:=Tryz.func371.trans (congrArg some (by kernel_rfl))
 f266:=Tryz.func308.trans (congrArg some (by kernel_rfl))
 f267:=Tryz.func373.trans (congrArg some (by kernel_rfl))
 f314:=Tryz.func393.trans (congrArg some (by kernel_rfl))
 t3:=Tryz.underlying3
 a3:=Tryz.isAgg3
 z3:=Tryz.sizeOf3
 v3:=Tryz.zeroValue3
 t4:=Tryz.underlying4
 a4:=Tryz.isAgg4
 z4:=Tryz.sizeOf4
 v4:=Tryz.zeroValue4
 t5:=Tryz.underlying5
 a5:=Tryz.isAgg5
 z5:=Tryz.sizeOf5
 v5:=Tryz.zeroValue5
 t9:=Tryz.underlying9
 a9:=Tryz.isAgg9
 z9:=Tryz.sizeOf9
 v9:=Tryz.zeroValue9
 t46:=Tryz.underlying89
 a46:=Tryz.isAgg89
 z46:=Tryz.sizeOf89
 v46:=Tryz.zeroValue89
 t51:=Tryz.underlying226
 a51:=Tryz.isAgg226
 z51:=Tryz.sizeOf226
 v51:=Tryz.zeroValue226
 t59:=Tryz.underlying152
 a59:=Tryz.isAgg152
 z59:=Tryz.sizeOf152
 v59:=Tryz.zeroValue152
 t146:=Tryz.underlying326
 a146:=Tryz.isAgg326
 z146:=Tryz.sizeOf326
 v146:=Tryz.zeroValue326
 g1:=by kernel_rfl }
open Go.RowKit Go.Lib in
theorem Tryz.strings_Cut (s sep:ByteArray) (m:Int) (w:World) (hs:s.size<4294967281) (hm:w.cell? ⟨0,0,none⟩=some (.int .i64 m)):
 Calls Tryz.prog 172 #[.string s,.string sep] w fun e w'=>e=.returned (.tuple #[.string ⟨(Lib.cut s.data.toList sep.data.toList).1.toArray⟩,.string ⟨(Lib.cut s.data.toList sep.data.toList).2.1.toArray⟩,.bool (Lib.cut s.data.toList sep.data.toList).2.2])∧∃n,w'=w.drewN n:=Any.strings_Cut Tryz.lays145 s sep m w hs hm
def Tryz.akN:Go.Shelf.Ren:=⟨fun |189=>103|125=>149|257=>148|128=>204|129=>205|294=>195|295=>196|296=>197|297=>198|298=>199|299=>200|216=>201|300=>202|301=>203|328=>256|329=>257|330=>258|331=>259|332=>260|215=>261|343=>337|n=>n,fun |28=>24|3=>3|46=>89|0=>0|51=>226|53=>228|4=>4|183=>220|182=>219|131=>97|5=>5|9=>9|218=>254|222=>258|228=>300|229=>301|n=>n,fun |n=>n⟩
theorem Tryz.lays189:Go.Proofs.Lays.n189 Tryz.prog Tryz.akN:={
 mixed:=by kernel_rfl
 f125:=Tryz.func149.trans (congrArg some (by kernel_rfl))
 f128:=Tryz.func204.trans (congrArg some (by kernel_rfl))
 f129:=Tryz.func205.trans (congrArg some (by kernel_rfl))
 f189:=Tryz.func103.trans (congrArg some (by kernel_rfl))
 f215:=Tryz.func261.trans (congrArg some (by kernel_rfl))
 f216:=Tryz.func201.trans (congrArg some (by kernel_rfl))
 f257:=Tryz.func148.trans (congrArg some (by kernel_rfl))
 f294:=Tryz.func195.trans (congrArg some (by kernel_rfl))
 f295:=Tryz.func196.trans (congrArg some (by kernel_rfl))
 f296:=Tryz.func197.trans (congrArg some (by kernel_rfl))
 f297:=Tryz.func198.trans (congrArg some (by kernel_rfl))
 f298:=Tryz.func199.trans (congrArg some (by kernel_rfl))
 f299:=Tryz.func200.trans (congrArg some (by kernel_rfl))
 f300:=Tryz.func202.trans (congrArg some (by kernel_rfl))
 f301:=Tryz.func203.trans (congrArg some (by kernel_rfl))
 f328:=Tryz.func256.trans (congrArg some (by kernel_rfl))
 f329:=Tryz.func257.trans (congrArg some (by kernel_rfl))
 f330:=Tryz.func258.trans (congrArg some (by kernel_rfl))
 f331:=Tryz.func259.trans (congrArg some (by kernel_rfl))
 f332:=Tryz.func260.trans (congrArg some (by kernel_rfl))
 f343:=Tryz.func337.trans (congrArg some (by kernel_rfl))
 t0:=Tryz.underlying0
 a0:=Tryz.isAgg0
 z0:=Tryz.sizeOf0
 v0:=Tryz.zeroValue0
 t3:=Tryz.underlying3
 a3:=Tryz.isAgg3
 z3:=Tryz.sizeOf3
 v3:=Tryz.zeroValue3
 t4:=Tryz.underlying4
 a4:=Tryz.isAgg4
 z4:=Tryz.sizeOf4
 v4:=Tryz.zeroValue4
 t5:=Tryz.underlying5
 a5:=Tryz.isAgg5
 z5:=Tryz.sizeOf5
 v5:=Tryz.zeroValue5
 t9:=Tryz.underlying9
 a9:=Tryz.isAgg9
 z9:=Tryz.sizeOf9
 v9:=Tryz.zeroValue9
 t28:=Tryz.underlying24
 a28:=Tryz.isAgg24
 z28:=Tryz.sizeOf24
 v28:=Tryz.zeroValue24
 t46:=Tryz.underlying89
 a46:=Tryz.isAgg89
 z46:=Tryz.sizeOf89
 v46:=Tryz.zeroValue89
 t51:=Tryz.underlying226
 a51:=Tryz.isAgg226
 z51:=Tryz.sizeOf226
 v51:=Tryz.zeroValue226
 t53:=Tryz.underlying228
 a53:=Tryz.isAgg228
 z53:=Tryz.sizeOf228
 v53:=Tryz.zeroValue228
 t131:=Tryz.underlying97
 a131:=Tryz.isAgg97
 z131:=Tryz.sizeOf97
 v131:=Tryz.zeroValue97
 t182:=Tryz.underlying219
 a182:=Tryz.isAgg219
 z182:=Tryz.sizeOf219
 v182:=Tryz.zeroValue219
 t183:=Tryz.underlying220
 a183:=Tryz.isAgg220
 z183:=Tryz.sizeOf220
 v183:=Tryz.zeroValue220
 t218:=Tryz.underlying254
 a218:=Tryz.isAgg254
 z218:=Tryz.sizeOf254
 v218:=Tryz.zeroValue254
 t222:=Tryz.underlying258
 a222:=Tryz.isAgg258
 z222:=Tryz.sizeOf258
 v222:=Tryz.zeroValue258
 t228:=Tryz.underlying300
 a228:=Tryz.isAgg300
 z228:=Tryz.sizeOf300
 v228:=Tryz.zeroValue300
 t229:=Tryz.underlying301
 a229:=Tryz.isAgg301
 z229:=Tryz.sizeOf301
 v229:=Tryz.zeroValue301 }
open Go.Sort Go.RowKit in
theorem Tryz.slices_Sort_int (blk off cap:Nat) (zs:List Int) (w:World) (hH:Holds (Value.int .i64) w blk off zs.toArray) (hblk:blk<w.heap.size) (hsz:zs.length<4611686018427387904):
 Calls Tryz.prog 103 #[.slice (some ⟨blk,off,none⟩) zs.length cap] w fun e w'=>
  e=.returned (.tuple #[])∧∃n os,w'=grow (putRow (Value.int .i64) (Sort.ahead w n) blk off (zs.mergeSort fun x y=>decide (x≤y)).toArray) os:=Any.slices_Sort_int Tryz.lays189 blk off cap zs w hH hblk hsz
def Tryz.ahO:Go.Shelf.Ren:=⟨fun |20=>104|n=>n,fun |22=>24|3=>3|4=>4|0=>0|n=>n,fun |n=>n⟩
theorem Tryz.ahl:Go.Proofs.Lays2.n20 Tryz.prog Tryz.ahO:={
 mixed:=by kernel_rfl
 f20:=Tryz.func104.trans (congrArg some (by kernel_rfl))
 t0:=Tryz.underlying0
 a0:=Tryz.isAgg0
 z0:=Tryz.sizeOf0
 v0:=Tryz.zeroValue0
 t3:=Tryz.underlying3
 a3:=Tryz.isAgg3
 z3:=Tryz.sizeOf3
 v3:=Tryz.zeroValue3
 t4:=Tryz.underlying4
 a4:=Tryz.isAgg4
 z4:=Tryz.sizeOf4
 v4:=Tryz.zeroValue4
 t22:=Tryz.underlying24
 a22:=Tryz.isAgg24
 z22:=Tryz.sizeOf24
 v22:=Tryz.zeroValue24
 i3:=by kernel_rfl }
open Go.RowKit Go.Lib Go.Sort in
theorem Tryz.slices_Compact_int (blk off cap:Nat) (zs:List Int) (w:World) (hH:Holds (Value.int .i64) w blk off zs.toArray) (hsz:zs.length≤9223372036854775807) (hcap:zs.length≤cap):
 Calls Tryz.prog 104 #[.slice (some ⟨blk,off,none⟩) zs.length cap] w fun e w'=>e=.returned (.slice (some ⟨blk,off,none⟩) (Lib.compact zs).length cap)∧∃q,w'=putRow (Value.int .i64) (Sort.ahead w q) blk off (Lib.compact zs++List.replicate (zs.length-(Lib.compact zs).length) 0).toArray:=Any.slices_Compact_int Tryz.ahl blk off cap zs w hH hsz hcap
open Go.RowKit Go.Lib Go.Sort in
theorem Tryz.slices_Compact_int_empty (a:Option Addr) (cap:Nat) (w:World):
 Calls Tryz.prog 104 #[.slice a 0 cap] w fun e w'=>e=.returned (.slice a 0 cap)∧w'=w:=Any.slices_Compact_int_empty Tryz.ahl a cap w
open Go.RowKit Go.Sort in
theorem Tryz.slices_Sort_int_none (p:Option Addr) (cap:Nat) (w:World):
 Calls Tryz.prog 103 #[.slice p 0 cap] w fun e w'=>e=.returned (.tuple #[])∧w'=w:=Any.slices_Sort_int_none Tryz.lays189 p cap w
end Go.Proofs
end
section
namespace Go.Proofs.YtolgdkhlelfpoaaGreat
open Go.RowKit
def abY (x:Int):List Int→List Int
 | []=>[x]
 |y::l=>bif decide (x≤y)then x::y::l else y::abY x l
def G8 (l:List Int):List Int:=l.foldr abY []
theorem YP (x:Int):∀l,(abY x l).Perm (x::l)
 | []=>.refl _
 |y::l=>by
  unfold abY;cases h:decide (x≤y)with
  |true=>exact .refl _
  |false=>exact((YP x l).cons y).trans (.swap x y l)
theorem uH :∀l,(G8 l).Perm l
 | []=>.refl _
 |x::l=>(YP x (G8 l)).trans ((uH l).cons x)
theorem alL (x:Int):∀l,l.Pairwise (· ≤ ·)→(abY x l).Pairwise (· ≤ ·)
 | [],_=>by simp[abY]
 |y::l,h=>by
  have h':=List.pairwise_cons.1 h;unfold abY;cases hx:decide (x≤y)with
  |true=>
   have hx':x≤y:=of_decide_eq_true hx;refine List.pairwise_cons.2 ⟨fun z hz=>?_,h⟩;rcases List.mem_cons.1 hz with rfl|hz
   ·exact hx'
   have:=h'.1 z hz;omega
  |false=>
   have hx':¬x≤y:=of_decide_eq_false hx;refine List.pairwise_cons.2 ⟨fun z hz=>?_,alL x l h'.2⟩;rcases List.mem_cons.1 ((YP x l).mem_iff.1 hz)with rfl|hz
   ·omega
   exact h'.1 z hz
theorem WY :∀l,(G8 l).Pairwise (· ≤ ·)
 | []=>.nil
 |x::l=>alL x _ (WY l)
theorem abZ (l:List Int):G8 l=l.mergeSort fun x y=>decide (x≤y):=by
 have hs:(l.mergeSort fun x y=>decide (x≤y)).Pairwise (· ≤ ·):=by
  have:=List.pairwise_mergeSort (le:=fun x y:Int=>decide (x≤y)) (by intro a b c;simp;omega) (by intro a b;simp;omega) l;exact this.imp (by intro a b h;simpa using h)
 exact((uH l).trans (List.mergeSort_perm l _).symm).eq_of_pairwise (fun a b _ _ h k=>by omega) (WY l) hs
def iI (l:List Int):Option (List Int):=if l.length≤1099511627776 then some (G8 l)else none
def jF (l:List Int):Option (List Int):=if l.length≤1099511627776 then some (Lib.compact l)else none
theorem lY.nil (w:World) (e size:Nat):lY w e size (.slice none 0 0) 0 []:=.of (World.ownsRow_nil w 0 e size)
theorem ahP {w:World} {g cap n:Nat} {e:TypeId} {os:Array Obj} {cur:Array Value} {ss ts:List Int} (hl:ts.length=ss.length) (hb:w.heap[g]? =some (.cells cur e (0,0)))
 (h1:ss.length≤cap) (h2:cap≤maxLen) (h3:cap*1≤cur.size):
 lY (Go.Sort.grow (Go.Sort.putRow (Value.int .i64) (Go.Sort.ahead w n) g 0 ts.toArray) os) e 1 (.slice (some ⟨g,0,none⟩) ss.length cap) ss.length (ts.map (Value.int .i64)):=
 ⟨by simp[hl],.inr ⟨g,cap,_,rfl,Nat.zero_le _,heap_sortedI _ hb,h1,h2,by simpa[Go.Sort.putCells]using h3,by rw[Nat.mul_one,←hl];exact take_putCellsI cur ts (by omega)⟩⟩
theorem aiX {w:World} {e:TypeId} {g n cap q k:Nat} {zs ys:List Int} (h:lY w e 1 (.slice (some ⟨g,0,none⟩) n cap) n (zs.map (Value.int .i64))) (hy:ys.length=n) (hk:k≤n):
 lY (Go.Sort.putRow (Value.int .i64) (Go.Sort.ahead w q) g 0 ys.toArray) e 1 (.slice (some ⟨g,0,none⟩) k cap) k ((ys.take k).map (Value.int .i64)):=by
 rcases h.2 with⟨e0,_⟩|⟨g',cap',cur,e0,hb,hg,hn,hm,hs,ht⟩
 ·cases e0
 injection e0 with e1 _ e3
 injection e1 with e1
 injection e1 with e1
 subst e1;subst e3;refine⟨by simp;omega,.inr ⟨g,cap,Go.Sort.putCells (Value.int .i64) 0 ys.toArray cur,rfl,hb,?_,by omega,hm,by simpa[Go.Sort.putCells]using hs,?_⟩⟩
 ·simp[Go.Sort.putRow,Go.Sort.mapBlock,Go.Sort.ahead,Array.getElem?_modify,hg,Go.Sort.onCells]
 have:=take_putCellsI cur ys (by omega);rw[Nat.mul_one,List.map_take,←this,List.take_take,Nat.min_eq_left (by omega)]
theorem ahQ {l m:List Int} (h:l.Perm m):G8 l=G8 m:=by
 have hs:∀(l:List Int),(G8 l).Pairwise (· ≤ ·):=WY;exact((uH l).trans (h.trans (uH m).symm)).eq_of_pairwise (fun a b _ _ h1 h2=>by omega) (hs l) (hs m)
theorem ab1 {l m:List Int} (h:l.Perm m):iI l=iI m:=by
 unfold iI;rw[h.length_eq,ahQ h]
theorem sU (l r:List Int) (h:iI l=some r):Runs Tryz.prog 103 [.aK 0] [.arr 3 1 (List.map eI l)] (.eH []) [.arr 3 1 (List.map eI r)]:=by
 unfold iI at h;split at h
 ·rename_i hn;obtain rfl:=Option.some.inj h;refine Runs.asz fun v w how=>?_;rcases how.2 with⟨rfl,h0⟩|⟨g,cap,cur,rfl,hbase,hg,hnc,hcm,hcs,htake⟩
  ·have hl:l=[]:=List.eq_nil_of_length_eq_zero h0;subst hl;refine(Tryz.slices_Sort_int_none _ _ _).mono ?_;rintro e w' ⟨rfl,h⟩;subst h;exact⟨rfl,lY.nil _ _ _,Turns.refl _ _⟩
  have hs:(l.mergeSort fun x y=>decide (x≤y)).length=l.length:=List.length_mergeSort _;refine(Tryz.slices_Sort_int g 0 cap l w (holds_of_blockI hg (by simpa using htake)) (Array.getElem?_eq_some_iff.1 hg).1 (by omega)).mono ?_;rintro e w' ⟨rfl,n,os,rfl⟩;rw[abZ];refine⟨rfl,?_,Turns.apX (grownBy_sortedI _)⟩;rw[hs];exact ahP (os:=os) (n:=n) hs hg hnc hcm hcs
 cases h
theorem vJ (l r:List Int) (h:jF l=some r):Runs Tryz.prog 104 [.aK 0] [.arr 3 1 (List.map eI l)] (.aK 1) [.dead,.arr 3 1 (List.map eI r)]:=by
 unfold jF at h;split at h
 ·rename_i hn;obtain rfl:=Option.some.inj h;refine Runs.turned fun v w how=>?_;rcases how.2 with⟨rfl,h0⟩|⟨g,cap,cur,rfl,hbase,hg,hnc,hcm,hcs,htake⟩
  ·have hl:l=[]:=List.eq_nil_of_length_eq_zero h0;subst hl;refine(Tryz.slices_Compact_int_empty _ _ _).mono ?_;rintro e w' ⟨rfl,h⟩;subst h;exact⟨_,rfl,lY.nil _ _ _,Turns.refl _ _,fun g hg=>by simp[eG]at hg⟩
  refine(Tryz.slices_Compact_int g 0 cap l w (holds_of_blockI hg (by simpa using htake)) (by omega) hnc).mono ?_;rintro e w' ⟨rfl,q,rfl⟩;have hle:=Lib.compact_length_le l;have hy:(Lib.compact l++List.replicate (l.length-(Lib.compact l).length) 0).length=l.length:=by simp;omega
  refine⟨_,rfl,?_,?_,fun g hg=>.inl hg⟩
  ·have:=aiX (q:=q) how hy hle;rw[List.take_left' rfl]at this;exact this
  exact⟨rfl,rfl,rfl,by simp[Sort.putRow,Sort.mapBlock,Sort.ahead],fun k hk hne=>by
   have :g≠k:=fun e=>hne (by rw[e];rfl)
   simp[Sort.putRow,Sort.mapBlock,Sort.ahead,Array.getElem?_modify,this]⟩
 cases h
end Go.Proofs.YtolgdkhlelfpoaaGreat
end
section
namespace Go.Proofs.YtolgdkhlelfpoaaGreat
open Go.RowKit
def strings_IndexByte (s:ByteArray) (c:Int):Option Int:=some (Lib.indexByte s.data.toList c.toNat.toUInt8)
theorem WZ (s:ByteArray) (c:Int) (r:Int) (h:strings_IndexByte s c=some r):Runs Tryz.prog 171 [.d (eS s),.d (dY c)] [] (.d (eI r)) []:=by
 rw[←Option.some.inj h];exact Runs.plain (vs:=[.string s,.int .u8 c]) (v:=.int .i64 (Lib.indexByte s.data.toList c.toNat.toUInt8)) (fun _ _ _=>.d _ _ (.lit _)) fun w=>(Tryz.strings_IndexByte s c w).mono fun e w' ⟨h1,h2⟩=>⟨h1,by rw[h2];exact⟨rfl,rfl,rfl,Nat.le_refl _,fun _ _=>rfl⟩⟩
def oK (s t:ByteArray):Option Int:=match t.data.toList with
 | [c]=>some (Lib.indexByte s.data.toList c)
 |_=>none
theorem Kv (s t:ByteArray) (r:Int) (h:oK s t=some r):Runs Tryz.prog 309 [.d (eS s),.d (eS t)] [] (.d (eI r)) []:=by
 unfold oK at h;split at h
 ·rename_i c hc;rw[←Option.some.inj h];obtain⟨⟨l⟩⟩:=t;simp only at hc;subst hc;exact Runs.plain (vs:=[.string s,.string ⟨#[c]⟩]) (v:=.int .i64 (Lib.indexByte s.data.toList c)) (fun _ _ _=>.d _ _ (.lit _)) fun w=>(Tryz.stringslite_Index_one s c w).mono fun e w' ⟨h1,h2⟩=>⟨h1,by rw[h2];exact⟨rfl,rfl,rfl,Nat.le_refl _,fun _ _=>rfl⟩⟩
 cases h
end Go.Proofs.YtolgdkhlelfpoaaGreat
end
section
namespace Go.Proofs.YtolgdkhlelfpoaaGreat
open Go.RowKit
structure W9 (P:Program) (t:TypeId) (s:Nat) (z:Value):Prop where
 und:∃n e,P.underlying t=some (.array n e)∧∃i,P.info? e=some i∧i.size=s
 zero:(P.info? t).bind (·.zero)=some z
 one:z.cells.all (·.oneCell')=true
def aue (P:Program) (t:TypeId) (s:Nat):Bool:=
 match P.underlying t with
 |some (.array _ e)=>match P.info? e with
  |some i=>decide (i.size=s)
  |none=>false
 |_=>false
theorem adE {P:Program} {t:TypeId} {s:Nat} {z:Value} (h:aue P t s=true) (hz:(P.info? t).bind (·.zero)=some z) (h1:z.cells.all (·.oneCell')=true):W9 P t s z:=by
 unfold aue at h;split at h
 ·rename_i n e hu;split at h
  ·rename_i i hi;exact⟨⟨n,e,hu,i,hi,of_decide_eq_true h⟩,hz,h1⟩
  cases h
 cases h
section
variable {P : Program} {o : Oper} {es : List bn} {α : Type}
theorem an9 {t:TypeId} {parts:Array (Nat×Operand)} {s:Nat} {z:Value} (hA:W9 P t s z) (vs:List AV) (hp:sD (fun i=>some (i*s,s)) (iH z).length parts.toList vs=true)
 (hd:(qK (fun i=>some (i*s,s)) (iH z) parts.toList vs).all AV.xk=true) (ho:o.op=.build t parts):
 bK P o (lg parts.toList vs) es (.d (.agg (nY (qK (fun i=>some (i*s,s)) (iH z) parts.toList vs)))) es:=
 .pure fun ok H a w _ _ hn=>by
  obtain⟨⟨n,e,hu,i,hi,hs⟩,hz,h1⟩:=hA;have hzr:=WT (P:=P) hz w;have hu':(underlying t).run P w=.ok (.array n e) w:=by simp[underlying,hu]
  have hs':(sizeOf e).run P w=.ok s w:=by simp[sizeOf,typeInfo,hi,hs]
  obtain⟨cells',hc,hR⟩:=Qg (place:=fun i=>some (i*s,s)) parts.toList vs (iH z) z.cells (YI (ok:=ok) (w:=w) (H:=H) h1) hp hn;refine⟨.agg cells',?_,.d _ _ ?_⟩
  ·have e:(parts.map fun(i,x)=>(i,a.eval x)).toList=parts.toList.map fun p=>(p.1,a.eval p.2):=by simp
   simp only[execOp,ho,Instr.build,Sem.run_bind,hzr,hu',hs',Result.andThen_ok];rw[e,hc];rfl
  rw[alF hd]at hR;generalize nY (qK (fun i=>some (i*s,s)) (iH z) parts.toList vs)=xs at hR ⊢;obtain⟨h2,h3⟩:=hR;simp only[List.length_map]at h2 h3
  have hg:∀i,i<xs.length→(xs.map AV.d).getD i .junk=.d (xs.getD i dz):=by
   intro i hi;simp[List.getD,hi]
  have hsz:cells'.size=xs.length:=by simpa using h2
  refine .agg xs cells' hsz ?_ ?_<;>intro i hi
  ·have:=(h3 i hi).1;rw[hg i hi]at this;exact this
  have h4:=(h3 i hi).2;rw[hg i hi]at h4;have hi2:i<cells'.size:=by omega
  have e:cells'.toList.getD i undef=cells'.getD i undef:=by simp[List.getD,Array.getD,hi2]
  rw[e]at h4;cases h4 with |d _ _ h=>exact h
def eA (enc:α→D) (l:List α):D:=.agg (l.map enc)
theorem aan {x y:Operand} {t e:TypeId} {n:Nat} {k:IntKind} {i:Int} (enc:α→D) {l:List α} {a:α} (h:aV l i=some a) (ht:P.underlying t=some (.array n e)) (hT:Ty P e false 1) (hl:l.length=n) (ho:o.op=.index t x y):
 bK P o [(x,.d (eA enc l)),(y,.d (.lit (.int k i)))] es (.d (enc a)) es:=
 .pure fun ok H ac w _ _ hn=>by
  obtain⟨h0,h1⟩:=jP h;have hx:=(mem2 hn).1;have hy:=(mem2 hn).2.lit;simp only at hx hy;have hlt:=(List.getElem?_eq_some_iff.1 h1).1;have hu:(underlying t).run P w=.ok (.array n e) w:=by simp[underlying,ht]
  generalize hv:ac.eval x=v at hx;cases hx with
  |d _ _ hx=>
   cases hx with
   |agg _ vs hl' hf hc=>
    rw[List.length_map]at hl' hf hc;have hlt':i.toNat<vs.size:=by omega
    refine⟨vs[i.toNat],?_,?_⟩
    ·have hb:0≤i∧i<n:=⟨h0,by omega⟩
     simp only[execOp,ho,hv,hy,Instr.index,asIntOf,Sem.run_bind,Sem.run_pure,hu,Result.andThen_ok,hb,and_self,if_true,hT.size w,part,hT.agg w];simp[hlt']
    have:=hc i.toNat hlt;simp only[Array.getD,hlt',dif_pos]at this;have e2:(l.map enc).getD i.toNat dz=enc a:=by simp[List.getD,h1]
    rw[e2]at this;exact .d _ _ this
theorem aoa {x:Operand} {k off:Nat} (ho:o.op=.nilCheck x):bK P o [(x,.ptr k off)] es (.ptr k off) es:=
 .pure fun ok H a w _ _ hn=>by
  have h1:=mem1 hn;simp only at h1;generalize he:a.eval x=u at h1;cases h1 with
  |ptr _ _ b s h=>exact⟨_,by simp[execOp,ho,he],.ptr _ _ b s h⟩
theorem ams {x:Operand} {k i off:Nat} (ho:o.op=.nilCheck x):bK P o [(x,.jV k i off)] es (.jV k i off) es:=
 .pure fun ok H a w _ _ hn=>by
  have h1:=mem1 hn;simp only at h1;generalize he:a.eval x=u at h1;cases h1 with
  |jV _ _ _ b n cap s h=>exact⟨_,by simp[execOp,ho,he],.jV _ _ _ b n cap s h⟩
theorem aob {x:Operand} {cs:List D} {off:Nat} (ho:o.op=.nilCheck x):bK P o [(x,.d (.ref cs off))] es (.d (.ref cs off)) es:=
 .pure fun ok H a w _ _ hn=>by
  have h1:=mem1 hn;simp only at h1;generalize he:a.eval x=u at h1;cases h1 with
  |d _ _ h=>cases h with
   |ref _ _ b p hok hf hx hc=>exact⟨_,by simp[execOp,ho,he],.d _ _ (.ref _ _ b p hok hf hx hc)⟩
def eFn (n:Nat):D:=.fn (.func n) [] []
end
end Go.Proofs.YtolgdkhlelfpoaaGreat
end
section
namespace Go.Proofs.YtolgdkhlelfpoaaGreat
open Go.RowKit
def KP {α:Type} (p:α→Prop):List α→Prop
 | []=>True
 |x::l=>p x∧KP p l
theorem KP.mem {α:Type} {p:α→Prop}:∀{l:List α},KP p l→∀x∈l,p x
 | [],_,x,h=>by simp at h
 |y::l,hl,x,h=>by
  rcases List.mem_cons.1 h with rfl|h
  ·exact hl.1
  exact hl.2.mem x h
class Kn (P:Program) where
 und:List (Nat×TypeDesc)
 ab2:KP (fun p:Nat×TypeDesc=>P.underlying p.1=some p.2) und
 ty:List (Nat×Bool×Nat)
 hty:KP (fun p:Nat×Bool×Nat=>Ty P p.1 p.2.1 p.2.2) ty
 fld:List ((Nat×Nat)×Nat)
 hfld:KP (fun p:(Nat×Nat)×Nat=>bU P p.1.1 p.1.2 p.2) fld
 part:List ((Nat×Nat)×Nat×Bool×Nat)
 hpart:KP (fun p:(Nat×Nat)×Nat×Bool×Nat=>aaj P p.1.1 p.1.2 p.2.1 p.2.2.1 p.2.2.2=true) part
 zero:List (Nat×Value)
 hzero:KP (fun p:Nat×Value=>(P.info? p.1).bind (·.zero)=some p.2∧p.2.cells.all (·.oneCell')=true) zero
 st:List (Nat×List (Nat×Nat)×Value)
 hst:KP (fun p:Nat×List (Nat×Nat)×Value=>jA P p.1 p.2.1 p.2.2) st
 arr:List (Nat×Nat×Value)
 harr:KP (fun p:Nat×Nat×Value=>W9 P p.1 p.2.1 p.2.2) arr
def look {β:Type} (t:Nat):List (Nat×β)→Option β
 | []=>none
 |(u,b)::l=>match Nat.beq t u with |true=>some b|false=>look t l
theorem nT {β:Type} {t:Nat} {b:β}:∀{l:List (Nat×β)},look t l=some b→(t,b)∈l
 | [],h=>by cases h
 |(u,c)::l,h=>by
  unfold look at h;split at h
  ·rename_i e;cases h;rw[Nat.eq_of_beq_eq_true e];exact List.mem_cons_self
  exact List.mem_cons_of_mem _ (nT h)
def adF {β:Type} (t f:Nat):List ((Nat×Nat)×β)→Option β
 | []=>none
 |((u,g),b)::l=>match Nat.beq t u&&Nat.beq f g with |true=>some b|false=>adF t f l
theorem Nl {β:Type} {t f:Nat} {b:β}:∀{l:List ((Nat×Nat)×β)},adF t f l=some b→((t,f),b)∈l
 | [],h=>by cases h
 |((u,g),c)::l,h=>by
  unfold adF at h;split at h
  ·rename_i e;cases h;rw[Bool.and_eq_true]at e;rw[Nat.eq_of_beq_eq_true e.1,Nat.eq_of_beq_eq_true e.2];exact List.mem_cons_self
  exact List.mem_cons_of_mem _ (Nl h)
structure SV where
 ns:List (Operand×AV)
 x:AV
 E:List bn
 bar:Bool
def apY (op:BinOp) (k:IntKind) (a b:Int):Option Value:=
 match op with
 | .add=>some (.int k (k.wrap (a+b)))
 | .sub=>some (.int k (k.wrap (a-b)))
 | .mul=>some (.int k (k.wrap (a*b)))
 | .eql=>some (.bool (a==b))
 | .neq=>some (.bool (a != b))
 | .lss=>some (.bool (decide (a<b)))
 | .leq=>some (.bool (decide (a≤b)))
 | .gtr=>some (.bool (decide (a>b)))
 | .geq=>some (.bool (decide (a≥b)))
 |_=>none
theorem asA {op:BinOp} {k:IntKind} {a b:Int} {r:Value} {t:TypeId} {P:Program} (h:apY op k a b=some r) (w:World):(binOp op t (.int k a) (.int k b)).run P w=.ok r w:=by
 unfold apY at h;cases op<;>first|(cases h;done)|(cases h;simp[binOp,Op.intArith,Op.intCmp];done)|(cases h;cases k<;>rfl)
def apZ (op:BinOp) (a b:ByteArray):Option Value:=
 match op with
 | .eql=>some (.bool (a.toList==b.toList))
 | .neq=>some (.bool (!(a.toList==b.toList)))
 | .lss=>some (.bool (Op.bytesLess a.toList b.toList))
 | .leq=>some (.bool (Op.bytesLess a.toList b.toList||a.toList==b.toList))
 | .gtr=>some (.bool (!(Op.bytesLess a.toList b.toList||a.toList==b.toList)))
 | .geq=>some (.bool (!Op.bytesLess a.toList b.toList))
 |_=>none
theorem asB {op:BinOp} {a b:ByteArray} {r:Value} {t:TypeId} {P:Program} (h:apZ op a b=some r) (w:World):(binOp op t (.string a) (.string b)).run P w=.ok r w:=by
 unfold apZ at h;cases op<;>first|(cases h;done)|(cases h;rfl)
theorem bK.auf {P:Program} {o:Oper} {ns ns':List (Operand×AV)} {es es':List bn} {x:AV} (h:bK P o ns es x es') (hns:∀n∈ns,n∈ns'∨n=(.const (.slice none 0 0),.d (.sl []))):bK P o ns' es x es':=by
 intro C ok H a w Q hm hn;refine h C ok H a w Q hm (fun n hn'=>?_);rcases hns n hn' with h1|rfl
 ·exact hn n h1
 exact .d _ _ (.sl0 none 0)
def aiY {P:Program} (K:Kn P) (σ:St) (o:Oper):Option SV:=
 match o.op with
 | .move x=>match x with
   | .const (.slice none 0 0)=>some ⟨[],.d (.sl []),σ.ents,false⟩
   |x=>some ⟨[(x,σ.get x)],σ.get x,σ.ents,false⟩
 | .assign x=>match x with
   | .const (.slice none 0 0)=>some ⟨[],.d (.sl []),σ.ents,false⟩
   |x=>some ⟨[(x,σ.get x)],σ.get x,σ.ents,false⟩
 | .pick c x y=>match σ.get c with
   | .d (.lit (.bool true))=>some ⟨[(c,.d (.lit (.bool true))),(x,σ.get x)],σ.get x,σ.ents,false⟩
   | .d (.lit (.bool false))=>some ⟨[(c,.d (.lit (.bool false))),(y,σ.get y)],σ.get y,σ.ents,false⟩
   |_=>none
 | .binOp op t x y _=>match σ.get x,σ.get y with
   | .d (.lit (.int k a)),.d (.lit (.int k' b))=>if k=k' then(apY op k a b).map fun r=>⟨[(x,.d (.lit (.int k a))),(y,.d (.lit (.int k b)))],.d (.lit r),σ.ents,false⟩else none
   | .d (.lit (.string a)),.d (.lit (.string b))=>(apZ op a b).map fun r=>⟨[(x,.d (.lit (.string a))),(y,.d (.lit (.string b)))],.d (.lit r),σ.ents,false⟩
   | .d (.lit (.bool a)),.d (.lit (.bool b))=>match look t K.und with
     |some .bool=>match op with
      | .eql=>some ⟨[(x,.d (eB a)),(y,.d (eB b))],.d (eB (a==b)),σ.ents,false⟩
      | .neq=>some ⟨[(x,.d (eB a)),(y,.d (eB b))],.d (eB (!(a==b))),σ.ents,false⟩
      |_=>none
     |_=>none
   |_,_=>none
 | .unOp op _ x=>match σ.get x with
   | .d (.lit (.bool b))=>match op with
     | .not=>some ⟨[(x,.d (.lit (.bool b)))],.d (.lit (.bool !b)),σ.ents,false⟩
     |_=>none
   | .d (.lit (.int k n))=>match op with
     | .neg=>some ⟨[(x,.d (.lit (.int k n)))],.d (.lit (.int k (k.wrap (0-n)))),σ.ents,false⟩
     |_=>none
   |_=>none
 | .convert s t x=>match look s K.und,look t K.und,σ.get x with
   |some (.int k0),some (.int k),.d (.lit (.int k1 n))=>if k0=k1 then some ⟨[(x,.d (.lit (.int k0 n)))],.d (.lit (.int k (k.wrap n))),σ.ents,false⟩else none
   |some .string,some .string,.d (.lit (.string u))=>some ⟨[(x,.d (eS u))],.d (eS u),σ.ents,false⟩
   |_,_,_=>none
 | .extract x i=>match σ.get x with
   | .eH xs=>match xs[i]? with
     |some v=>some ⟨[(x,.eH xs)],v,σ.ents,false⟩
     |none=>none
   |_=>none
 | .fieldAddr t x f=>match adF t f K.fld,σ.get x with
   |some off,.ptr k o'=>some ⟨[(x,.ptr k o')],.ptr k (o'+off),σ.ents,false⟩
   |some off,.jV k i o'=>some ⟨[(x,.jV k i o')],.jV k i (o'+off),σ.ents,false⟩
   |some off,.d (.ref cs o')=>some ⟨[(x,.d (.ref cs o'))],.d (.ref cs (o'+off)),σ.ents,false⟩
   |_,_=>none
 | .nilCheck x=>match σ.get x with
   | .ptr k o'=>some ⟨[(x,.ptr k o')],.ptr k o',σ.ents,false⟩
   | .jV k i o'=>some ⟨[(x,.jV k i o')],.jV k i o',σ.ents,false⟩
   | .d (.ref cs o')=>some ⟨[(x,.d (.ref cs o'))],.d (.ref cs o'),σ.ents,false⟩
   |_=>none
 | .field t x f=>match adF t f K.part,σ.get x with
   |some (off,agg,n),.d (.agg cs)=>if off+n≤cs.length∧(agg=false→n=1)then some ⟨[(x,.d (.agg cs))],.d (qh agg cs off n),σ.ents,false⟩else none
   |_,_=>none
 | .load t x=>match look t K.ty,σ.get x with
   |some (agg,n),.d (.ref cs off)=>if off+n≤cs.length∧(agg=false→n=1)then some ⟨[(x,.d (.ref cs off))],.d (qh agg cs off n),σ.ents,false⟩else none
   |some (agg,n),.ptr k off=>match σ.ents[k]? with
    |some (.box cs)=>if(off+n≤cs.length∧(agg=false→n=1))∧cs.all AV.xk=true then some ⟨[(x,.ptr k off)],.d (qh agg (nY cs) off n),σ.ents,false⟩else match agg,n,cs[off]? with
     |false,1,some v=>some ⟨[(x,.ptr k off)],v,σ.ents,false⟩
     |_,_,_=>none
    |_=>none
   |_,_=>none
 | .box _ x=>if(σ.get x).cells.all AV.leaf=true then some ⟨[(x,σ.get x)],.ptr σ.ents.length 0,σ.ents++[.box (σ.get x).cells],true⟩else none
 | .alloc t=>match look t K.zero with
   |some z=>some ⟨[],.ptr σ.ents.length 0,σ.ents++[.box (iH z)],true⟩
   |none=>none
 | .store t x y=>match look t K.ty,σ.get x with
   |some (_,n),.ptr k off=>match σ.ents[k]? with
    |some (.box cs)=>match y with
     | .const (.slice none 0 0)=>if n=1∧off+1≤cs.length then some ⟨[(x,.ptr k off)],.junk,σ.ents.set k (.box (setAt cs off [.d (.sl [])])),true⟩else none
     |y=>if((σ.get y).cells.all AV.leaf=true∧(σ.get y).cells.length=n)∧off+n≤cs.length then some ⟨[(x,.ptr k off),(y,σ.get y)],.junk,σ.ents.set k (.box (setAt cs off (σ.get y).cells)),true⟩else none
    |_=>none
   |_,_=>none
 | .build t parts=>match look t K.st with
   |some (places,z)=>
    if sD (fun(i:Nat)=>places[i]?) (iH z).length parts.toList (parts.toList.map fun p=>σ.get p.2)=true∧(qK (fun(i:Nat)=>places[i]?) (iH z) parts.toList (parts.toList.map fun p=>σ.get p.2)).all AV.xk=true
    then some ⟨lg parts.toList (parts.toList.map fun p=>σ.get p.2),.d (.agg (nY (qK (fun(i:Nat)=>places[i]?) (iH z) parts.toList (parts.toList.map fun p=>σ.get p.2)))),σ.ents,false⟩
    else none
   |none=>match look t K.arr with
    |some (s,z)=>
     if sD (fun i=>some (i*s,s)) (iH z).length parts.toList (parts.toList.map fun p=>σ.get p.2)=true∧(qK (fun i=>some (i*s,s)) (iH z) parts.toList (parts.toList.map fun p=>σ.get p.2)).all AV.xk=true
     then some ⟨lg parts.toList (parts.toList.map fun p=>σ.get p.2),.d (.agg (nY (qK (fun i=>some (i*s,s)) (iH z) parts.toList (parts.toList.map fun p=>σ.get p.2)))),σ.ents,false⟩
     else none
    |none=>none
 | .call c=>match c.callee,c.args.toList,c.argTypes.toList with
   | .builtin .len,[x],[t]=>match look t K.und,σ.get x with
     |some .string,.d (.lit (.string s))=>some ⟨[(x,.d (eS s))],.d (eI s.size),σ.ents,false⟩
     |_,_=>none
   |_,_,_=>none
 |_=>none
theorem Qn (σ:St):∀(l:List (Nat×Operand)),needs σ (lg l (l.map fun p=>σ.get p.2))
 | []=>trivial
 |(_,x)::l=>⟨rfl,Qn σ l⟩
theorem aoc {P:Program} (K:Kn P) {σ:St} {o:Oper} {r:SV} (h:aiY K σ o=some r):bK P o r.ns σ.ents r.x r.E∧needs σ r.ns∧(r.bar=false→r.E=σ.ents):=by
 unfold aiY at h;split at h
 ·rename_i x ho;split at h
  ·cases h;exact⟨akF ho,trivial,fun _=>rfl⟩
  cases h;exact⟨asn ho,⟨rfl,trivial⟩,fun _=>rfl⟩
 ·rename_i x ho;split at h
  ·cases h;exact⟨ahK ho,trivial,fun _=>rfl⟩
  cases h;exact⟨anO ho,⟨rfl,trivial⟩,fun _=>rfl⟩
 ·rename_i c x y ho;split at h
  ·rename_i e;cases h;exact⟨aso true rfl ho,⟨e,rfl,trivial⟩,fun _=>rfl⟩
  ·rename_i e;cases h;exact⟨apM false rfl ho,⟨e,rfl,trivial⟩,fun _=>rfl⟩
  cases h
 ·rename_i op t x y t' ho;split at h
  ·rename_i k a k' b e1 e2;split at h
   ·rename_i hk;subst hk;rw[Option.map_eq_some_iff]at h;obtain⟨v,hv,rfl⟩:=h;exact⟨Gs ho (asA hv) ⟨rfl,rfl⟩,⟨e1,e2,trivial⟩,fun _=>rfl⟩
   cases h
  ·rename_i a b e1 e2;rw[Option.map_eq_some_iff]at h;obtain⟨v,hv,rfl⟩:=h;exact⟨Gs ho (asB hv) ⟨rfl,rfl⟩,⟨e1,e2,trivial⟩,fun _=>rfl⟩
  ·rename_i a b e1 e2;split at h
   ·rename_i hu;have hu:=K.ab2.mem _ (nT hu);split at h
    ·cases h;exact⟨at6 hu ho,⟨e1,e2,trivial⟩,fun _=>rfl⟩
    ·cases h;exact⟨at7 hu ho,⟨e1,e2,trivial⟩,fun _=>rfl⟩
    cases h
   cases h
  cases h
 ·rename_i op t x ho;split at h
  ·rename_i b e;split at h
   ·cases h;exact⟨ame ho (fun _=>rfl),⟨e,trivial⟩,fun _=>rfl⟩
   cases h
  ·rename_i k n e;split at h
   ·cases h;exact⟨ame ho (fun _=>rfl),⟨e,trivial⟩,fun _=>rfl⟩
   cases h
  cases h
 ·rename_i s t x ho;split at h
  ·rename_i k0 k k1 n h1 h2 e;split at h
   ·rename_i hk;subst hk;cases h;exact⟨apU (K.ab2.mem _ (nT h1)) (K.ab2.mem _ (nT h2)) ho,⟨e,trivial⟩,fun _=>rfl⟩
   cases h
  ·rename_i u h1 h2 e;cases h;exact⟨apV (K.ab2.mem _ (nT h1)) (K.ab2.mem _ (nT h2)) ho,⟨e,trivial⟩,fun _=>rfl⟩
  cases h
 ·rename_i x i ho;split at h
  ·rename_i xs e;split at h
   ·rename_i v hv;cases h;exact⟨amf ho hv,⟨e,trivial⟩,fun _=>rfl⟩
   cases h
  cases h
 ·rename_i t x f ho;split at h
  ·rename_i off k o' h1 e;cases h;exact⟨aiI (K.hfld.mem _ (Nl h1)) ho,⟨e,trivial⟩,fun _=>rfl⟩
  ·rename_i off k i o' h1 e;cases h;exact⟨ahJ (K.hfld.mem _ (Nl h1)) ho,⟨e,trivial⟩,fun _=>rfl⟩
  ·rename_i off cs o' h1 e;cases h;exact⟨aiH (K.hfld.mem _ (Nl h1)) ho,⟨e,trivial⟩,fun _=>rfl⟩
  cases h
 ·rename_i x ho;split at h
  ·rename_i e;cases h;exact⟨aoa ho,⟨e,trivial⟩,fun _=>rfl⟩
  ·rename_i e;cases h;exact⟨ams ho,⟨e,trivial⟩,fun _=>rfl⟩
  ·rename_i e;cases h;exact⟨aob ho,⟨e,trivial⟩,fun _=>rfl⟩
  cases h
 ·rename_i t x f ho;split at h
  ·rename_i off agg n cs h1 e;split at h
   ·rename_i hc;cases h;exact⟨anZ rfl (K.hpart.mem _ (Nl h1)) hc.1 hc.2 ho,⟨e,trivial⟩,fun _=>rfl⟩
   cases h
  cases h
 ·rename_i t x ho;split at h
  ·rename_i agg n cs off h1 e;split at h
   ·rename_i hc;cases h;exact⟨apS rfl (K.hty.mem _ (nT h1)) hc.1 hc.2 ho,⟨e,trivial⟩,fun _=>rfl⟩
   cases h
  ·rename_i agg n k off h1 e;split at h
   ·rename_i cs hk;split at h
    ·rename_i hc;cases h;exact⟨apT rfl hk hc.2 (K.hty.mem _ (nT h1)) hc.1.1 hc.1.2 ho,⟨e,trivial⟩,fun _=>rfl⟩
    split at h
    ·rename_i v hv _;cases h;exact⟨YF hk hv (K.hty.mem _ (nT h1)) ho,⟨e,trivial⟩,fun _=>rfl⟩
    cases h
   cases h
  cases h
 ·rename_i t x ho;split at h
  ·rename_i hc;cases h;exact⟨atW hc ho,⟨rfl,trivial⟩,fun hb=>by cases hb⟩
  cases h
 ·rename_i t ho;split at h
  ·rename_i z hz;cases h;exact⟨apO (K.hzero.mem _ (nT hz)).1 (K.hzero.mem _ (nT hz)).2 ho,trivial,fun hb=>by cases hb⟩
  cases h
 ·rename_i t x y ho;split at h
  ·rename_i agg n k off h1 e;split at h
   ·rename_i cs hk;split at h
    ·split at h
     ·rename_i hc;cases h;refine⟨bK.auf (YH (v:=.d (.sl [])) hk rfl (by have h9:=(K.hty.mem _ (nT h1)).size;rw[hc.1]at h9;exact h9) rfl hc.2 ho) (fun n hn=>?_),⟨e,trivial⟩,fun hb=>by cases hb⟩;simp only[List.mem_cons,List.not_mem_nil,or_false]at hn;rcases hn with rfl|rfl
      ·exact .inl (by simp)
      exact .inr rfl
     cases h
    split at h
    ·rename_i hc;cases h;exact⟨YH hk hc.1.1 (K.hty.mem _ (nT h1)).size hc.1.2 hc.2 ho,⟨e,rfl,trivial⟩,fun hb=>by cases hb⟩
    cases h
   cases h
  cases h
 ·rename_i t parts ho;split at h
  ·rename_i places z hs;split at h
   ·rename_i hc;cases h;exact⟨an0 (K.hst.mem _ (nT hs)) _ ho rfl hc.1 hc.2,Qn σ _,fun _=>rfl⟩
   cases h
  split at h
  ·rename_i s z hs;split at h
   ·rename_i hc;cases h;exact⟨an9 (K.harr.mem _ (nT hs)) _ hc.1 hc.2 ho,Qn σ _,fun _=>rfl⟩
   cases h
  cases h
 ·rename_i c ho;split at h
  ·rename_i x t YQ ha ht
   have ho:o.op=.call { callee:=.builtin .len,args:=#[x],argTypes:=#[t] }:=by
    obtain⟨cal,ayd,ts⟩:=c;simp only at YQ ha ht;rw[ho,YQ,show ayd= #[x]from by rw[←Array.toArray_toList (xs:=ayd),ha],show ts= #[t]from by rw[←Array.toArray_toList (xs:=ts),ht]]
   split at h
   ·rename_i s h1 e;cases h;exact⟨asu s (K.ab2.mem _ (nT h1)) ho,⟨e,trivial⟩,fun _=>rfl⟩
   cases h
  cases h
 cases h
def qo (ops:Array Oper) (σ:St):Option (Nat×Bool)→Option Bool
 |none=>some true
 |some (j,want)=>match(ops[j]?).bind (·.dst)with
  |some d=>match σ.slots.getD d .junk with
   | .d (.lit (.bool b))=>some (b==want)
   | .d (.lit (.tuple a))=>match a.toList with
     | []=>some false
     |_=>none
   |_=>none
  |none=>none
theorem jX {ops:Array Oper} {σ:St} {g:Option (Nat×Bool)} (h:qo ops σ g=some true):zZ ops σ g:=by
 unfold qo at h;split at h
 ·exact .inl rfl
 rename_i j want;split at h
 ·rename_i d hd;split at h
  ·rename_i b hs;refine .inr ⟨j,want,d,b,rfl,hd,hs,?_⟩;simpa using h
  ·split at h<;>cases h
  cases h
 cases h
theorem aod {ops:Array Oper} {σ:St} {g:Option (Nat×Bool)} (h:qo ops σ g=some false):Ii ops σ g:=by
 unfold qo at h;split at h
 ·cases h
 rename_i j want;split at h
 ·rename_i d hd;split at h
  ·rename_i b hs;refine amc j want d b rfl hd hs ?_;have :(b==want)=false:=Option.some.inj h;cases b<;>cases want<;>first|rfl|cases this
  ·rename_i a hs;split at h
   ·rename_i ha;have ha:a= #[]:=by rw[←Array.toArray_toList (xs:=a),ha]
    subst ha;exact ahI j want d rfl hd hs
   cases h
  cases h
 cases h
def DL {P:Program} (K:Kn P) (ops:Array Oper) (σ:St) (o:Oper):Option SV:=
 match qo ops σ o.guard with
 |some true=>match aiY K σ o with
  |some r=>if(mZ r.ns).all (tmpsOf o).contains=true then some r else none
  |none=>none
 |some false=>some ⟨[],.d (.lit undef),σ.ents,false⟩
 |none=>none
theorem uV {P:Program} (K:Kn P) {ops:Array Oper} {σ:St} {o:Oper} {r:SV} (h:DL K ops σ o=some r):tK P ops σ r.x r.E r.bar o:=by
 unfold DL at h;split at h
 ·rename_i hg;split at h
  ·rename_i r' hr;split at h
   ·rename_i ht;cases h;obtain⟨h1,h2,h3⟩:=aoc K hr;exact⟨.inl ⟨_,h1,h2,ht,jX hg⟩,h3⟩
   cases h
  cases h
 ·rename_i hg;cases h;exact⟨.inr ⟨rfl,rfl,aod hg⟩,fun _=>rfl⟩
 cases h
def kV {P:Program} (K:Kn P) (ops:Array Oper):Nat→List Oper→St→Option (St×List SV)
 |0,_,σ=>some (σ,[])
 |n+1,l,σ=>match l with
  |o::l=>match DL K ops σ o with
   |some r=>match kV K ops n l (σ.put o.dst r.x r.E)with
    |some (σ',rs)=>some (σ',r::rs)
    |none=>none
   |none=>none
  | []=>none
def UC :Option (St×List SV)→St
 |some (σ,_)=>σ
 |none=>⟨[],[],0⟩
def ab3 :Option (St×List SV)→List SV
 |some (_,rs)=>rs
 |none=>[]
theorem Chain.auto {P:Program} (K:Kn P) {ops:Array Oper}:∀(n:Nat) {l:List Oper} {σ σ':St},(kV K ops n l σ).isSome=true→Chain P ops (l.drop n) (UC (kV K ops n l σ)) σ'→Chain P ops l σ σ'
 |0,l,σ,σ',_,k=>by simpa[kV,UC]using k
 |n+1,l,σ,σ',h,k=>by
  unfold kV at h k;split at h
  ·rename_i o l';split at h
   ·rename_i r hr;split at h
    ·rename_i σ2 rs h2;simp only[hr,h2]at k;refine .WM o.dst (uV K hr) rfl (Chain.auto K n (by rw[h2];rfl) ?_);rw[h2];exact k
    cases h
   cases h
  cases h
theorem iK.auto {P:Program} (K:Kn P) {ops:Array Oper}:∀(n:Nat) {l:List Oper} {σ σ':St} {rs:List AV} {ess:List (List bn)} {bs:List Bool},(kV K ops n l σ).isSome=true→iK P ops (l.drop n) (UC (kV K ops n l σ)) rs ess bs σ'→
 iK P ops l σ ((ab3 (kV K ops n l σ)).map SV.x++rs) ((ab3 (kV K ops n l σ)).map SV.E++ess) ((ab3 (kV K ops n l σ)).map SV.bar++bs) σ'
 |0,l,σ,σ',rs,ess,bs,_,k=>by simpa[kV,UC,ab3]using k
 |n+1,l,σ,σ',rs,ess,bs,h,k=>by
  unfold kV at h k ⊢;split at h
  ·rename_i o l';split at h
   ·rename_i r hr;split at h
    ·rename_i σ2 rs2 h2;simp only[hr,h2]at k ⊢;refine .WM o.dst (uV K hr) rfl ?_;have:=iK.auto K n (l:=l') (σ:=σ.put o.dst r.x r.E) (σ':=σ') (rs:=rs) (ess:=ess) (bs:=bs) (by rw[h2];rfl) (by rw[h2];exact k);rw[h2]at this;exact this
    cases h
   cases h
  cases h
theorem Chain.a {P:Program} [T:Kn P] {ops:Array Oper} {l:List Oper} {σ σ':St} (n:Nat) (k:Chain P ops (l.drop n) (UC (kV T ops n l σ)) σ') (h:(kV T ops n l σ).isSome=true:=by kernel_rfl):Chain P ops l σ σ':=Chain.auto T n h k
theorem iK.a {P:Program} [T:Kn P] {ops:Array Oper} {l:List Oper} {σ σ':St} {rs:List AV} {ess:List (List bn)} {bs:List Bool} (n:Nat) (k:iK P ops (l.drop n) (UC (kV T ops n l σ)) rs ess bs σ') (h:(kV T ops n l σ).isSome=true:=by kernel_rfl):
 iK P ops l σ ((ab3 (kV T ops n l σ)).map SV.x++rs) ((ab3 (kV T ops n l σ)).map SV.E++ess) ((ab3 (kV T ops n l σ)).map SV.bar++bs) σ':=iK.auto T n h k
theorem Chain.c {P:Program} [T:Kn P] {ops:Array Oper} {o:Oper} {rest:List Oper} {σ σ':St} {e c:Bool} (h:some e=some c) (k:Chain P ops rest (σ.qU o.dst (.d (.lit (.bool c)))) σ') (hs:(DL T ops σ o).map (fun r=>(r.x,r.E,r.bar))=some (.d (.lit (.bool e)),σ.ents,false):=by kernel_rfl):Chain P ops (o::rest) σ σ':=by
 rw[Option.map_eq_some_iff]at hs;obtain⟨r,hr,he⟩:=hs;have h1:=uV T hr;simp only[Prod.mk.injEq]at he;rw[he.1,he.2.1,he.2.2,Option.some.inj h]at h1;exact .WM o.dst h1 rfl k
theorem iK.c {P:Program} [T:Kn P] {ops:Array Oper} {o:Oper} {rest:List Oper} {σ σ':St} {rs:List AV} {ess:List (List bn)} {bs:List Bool} {e c:Bool} (h:some e=some c) (k:iK P ops rest (σ.qU o.dst (.d (.lit (.bool c)))) rs ess bs σ') (hs:(DL T ops σ o).map (fun r=>(r.x,r.E,r.bar))=some (.d (.lit (.bool e)),σ.ents,false):=by kernel_rfl):
 iK P ops (o::rest) σ (.d (.lit (.bool c))::rs) (σ.ents::ess) (false::bs) σ':=by
 rw[Option.map_eq_some_iff]at hs;obtain⟨r,hr,he⟩:=hs;have h1:=uV T hr;simp only[Prod.mk.injEq]at he;rw[he.1,he.2.1,he.2.2,Option.some.inj h]at h1;exact .WM o.dst h1 rfl k
def aoe (σ:St) (ns:List (Operand×AV)):Prop:=(ns.map fun n=>σ.get n.1)=ns.map (·.2)
theorem yg {σ:St}:∀{ns:List (Operand×AV)},aoe σ ns→needs σ ns
 | [],_=>trivial
 |n::ns,h=>by
  simp only[aoe,List.map_cons,List.cons.injEq]at h;exact⟨h.1,yg h.2⟩
theorem Chain.p {P:Program} {ops:Array Oper} {o:Oper} {rest:List Oper} {σ σ':St} {ns:List (Operand×AV)} {x:AV} (h:bK P o ns σ.ents x σ.ents) (k:Chain P ops rest (σ.qU o.dst x) σ') (hn:(ns.map fun n=>σ.get n.1)=ns.map (·.2):=by kernel_rfl) (hg:qo ops σ o.guard=some true:=by kernel_rfl):Chain P ops (o::rest) σ σ':=
 .op o.dst h (yg hn) (jX hg) rfl k
theorem iK.p {P:Program} {ops:Array Oper} {o:Oper} {rest:List Oper} {σ σ':St} {ns:List (Operand×AV)} {x:AV} {rs:List AV} {ess:List (List bn)} {bs:List Bool} (h:bK P o ns σ.ents x σ.ents) (k:iK P ops rest (σ.qU o.dst x) rs ess bs σ') (hn:(ns.map fun n=>σ.get n.1)=ns.map (·.2):=by kernel_rfl) (hg:qo ops σ o.guard=some true:=by kernel_rfl)
 (ht:(mZ ns).all (tmpsOf o).contains=true:=by kernel_rfl):iK P ops (o::rest) σ (x::rs) (σ.ents::ess) (false::bs) σ':=
 .op o.dst h (yg hn) (jX hg) rfl ht k
theorem Chain.e {P:Program} {ops:Array Oper} {o:Oper} {rest:List Oper} {σ σ':St} {ns:List (Operand×AV)} {x:AV} {es':List bn} (E:List bn) (h:bK P o ns σ.ents x es') (k:Chain P ops rest (σ.put o.dst x E) σ') (he:es'=E:=by kernel_rfl) (hn:(ns.map fun n=>σ.get n.1)=ns.map (·.2):=by kernel_rfl) (hg:qo ops σ o.guard=some true:=by kernel_rfl):Chain P ops (o::rest) σ σ':=
 .oe o.dst E h he (yg hn) (jX hg) rfl k
theorem iK.e {P:Program} {ops:Array Oper} {o:Oper} {rest:List Oper} {σ σ':St} {ns:List (Operand×AV)} {x:AV} {es':List bn} {rs:List AV} {ess:List (List bn)} {bs:List Bool} (E:List bn) (h:bK P o ns σ.ents x es') (k:iK P ops rest (σ.put o.dst x E) rs ess bs σ') (he:es'=E:=by kernel_rfl) (hn:(ns.map fun n=>σ.get n.1)=ns.map (·.2):=by kernel_rfl) (hg:qo ops σ o.guard=some true:=by kernel_rfl)
 (ht:(mZ ns).all (tmpsOf o).contains=true:=by kernel_rfl):iK P ops (o::rest) σ (x::rs) (E::ess) (true::bs) σ':=
 .oe o.dst E h he (yg hn) (jX hg) rfl ht k
def SX (σ:St) (o:Oper):Option (FuncId×List AV):=
 match o.op with
 | .call c=>match c.callee with
   | .value (.func f)=>some (f,c.args.toList.map σ.get)
   |_=>none
 |_=>none
theorem abo {srcs:List Sr}:∀{l:List AV},l.all AV.xk=true→yR srcs l l
 | [],_=>trivial
 |x::l,h=>by
  simp only[List.all_cons,Bool.and_eq_true]at h;refine⟨?_,abo h.2⟩;cases x with
  |d x=>exact .inl rfl
  |_=>cases h.1
theorem abp (σ:St):∀(l:List Operand),needs σ (fV l (l.map σ.get))
 | []=>trivial
 |_::l=>⟨rfl,abp σ l⟩
theorem Xa {P:Program} {σ:St} {o:Oper} {f:FuncId} {dI:List AV} {res:AV} (hr:Runs P f dI [] res []) (hf:aF P f=true) (hc:SX σ o=some (f,dI)) (hd:dI.all AV.xk=true):∃ns,bK P o ns σ.ents (res.up [] σ.ents.length) σ.ents∧needs σ ns∧(mZ ns).all (tmpsOf o).contains=true:=by
 unfold SX at hc;split at hc
 ·rename_i c ho;split at hc
  ·rename_i f' YQ;cases hc;obtain⟨callee,args,ats⟩:=c;simp only at YQ;subst YQ;refine⟨_,abV hr hf (abo hd) (by simp) rfl ho,abp σ _,?_⟩;rw[List.all_eq_true];intro t ht;unfold mZ at ht;rw[List.mem_filterMap]at ht;obtain⟨n,hn,hnt⟩:=ht
   have hmem:n.1∈args.toList:=by
    have :∀(l:List Operand) (vs:List AV),n∈fV l vs→n.1∈l:=by
     intro l
     induction l with
     |nil=>intro vs h;cases vs<;>simp[fV]at h
     |cons x l ih=>
      intro vs h;cases vs with
      |nil=>simp[fV]at h
      |cons v vs=>
       simp only[fV,List.mem_cons]at h;rcases h with rfl|h
       ·exact List.mem_cons_self
       exact List.mem_cons_of_mem _ (ih vs h)
    exact this _ _ hn
   unfold tmpsOf;simp only[List.contains_iff_mem,List.mem_filterMap];refine⟨n.1,?_,hnt⟩;rw[ho];show n.1∈(#[Operand.func f]++args).toList;simp[hmem]
  cases hc
 cases hc
theorem Chain.call {P:Program} {ops:Array Oper} {o:Oper} {rest:List Oper} {σ σ':St} {f:FuncId} {dI:List AV} {res:AV} (hr:Runs P f dI [] res []) (hf:aF P f=true) (k:Chain P ops rest (σ.qU o.dst (res.up [] σ.ents.length)) σ') (hc:SX σ o=some (f,dI):=by kernel_rfl)
 (hd:dI.all AV.xk=true:=by kernel_rfl) (hg:qo ops σ o.guard=some true:=by kernel_rfl):Chain P ops (o::rest) σ σ':=by
 obtain⟨ns,h1,h2,_⟩:=Xa hr hf hc hd;exact .op o.dst h1 h2 (jX hg) rfl k
theorem iK.call {P:Program} {ops:Array Oper} {o:Oper} {rest:List Oper} {σ σ':St} {f:FuncId} {dI:List AV} {res:AV} {rs:List AV} {ess:List (List bn)} {bs:List Bool} (hr:Runs P f dI [] res []) (hf:aF P f=true) (k:iK P ops rest (σ.qU o.dst (res.up [] σ.ents.length)) rs ess bs σ') (hc:SX σ o=some (f,dI):=by kernel_rfl)
 (hd:dI.all AV.xk=true:=by kernel_rfl) (hg:qo ops σ o.guard=some true:=by kernel_rfl):iK P ops (o::rest) σ (res.up [] σ.ents.length::rs) (σ.ents::ess) (false::bs) σ':=by
 obtain⟨ns,h1,h2,h3⟩:=Xa hr hf hc hd;exact .op o.dst h1 h2 (jX hg) rfl h3 k
def Vx (v:Value):Exit:=.panic [{ v,recovered:=false }]
structure LP (P:Program) (ops:Array Oper) (l:List Oper) (σ:St) (K:Exit→St→Prop):Prop where
 run:∀(ro:Option Nat) (l2:List Oper) (Q:Exit→Act→World→Prop) (C:Cx) (ok:Nat→Prop) (H:List Hd) (a:Act) (w:World),Holds C ok H σ a w→
  ((∀σ' ok' H' a' w',K .normal σ'→Holds C ok' H' σ' a' w'→wpListIn (FW ro) 0 P ops Q l2 a' w')∧(∀v σ' ok' H' a' w',K (Vx v) σ'→Holds C ok' H' σ' a' w'→Q (Vx v) a' w'))→wpListIn (FW ro) 0 P ops Q (l++l2) a w
section
variable {P : Program} {ops : Array Oper} {o : Oper} {rest l : List Oper} {σ : St} {K : Exit → St → Prop}
theorem LP.nil (h:K .normal σ):LP P ops [] σ K:=⟨fun _ _ _ _ _ _ _ _ hh hk=>hk.1 _ _ _ _ _ h hh⟩
theorem LP.bC {M:St→Prop} (h:M σ):LP P ops [] σ (Cm M K):=.nil h
theorem LP.step {x:AV} {E:List bn} {bar:Bool} (hs:tK P ops σ x E bar o) (k:LP P ops rest (σ.put o.dst x E) K):LP P ops (o::rest) σ K:=by
 refine⟨fun ro l2 Q C ok H a w hh hk=>?_⟩;show wpListIn (FW ro) 0 P ops Q (o::(rest++l2)) a w;unfold wpListIn;rcases hs.1 with⟨ns,ho,hn,_,hg⟩|⟨rfl,rfl,hg⟩
 ·rw[if_pos (lZ hh hg)];refine Oper.wpIn_mono ?_ (ho.Vo ro C ok H a w Q hh.mem (fun n hn'=>nX hn n hn'▸hh.get n.1));rintro a' w' ⟨v,ok',H',rfl,hgr,hnn,hm,hx⟩;exact k.run ro l2 Q C _ _ _ _ (hh.put o.dst hgr hnn hm hx) hk
 rw[if_neg (by rw[zW hh hg];simp)];exact⟨fun _ _=>trivial,k.run ro l2 Q C _ _ _ _ (hh.put o.dst (.refl _ _) (.refl _) hh.mem (.d _ _ (.lit _))) hk⟩
theorem LP.conv (σ2:St) (h:∀C ok H a w,Holds C ok H σ a w→∃ok',Holds C ok' H σ2 a w) (k:LP P ops l σ2 K):LP P ops l σ K:=⟨fun ro l2 Q C ok H a w hh hk=>by
 obtain⟨ok',hh'⟩:=h C ok H a w hh
 exact k.run ro l2 Q C _ _ _ _ hh' hk⟩
theorem LP.auto (T:Kn P):∀(n:Nat) {l:List Oper} {σ:St},(kV T ops n l σ).isSome=true→LP P ops (l.drop n) (UC (kV T ops n l σ)) K→LP P ops l σ K
 |0,l,σ,_,k=>by simpa[kV,UC]using k
 |n+1,l,σ,h,k=>by
  unfold kV at h k;split at h
  ·rename_i o l';split at h
   ·rename_i r hr;split at h
    ·rename_i σ2 rs h2;simp only[hr,h2]at k;refine .step (uV T hr) (LP.auto T n (by rw[h2];rfl) ?_);rw[h2];exact k
    cases h
   cases h
  cases h
theorem LP.a [T:Kn P] (n:Nat) (k:LP P ops (l.drop n) (UC (kV T ops n l σ)) K) (h:(kV T ops n l σ).isSome=true:=by kernel_rfl):LP P ops l σ K:=LP.auto T n h k
theorem LP.p {ns:List (Operand×AV)} {x:AV} (h:bK P o ns σ.ents x σ.ents) (k:LP P ops rest (σ.qU o.dst x) K) (hn:(ns.map fun n=>σ.get n.1)=ns.map (·.2):=by kernel_rfl) (hg:qo ops σ o.guard=some true:=by kernel_rfl) (ht:(mZ ns).all (tmpsOf o).contains=true:=by kernel_rfl):LP P ops (o::rest) σ K:=
 .step (aiE h (yg hn) (jX hg) ht) k
theorem LP.e {ns:List (Operand×AV)} {x:AV} {es':List bn} (E:List bn) (h:bK P o ns σ.ents x es') (k:LP P ops rest (σ.put o.dst x E) K) (he:es'=E:=by kernel_rfl) (hn:(ns.map fun n=>σ.get n.1)=ns.map (·.2):=by kernel_rfl) (hg:qo ops σ o.guard=some true:=by kernel_rfl) (ht:(mZ ns).all (tmpsOf o).contains=true:=by kernel_rfl):LP P ops (o::rest) σ K:=
 .step (bar:=true) ⟨.inl ⟨ns,he▸h,yg hn,ht,jX hg⟩,fun h=>by cases h⟩ k
theorem LP.call {f:FuncId} {dI:List AV} {res:AV} (hr:Runs P f dI [] res []) (hf:aF P f=true) (k:LP P ops rest (σ.qU o.dst (res.up [] σ.ents.length)) K) (hc:SX σ o=some (f,dI):=by kernel_rfl)
 (hd:dI.all AV.xk=true:=by kernel_rfl) (hg:qo ops σ o.guard=some true:=by kernel_rfl):LP P ops (o::rest) σ K:=by
 obtain⟨ns,h1,h2,h3⟩:=Xa hr hf hc hd;exact .step (aiE h1 h2 (jX hg) h3) k
theorem LP.c [T:Kn P] {e c:Bool} (h:some e=some c) (k:LP P ops rest (σ.qU o.dst (.d (.lit (.bool c)))) K) (hs:(DL T ops σ o).map (fun r=>(r.x,r.E,r.bar))=some (.d (.lit (.bool e)),σ.ents,false):=by kernel_rfl):LP P ops (o::rest) σ K:=by
 rw[Option.map_eq_some_iff]at hs;obtain⟨r,hr,he⟩:=hs;have h1:=uV T hr;simp only[Prod.mk.injEq]at he;rw[he.1,he.2.1,he.2.2,Option.some.inj h]at h1;exact .step h1 k
def St.wipe (ds:List Nat) (σ:St):St:=⟨ds.foldl (fun l d=>l.set d .junk) σ.slots,σ.ents,σ.base⟩
theorem Holds.wipe {C:Cx} {ok:Nat→Prop} {H:List Hd} {a:Act} {w:World}:∀(ds:List Nat) {σ:St},Holds C ok H σ a w→Holds C ok H (σ.wipe ds) a w
 | [],σ,h=>h
 |d::ds,σ,h=>by
  refine Holds.wipe ds (σ:=⟨σ.slots.set d .junk,σ.ents,σ.base⟩) ⟨h.mem,by simpa using h.size,h.defers,h.base,fun t ht=>?_⟩;simp only[List.length_set]at ht;by_cases e:d=t
  ·subst e;have e1:(σ.slots.set d .junk).getD d .junk=.junk:=by simp[List.getD,ht]
   rw[e1];exact .junk _
  have e1:(σ.slots.set d .junk).getD t .junk=σ.slots.getD t .junk:=by simp[List.getD,List.getElem?_set_ne e]
  rw[e1];exact h.slot t ht
theorem ab4 (n:Nat) (l l2:List Oper):l++l2=l.take n++(l.drop n++l2):=by
 rw[←List.append_assoc,List.take_append_drop]
theorem LP.join (n:Nat) (M:St→Prop) (h2:∀s,M s→LP P ops (l.drop n) s K) (h1:LP P ops (l.take n) σ (Cm M K)):LP P ops l σ K:=⟨fun ro l2 Q C ok H a w hh hk=>by
 rw[ab4 n l l2]
 exact h1.run ro _ Q C ok H a w hh ⟨fun σ' ok' H' a' w' hM hh'=>(h2 σ' hM).run ro l2 Q C ok' H' a' w' hh' hk,hk.2⟩⟩
theorem LP.merge (n:Nat) (ds:List Nat) (d:Nat) (x:AV) (h1:LP P ops (l.take n) σ (Cm (fun s=>s.wipe ds=(σ.wipe ds).qU (some d) x) K)) (h2:LP P ops (l.drop n) ((σ.wipe ds).qU (some d) x) K):LP P ops l σ K:=
 .join n _ (fun s hs=>⟨fun ro l2 Q C ok H a w hh hk=>by
  have e:s.wipe ds=(σ.wipe ds).qU (some d) x:=hs;have hw:=hh.wipe ds;rw[e]at hw
  exact h2.run ro l2 Q C ok H a w hw hk⟩) h1
theorem SP.bD {id:Nat} {Q:Exit→St→Prop} (h:LP P ops ops.toList σ Q):SP P (.region id ops false) σ Q:=⟨fun ro _ C ok H a w hh=>by
 refine wpIn_region_list ?_;have:=h.run ro [] (fun e a' w'=>∃ok' H' σ',Holds C ok' H' σ' a' w'∧Q e σ') C ok H a w hh ⟨fun σ' ok' H' a' w' hq hh'=>⟨ok',H',σ',hh',hq⟩,fun v σ' ok' H' a' w' hq hh'=>⟨ok',H',σ',hh',hq⟩⟩
 rwa [List.append_nil]at this⟩
theorem SP.rg {id:Nat} {y:Code} {Q:Exit→St→Prop} (h:LP P ops ops.toList σ (Cm (fun s=>SP P y s Q) Q)):SP P (.seq (.region id ops false) y) σ Q:=
 SP.seq (fun s=>SP P y s Q) (SP.bD h) (fun _ h=>h)
end
def bZ (n:Nat) (l:List (Nat×AV)):List AV:=(List.range n).map fun i=>(look i l).getD .junk
def mk (n w:Nat):List Bool:=(List.range n).map fun i=>Nat.testBit w i
theorem aA {σ S:St} (m:List Bool) (π:List (Nat×Bool)) (h1:IE σ.base σ.ents π=true:=by kernel_rfl) (h2:S=⟨kK π m σ.slots,vI σ.ents π,σ.base⟩:=by kernel_rfl):Sub σ S:=amb.sub ⟨m,π,h1,h2⟩
end Go.Proofs.YtolgdkhlelfpoaaGreat
end
section
namespace Go.Proofs.YtolgdkhlelfpoaaGreat
open Go.RowKit
inductive IQ (P:Program) where
 |call (i:Nat) (f:FuncId) (dI:List AV) (res:AV) (run:Runs P f dI [] res []) (ent:aF P f=true) (dat:dI.all AV.xk=true)
 |dat (i:Nat) (op:Op) (ns:List (Operand×AV)) (x:AV) (h:∀(o:Oper) (es:List bn),o.op=op→bK P o ns es x es)
 |at_ (i:Nat) (op:Op) (ns:List (Operand×AV)) (k:Nat) (e:bn) (x:AV) (h:∀(o:Oper) (es:List bn),es[k]? =some e→o.op=op→bK P o ns es x es)
 |fix (i:Nat) (op:Op) (ns:List (Operand×AV)) (es:List bn) (x:AV) (E:List bn) (h:∀(o:Oper),o.op=op→bK P o ns es x E)
def IQ.ix {P:Program}:IQ P→Nat
 | .call i ..=>i
 | .dat i ..=>i
 | .at_ i ..=>i
 | .fix i ..=>i
inductive Want where
 |call (c:Option (FuncId×List AV))
 |dat (op:Op) (vs:List AV)
 |at_ (op:Op) (vs:List AV) (e:Option bn)
 |fix (op:Op) (vs:List AV) (es:List bn)
def amu {P:Program} (i:Nat):List (IQ P)→Option (IQ P)
 | []=>none
 |c::l=>match Nat.beq i c.ix with |true=>some c|false=>amu i l
section
variable {P : Program}
def Vy (σ:St) (o:Oper):IQ P→St×Option Want
 | .call _ _ _ res _ _ _=>(σ.qU o.dst (res.up [] σ.ents.length),some (.call (SX σ o)))
 | .dat _ _ ns x _=>(σ.qU o.dst x,some (.dat o.op (ns.map fun n=>σ.get n.1)))
 | .at_ _ _ ns k _ x _=>(σ.qU o.dst x,some (.at_ o.op (ns.map fun n=>σ.get n.1) σ.ents[k]?))
 | .fix _ _ ns _ x E _=>(σ.put o.dst x E,some (.fix o.op (ns.map fun n=>σ.get n.1) σ.ents))
def Vz :IQ P→Want
 | .call _ f dI _ _ _ _=>.call (some (f,dI))
 | .dat _ op ns _ _=>.dat op (ns.map (·.2))
 | .at_ _ op ns _ e _ _=>.at_ op (ns.map (·.2)) (some e)
 | .fix _ op ns es _ _ _=>.fix op (ns.map (·.2)) es
def Pg (T:Kn P) (L:List (IQ P)) (ops:Array Oper) (σ:St) (i:Nat):Option (St×Option Want):=
 match ops[i]? with
 |none=>none
 |some o=>match amu i L with
  |some c=>match qo ops σ o.guard with
   |some true=>some (Vy σ o c)
   |_=>none
  |none=>match DL T ops σ o with
   |some r=>some (σ.put o.dst r.x r.E,none)
   |none=>none
def CB (T:Kn P) (L:List (IQ P)) (ops:Array Oper) (σ:St):List Nat→St
 | []=>σ
 |i::l=>match Pg T L ops (CB T L ops σ l) i with
  |some (σ',_)=>σ'
  |none=>σ
def Qo (ops:Array Oper) (m:List Nat) (i:Nat):Bool:=match ops[i]? with
 |some o=>o.after.toList.all fun e=>!Region.binds .any e||(m.contains e.on&&decide (e.on<ops.size))
 |none=>false
def aiZ (ops:Array Oper) (N:List (List Nat)) (F:List Nat) (k:Nat) (m:List Nat) (T:List (Nat×Nat×Nat)):Bool:=
 ((List.range ops.size).all fun i=>m.contains i|| !Qo ops m i||
   T.any fun t=>t.2.1==i&&decide (t.2.2<N.length)&&(fun q=>(List.range ops.size).all fun j=>q.contains j==(m.contains j||j==i)) (N.getD t.2.2 []))&&
 (F.contains k||(List.range ops.size).any fun i=>!m.contains i&&Qo ops m i)
def aao (ops:Array Oper) (N:List (List Nat)) (F:List Nat):Nat→List (List Nat)→List (Nat×Nat×Nat)→Bool
 |_,[],_=>true
 |k,m::M,Tr=>aiZ ops N F k m (Tr.takeWhile fun t=>t.1==k)&&aao ops N F (k+1) M (Tr.dropWhile fun t=>t.1==k)
def VA (ops:Array Oper) (N:List (List Nat)) (Tr:List (Nat×Nat×Nat)) (F:List Nat):Bool:=aao ops N F 0 N Tr
theorem XR {α:Type} {p:α→Bool}:∀{l:List α} {x:α},x∈l.takeWhile p→p x=true
 | [],_,h=>by simp at h
 |y::l,x,h=>by
  rw[List.takeWhile_cons]at h;cases hy:p y with
  |true=>
   rw[hy]at h;rcases List.mem_cons.1 h with rfl|h
   ·exact hy
   exact XR h
  |false=>rw[hy]at h;simp at h
theorem adG {ops:Array Oper} {N:List (List Nat)} {F:List Nat}:∀(M:List (List Nat)) (k:Nat) (Tr:List (Nat×Nat×Nat)),aao ops N F k M Tr=true→∀j,j<M.length→
 ∃T,aiZ ops N F (k+j) (M.getD j []) T=true∧∀t∈T,t∈Tr∧t.1=k+j
 | [],_,_,_,j,hj=>by simp at hj
 |m::M,k,Tr,h,j,hj=>by
  unfold aao at h;rw[Bool.and_eq_true]at h;cases j with
  |zero=>exact⟨_,h.1,fun t ht=>⟨(List.takeWhile_sublist _).subset ht,by have:=XR ht;simpa using this⟩⟩
  |succ j=>
   obtain⟨T,h1,h2⟩:=adG M (k+1) _ h.2 j (by simpa using hj);refine⟨T,?_,fun t ht=>⟨(List.dropWhile_sublist _).subset (h2 t ht).1,?_⟩⟩
   ·rw[show k+(j+1)=k+1+j by omega];simpa using h1
   rw[(h2 t ht).2];omega
def SY (L:List (IQ P)) (i:Nat):Option Want:=(amu i L).map Vz
theorem ap0 (T:Kn P) {L:List (IQ P)} {ops:Array Oper} {σ σ':St} {i:Nat} {o:Oper} (ho:ops[i]? =some o) (h:Pg T L ops σ i=some (σ',SY L i)):
 ∃x E,((∃ns,bK P o ns σ.ents x E∧needs σ ns∧zZ ops σ o.guard)∨(x=.d (.lit undef)∧E=σ.ents∧Ii ops σ o.guard))∧σ'=σ.put o.dst x E:=by
 unfold Pg SY at h;rw[ho]at h;simp only at h;split at h
 ·rename_i c hc;split at h
  ·rename_i hg;simp only[hc,Option.map_some,Option.some.injEq]at h;cases c with
   |call i f dI res run ent dat=>
    simp only[Vy,Vz,Prod.mk.injEq,Option.some.injEq,Want.call.injEq]at h;obtain⟨ns,h1,h2,h3⟩:=Xa run ent h.2 dat;exact⟨_,_,.inl ⟨ns,h1,h2,jX hg⟩,h.1.symm⟩
   |dat i op ns x hx=>
    simp only[Vy,Vz,Prod.mk.injEq,Option.some.injEq,Want.dat.injEq]at h;exact⟨_,_,.inl ⟨ns,hx o _ h.2.1,yg h.2.2,jX hg⟩,h.1.symm⟩
   |at_ i op ns k e x hx=>
    simp only[Vy,Vz,Prod.mk.injEq,Option.some.injEq,Want.at_.injEq]at h;exact⟨_,_,.inl ⟨ns,hx o _ h.2.2.2 h.2.1,yg h.2.2.1,jX hg⟩,h.1.symm⟩
   |fix i op ns es x E hx=>
    simp only[Vy,Vz,Prod.mk.injEq,Option.some.injEq,Want.fix.injEq]at h;exact⟨_,_,.inl ⟨ns,h.2.2.2▸hx o h.2.1,yg h.2.2.1,jX hg⟩,h.1.symm⟩
  cases h
 split at h
 ·rename_i r hr;simp only[Option.some.injEq,Prod.mk.injEq]at h;obtain⟨h1,h2⟩:=uV T hr;refine⟨_,_,?_,h.1.symm⟩;rcases h1 with⟨ns,a,b,_,c⟩|⟨a,b,c⟩
  ·exact .inl ⟨ns,a,b,c⟩
  exact .inr ⟨a,b,c⟩
 cases h
def Fin (s t:St):Prop:=∀C ok H a w,Holds C ok H s a w→∃ok' H',Holds C ok' H' t a w
theorem ap1 (s:St):Fin s s:=fun _ ok H _ _ h=>⟨ok,H,h⟩
theorem Il {s t:St} (h:Sub s t):Fin s t:=h
theorem SP.nodes (T:Kn P) {id:Nat} {ops:Array Oper} {σ:St} {Q:Exit→St→Prop} (L:List (IQ P)) (N:List (List Nat)) (Tr:List (Nat×Nat×Nat)) (F:List Nat) (fin:St) (hm:P.follows .mixedOrders=true) (hN:VA ops N Tr F=true) (h0:N.getD 0 [0]=[])
 (hT:(Tr.map fun t=>Pg T L ops (CB T L ops σ (N.getD t.1 [])) t.2.1)=Tr.map fun t=>some (CB T L ops σ (N.getD t.2.2 []),SY L t.2.1))
 (hF:KP (fun k=>Fin (CB T L ops σ (N.getD k [])) fin) F) (hQ:Q .normal fin):SP P (.region id ops true) σ Q:=by
 refine⟨fun ro _ C ok H a w hh=>?_⟩;refine wpIn_region_any hm ?_
 let S:Nat→St:=fun k=>CB T L ops σ (N.getD k [])
 let I:Array Bool→Act→World→Prop:=fun l a w=>l.size=ops.size∧∃k ok H,k<N.length∧(∀i,i<ops.size→l.getD i false=(N.getD k []).contains i)∧Holds C ok H (S k) a w
 have hNN:∀k,k<N.length→(((List.range ops.size).all fun i=>(N.getD k []).contains i|| !Qo ops (N.getD k []) i||
  Tr.any fun t=>t.1==k&&t.2.1==i&&decide (t.2.2<N.length)&&(List.range ops.size).all fun j=>(N.getD t.2.2 []).contains j==((N.getD k []).contains j||j==i))&&
  (F.contains k||(List.range ops.size).any fun i=>!(N.getD k []).contains i&&Qo ops (N.getD k []) i))=true:=fun k hk=>by
  obtain⟨T,h1,h2⟩:=adG N 0 Tr hN k hk;unfold aiZ at h1;rw[Nat.zero_add,Bool.and_eq_true,List.all_eq_true]at h1;rw[Bool.and_eq_true,List.all_eq_true];refine⟨fun i hi=>?_,h1.2⟩;have h3:=h1.1 i hi;rw[Bool.or_eq_true]at h3 ⊢;rcases h3 with h3|h3
  ·exact .inl h3
  obtain⟨t,ht,h4⟩:=List.any_eq_true.1 h3;obtain⟨h5,h6⟩:=h2 t ht;rw[Nat.zero_add]at h6;refine .inr (List.any_eq_true.2 ⟨t,h5,?_⟩);rw[show(t.1==k)=true by simpa using h6,Bool.true_and];exact h4
 refine ED I (fun l a w h=>h.1) ?_ ?_ ops.size _ _ _ ?_ ?_
 ·rintro l a w ⟨h1,k,ok,H,hk,hl,hh⟩ i hi;unfold Region.ready at hi;rw[List.mem_filter]at hi;obtain⟨hi1,hi2⟩:=hi;have hi':i<ops.size:=by simpa using hi1
  have ho:ops[i]? =some ops[i]:=by simp[hi']
  simp only[Bool.and_eq_true]at hi2;have Ac:=hi2.2;rw[ho]at Ac;simp only[Option.map_some,Option.getD_some]at Ac;have Qc:=fun e he=>(Array.all_eq_true_iff_forall_mem.1 Ac) e he
  have hself:l.getD i false=false:=by
   have h8:=hi2.1;have hil:i<l.size:=by omega
   simp[Array.getD,hil]at h8 ⊢;exact h8
  have hnc:(N.getD k []).contains i=false:=by rw[←hl i hi'];exact hself
  have hrd:Qo ops (N.getD k []) i=true:=by
   unfold Qo;rw[ho];simp only[List.all_eq_true];intro e he;have h9:=Qc e (by simpa using he);cases hb:Region.binds .any e with
   |false=>simp
   |true=>
    simp only[hb,Bool.not_true,Bool.false_or]at h9 ⊢;by_cases hon:e.on<ops.size
    ·rw[←hl e.on hon,h9];simp[hon]
    have :l.getD e.on false=false:=by simp[Array.getD,show ¬e.on<l.size by omega]
    rw[this]at h9;cases h9
  have h2:=hNN k hk;simp only[Bool.and_eq_true,List.all_eq_true]at h2;have h3:=h2.1 i (by simpa using hi');rw[hnc,hrd]at h3;simp only[Bool.not_true,Bool.or_self,Bool.false_or,List.any_eq_true]at h3;obtain⟨⟨k',i',t⟩,htm,h4⟩:=h3;simp only[Bool.and_eq_true,beq_iff_eq,decide_eq_true_eq,List.all_eq_true]at h4;obtain⟨⟨⟨rfl,rfl⟩,ht⟩,h5⟩:=h4;have h6:Pg T L ops (S k') i'=some (S t,SY L i'):=List.map_inj_left.1 hT (k',i',t) htm;obtain⟨x,E,hs,he⟩:=ap0 T ho h6
  have hnew:∀(a':Act) (w':World) (ok':Nat→Prop) (H':List Hd),Holds C ok' H' ((S k').put ops[i'].dst x E) a' w'→I (l.setIfInBounds i' true) a' w':=by
   intro a' w' ok' H' hp;refine⟨by simp[h1],t,ok',H',ht,fun j hj=>?_,he▸hp⟩;have h7:=h5 j (by simpa using hj);rw[h7,←hl j hj];by_cases hij:i'=j
   ·subst hij;simp[Array.getD,h1,hj]
   have :(j==i')=false:=by simp;omega
   rw[this,Bool.or_false];simp only[Array.getD_eq_getD_getElem?,Array.getElem?_setIfInBounds_ne hij]
  unfold wpOpIn;rw[ho];show if Region.wanted ops[i'] (yielded ops a.tmps)=true then _ else _
  rcases hs with⟨ns,hop,WO,hg⟩|⟨rfl,rfl,hg⟩
  ·rw[if_pos (lZ hh hg)];refine Oper.wpIn_mono ?_ (hop.Vo ro C ok H a w _ hh.mem (fun n hn'=>nX WO n hn'▸hh.get n.1));rintro a' w' ⟨v,ok',H',rfl,hgr,hnn,hm',hx⟩;exact hnew _ _ _ _ (hh.put ops[i'].dst hgr hnn hm' hx)
  rw[if_neg (by rw[zW hh hg];simp)];exact⟨fun _ _=>trivial,hnew _ _ _ _ (hh.put ops[i'].dst (.refl _ _) (.refl _) hh.mem (.d _ _ (.lit _)))⟩
 ·rintro l a w ⟨h1,k,ok,H,hk,hl,hh⟩ hr;have h2:=hNN k hk;simp only[Bool.and_eq_true,Bool.or_eq_true]at h2
  have hFk:k∈F:=by
   rcases h2.2 with h|h
   ·simpa using h
   rw[List.any_eq_true]at h;obtain⟨i,hi,h3⟩:=h;simp only[List.mem_range]at hi;simp only[Bool.and_eq_true,Bool.not_eq_true']at h3;obtain⟨h4,h5⟩:=h3;have ho:ops[i]? =some ops[i]:=by simp[hi]
   have hmem:i∈Region.ready .any ops l:=by
    unfold Region.ready;rw[List.mem_filter];refine⟨by simpa using hi,?_⟩;have hf:l.getD i false=false:=by rw[hl i hi];exact h4
    have hil:i<l.size:=by omega
    have hf':l.getD i true=false:=by simp[Array.getD,hil]at hf ⊢;exact hf
    rw[hf',ho];simp only[Bool.not_false,Bool.true_and,Option.map_some,Option.getD_some];rw[Array.all_eq_true_iff_forall_mem];intro e he;unfold Qo at h5;rw[ho]at h5;simp only[List.all_eq_true]at h5;have h6:=h5 e (by simpa using he);cases hb:Region.binds .any e with
    |false=>simp
    |true=>
     simp only[hb,Bool.not_true,Bool.false_or]at h6 ⊢;rw[Bool.and_eq_true,decide_eq_true_eq]at h6;rw[hl e.on h6.2];exact h6.1
   rw[hr]at hmem;simp at hmem
  obtain⟨ok',H',h3⟩:=hF.mem k hFk C ok H a w hh;exact⟨ok',H',fin,h3,hQ⟩
 ·unfold toCome;simp
 refine⟨by simp,0,ok,H,?_,fun i hi=>?_,?_⟩
 ·cases N with
  |nil=>cases h0
  |cons x l=>simp
 ·have e:N.getD 0 []=[]:=by
   cases N with
   |nil=>rfl
   |cons x l=>simpa using h0
  rw[e];simp[Array.getD]
 have e:S 0=σ:=by
  show CB T L ops σ (N.getD 0 [])=σ;cases N with
  |nil=>rfl
  |cons x l=>have :x=[]:=by simpa using h0
             subst this;rfl
 rw[e];refine⟨⟨⟨hh.mem.fr.os,hh.mem.fr.tape,hh.mem.fr.output,hh.mem.fr.size,hh.mem.fr.block⟩,hh.mem.rP,hh.mem.rQ,hh.mem.jH,hh.mem.names,hh.mem.hlen,fun k e h h1 h2=>(hh.mem.ent k e h h1 h2).drew,hh.mem.blk,hh.mem.yQ⟩,hh.size,hh.defers.mono (fun b hb=>⟨hb,rfl⟩),hh.base,fun t ht=>R.mono (w:=w) (ok:=ok) (w':={ w with drawn:=w.drawn+1 }) (fun b hb=>⟨hb,rfl⟩) (.refl _) (hh.slot t ht)⟩
def orc {f:FuncId} {dI:List AV} {res:AV} (i:Nat) (run:Runs P f dI [] res []) (ent:aF P f=true) (dat:dI.all AV.xk=true:=by kernel_rfl):IQ P:=.call i f dI res run ent dat
def axx {ns:List (Operand×AV)} {x:AV} (i:Nat) (op:Op) (h:∀(o:Oper) (es:List bn),o.op=op→bK P o ns es x es):IQ P:=.dat i op ns x h
def amv {ns:List (Operand×AV)} {x:AV} (i:Nat) (op:Op) (k:Nat) (e:bn) (h:∀(o:Oper) (es:List bn),es[k]? =some e→o.op=op→bK P o ns es x es):IQ P:=.at_ i op ns k e x h
def aug {ns:List (Operand×AV)} {x:AV} (i:Nat) (op:Op) (es E:List bn) (h:∀(o:Oper),o.op=op→bK P o ns es x E):IQ P:=.fix i op ns es x E h
section
variable [T : Kn P] {id : Nat} {ops : Array Oper} {σ : St} {Q : Exit → St → Prop} {y : Code}
theorem SP.awx (L:List (IQ P)) (N:List (List Nat)) (Tr:List (Nat×Nat×Nat)) (kf:Nat) (hQ:SP P y (CB T L ops σ (N.getD kf [])) Q) (hm:P.follows .mixedOrders=true:=by kernel_rfl) (hN:VA ops N Tr [kf]=true:=by kernel_rfl) (h0:N.getD 0 [0]=[]:=by kernel_rfl)
 (hT:(Tr.map fun t=>Pg T L ops (CB T L ops σ (N.getD t.1 [])) t.2.1)=Tr.map fun t=>some (CB T L ops σ (N.getD t.2.2 []),SY L t.2.1):=by kernel_rfl):SP P (.seq (.region id ops true) y) σ Q:=
 SP.seq1 _ (SP.nodes T L N Tr [kf] _ hm hN h0 hT ⟨ap1 _,trivial⟩ rfl) hQ
theorem SP.awy (L:List (IQ P)) (N:List (List Nat)) (Tr:List (Nat×Nat×Nat)) (F:List Nat) (fin:St) (hF:KP (fun k=>Fin (CB T L ops σ (N.getD k [])) fin) F) (hQ:SP P y fin Q) (hm:P.follows .mixedOrders=true:=by kernel_rfl) (hN:VA ops N Tr F=true:=by kernel_rfl) (h0:N.getD 0 [0]=[]:=by kernel_rfl)
 (hT:(Tr.map fun t=>Pg T L ops (CB T L ops σ (N.getD t.1 [])) t.2.1)=Tr.map fun t=>some (CB T L ops σ (N.getD t.2.2 []),SY L t.2.1):=by kernel_rfl):SP P (.seq (.region id ops true) y) σ Q:=
 SP.seq1 fin (SP.nodes T L N Tr F fin hm hN h0 hT hF rfl) hQ
end
end
end Go.Proofs.YtolgdkhlelfpoaaGreat
end
section
namespace Go.Proofs.YtolgdkhlelfpoaaGreat
open Go.RowKit
section
variable {P : Program} {ops : Array Oper} {es : List bn}
def EG (ops:Array Oper) (bs:List Bool) (sl:List Nat):Bool:=(List.range ops.size).all fun i=>!(bs.getD i false)||(!sl.contains i&&
 ((List.range i).all fun j=>sl.contains j||(List.range (i+1)).any fun m=>(decide (j<m)&& !sl.contains m)&&(match ops[m]? with |some o=>jv o j|none=>false))&&
  ((List.range ops.size).all fun k=>!decide (i<k)||(List.range k).any fun m=>decide (i≤m)&&(match ops[k]? with |some o=>jv o m|none=>false)))
theorem Qp {bs:List Bool} {sl:List Nat} (h:EG ops bs sl=true) {i:Nat} (hi:i<ops.size) (hb:bs.getD i false=true) {D:Nat→Prop} (hd:∀(j:Nat) (o:Oper),ops[j]? =some o→D j→∀m,jv o m=true→D m)
 (h0:∀(o:Oper),ops[i]? =some o→∀m,jv o m=true→D m):∀j,j<i→sl.contains j=false→D j:=by
 unfold EG at h;rw[List.all_eq_true]at h;have h1:=h i (by simpa using hi);simp only[hb,Bool.not_true,Bool.false_or,Bool.and_eq_true,List.all_eq_true]at h1
 have key:∀n j,i-j≤n→j<i→sl.contains j=false→D j:=by
  intro n
  induction n with
  |zero=>intro j h2 h3 _;omega
  |succ n ih=>
   intro j h2 h3 hns;have h4:=h1.1.2 j (by simpa using h3);rw[hns,Bool.false_or,List.any_eq_true]at h4;obtain⟨m,hm,h5⟩:=h4;simp only[List.mem_range]at hm;simp only[Bool.and_eq_true,decide_eq_true_eq,Bool.not_eq_true']at h5;obtain⟨⟨h6,hms⟩,h7⟩:=h5;have hml:m<ops.size:=by omega
   have ho:ops[m]? =some ops[m]:=by simp[hml]
   rw[ho]at h7;by_cases e:m=i
   ·subst e;exact h0 _ ho j h7
   exact hd m _ ho (ih m (by omega) (by omega) hms) j h7
 exact fun j hj hs=>key (i-j) j (Nat.le_refl _) hj hs
theorem amw {bs:List Bool} {sl:List Nat} (h:EG ops bs sl=true) {i:Nat} (hi:i<ops.size) (hb:bs.getD i false=true) {D:Nat→Prop} (hd:∀(j:Nat) (o:Oper),ops[j]? =some o→D j→∀m,jv o m=true→D m):
 ∀k,i<k→∀(o:Oper),ops[k]? =some o→(∀m,jv o m=true→D m)→D i:=by
 unfold EG at h;rw[List.all_eq_true]at h;have h1:=h i (by simpa using hi);simp only[hb,Bool.not_true,Bool.false_or,Bool.and_eq_true,List.all_eq_true]at h1;intro k
 induction k using Nat.strongRecOn with
 |_ k ih=>
  intro hik o ho aiG;have hk:k<ops.size:=(Array.getElem?_eq_some_iff.1 ho).1;have h4:=h1.2 k (by simpa using hk);simp only[hik,decide_true,Bool.not_true,Bool.false_or,List.any_eq_true]at h4;obtain⟨m,hm,h5⟩:=h4;simp only[List.mem_range]at hm;simp only[Bool.and_eq_true,decide_eq_true_eq,ho]at h5;obtain⟨h6,h7⟩:=h5;have hDm:=aiG m h7;by_cases e:m=i
  ·subst e;exact hDm
  have hml:m<ops.size:=by omega
  have hom:ops[m]? =some ops[m]:=by simp[hml]
  exact ih m hm (by omega) _ hom (hd m _ hom hDm)
theorem adH {bs:List Bool} {sl:List Nat} (h:EG ops bs sl=true) {i:Nat} (hi:i<ops.size) (hb:bs.getD i false=true):sl.contains i=false:=by
 unfold EG at h;rw[List.all_eq_true]at h;have h1:=h i (by simpa using hi);simp only[hb,Bool.not_true,Bool.false_or,Bool.and_eq_true,Bool.not_eq_true']at h1;exact h1.1.1
theorem SP.arJ {id:Nat} {σ σ':St} {Q:Exit→St→Prop} {rs:List AV} {ess:List (List bn)} {bs:List Bool} (hm:P.follows .mixedOrders=true) (hcalm:(Aa ops&&IG ops&&BR ops σ.slots.length&&II ops)=true) (sl:List Nat) (l7:EG ops bs sl=true)
 (h:iK P ops ops.toList σ rs ess bs σ')
 (hsl:∀i,i∈sl→bs.getD i false=false∧∀m,i≤m→m≤ops.size→∀o,ops[i]? =some o→tK P ops ⟨(iC ops σ (fun i=>rs.getD i .junk) (fun i=>ess.getD i []) i).slots,(iC ops σ (fun i=>rs.getD i .junk) (fun i=>ess.getD i []) m).ents,σ.base⟩ (rs.getD i .junk) (iC ops σ (fun i=>rs.getD i .junk) (fun i=>ess.getD i []) m).ents false o) (hQ:Q .normal σ'):SP P (.region id ops true) σ Q:=by
 refine⟨fun ro _ C ok H a w hh=>?_⟩;simp only[Bool.and_eq_true]at hcalm;obtain⟨⟨⟨he,hd⟩,hs⟩,hc⟩:=hcalm;have IJ:=NM he;have hinj:=Ux hd;have hcalm:=Uz hc
 have CW:∀(i:Nat) (o:Oper) (d:Tmp),ops[i]? =some o→o.dst=some d→d<σ.slots.length:=by
  intro i o d h1 h2;unfold BR at hs;rw[List.all_eq_true]at hs;simpa using hs d (Uy h1 h2)
 let r:Nat→AV:=fun i=>rs.getD i .junk
 let ev:Nat→List bn:=fun i=>ess.getD i []
 let bar:Nat→Bool:=fun i=>bs.getD i false
 obtain⟨Dx,hend⟩:=h.facts σ r ev bar 0 (fun k=>by simp) (by simp) rfl (fun k y hy=>by simp[r,List.getD,hy]) (fun k y hy=>by simp[ev,List.getD,hy]) (fun k y hy=>by simp[bar,List.getD,hy])
 let U:Nat→St:=iC ops σ r ev
 have hU:∀i,i<ops.size→(U (i+1)).ents=ev i:=by
  intro i hi;have ho:ops[i]? =some ops[i]:=by simp[hi]
  show(iC ops σ r ev (i+1)).ents=_;simp only[iC,ho];rfl
 have hconst:∀n lo,(∀b,lo≤b→b<lo+n→bar b=false)→lo+n≤ops.size→(U (lo+n)).ents=(U lo).ents:=by
  intro n
  induction n with
  |zero=>intro lo _ _;rfl
  |succ n ih=>
   intro lo hb hle;have h1:=ih lo (fun b h1 h2=>hb b h1 (by omega)) (by omega);have hi:lo+n<ops.size:=by omega
   have ho:ops[lo+n]? =some ops[lo+n]:=by simp[hi]
   have h2:=(Dx (lo+n) _ (by omega) ho).2 (hb (lo+n) (by omega) (by omega));rw[←Nat.add_assoc,hU _ hi,h2];exact h1
 have sO:∀lo hi,lo≤hi→hi≤ops.size→(∀b,lo≤b→b<hi→bar b=false)→(U hi).ents=(U lo).ents:=by
  intro lo hi h1 h2 h3;obtain⟨n,rfl⟩:=Nat.exists_eq_add_of_le h1;exact hconst n lo h3 h2
 refine wpIn_region_any hm ?_
 let I:Array Bool→Act→World→Prop:=fun l a w=>l.size=ops.size∧∃ok H m,m≤ops.size∧(∀b,bar b=true→b<ops.size→(l.getD b false=true↔b<m))∧Mem C ok H (U m).ents w∧a.tmps.size=σ.slots.length∧Marks C ok w a.defers∧
  (∀t,t<σ.slots.length→(∀(j:Nat) (o:Oper),ops[j]? =some o→o.dst=some t→l.getD j false=false)→R ok w H (σ.slots.getD t .junk) (a.tmps.getD t undef))∧
  (∀(i:Nat) (o:Oper) (d:Tmp),ops[i]? =some o→o.dst=some d→l.getD i false=true→R ok w H (r i) (a.tmps.getD d undef))∧
  (∀(j:Nat) (o:Oper),ops[j]? =some o→l.getD j false=true→∀i,jv o i=true→l.getD i false=true)
 refine ED I (fun l a w h=>h.1) ?_ ?_ ops.size _ _ _ ?_ ?_
 ·rintro l a w ⟨h1,ok,H,m,FU,oU,hmem0,hsz,hdf,h5,h6,h7⟩ i hi;unfold Region.ready at hi;rw[List.mem_filter]at hi;obtain⟨hi1,hi2⟩:=hi;have hi':i<ops.size:=by simpa using hi1
  have ho:ops[i]? =some ops[i]:=by simp[hi']
  simp only[Bool.and_eq_true]at hi2;have Ac:=hi2.2;rw[ho]at Ac;simp only[Option.map_some,Option.getD_some]at Ac;have Qc:=fun e he=>(Array.all_eq_true_iff_forall_mem.1 Ac) e he
  have hdone:∀j,jv ops[i] j=true→l.getD j false=true∧j<i:=by
   intro j hj;unfold jv at hj;rw[List.any_eq_true]at hj;obtain⟨e,hee,hj⟩:=hj;simp only[Bool.and_eq_true,decide_eq_true_eq]at hj;have:=Qc e (by simpa using hee);simp only[hj.2,Bool.not_true,Bool.false_or]at this;rw[hj.1]at this;exact⟨this,hj.1▸IJ i _ ho e hee hj.2⟩
  have hself:l.getD i false=false:=by
   have h8:=hi2.1;have hil:i<l.size:=by omega
   simp[Array.getD,hil]at h8 ⊢;exact h8
  have qV:∀(j:Nat) (o:Oper),ops[j]? =some o→l.getD j false=true→∀m,jv o m=true→l.getD m false=true:=fun j o hj hl m hm=>h7 j o hj hl m hm
  have hEi:(i≤m→sl.contains i=false)→(U i).ents=(U m).ents:=fun hns=>by
   by_cases him:i≤m
   ·refine(sO i m him FU (fun b h2 h3=>?_)).symm;rw[←Bool.not_eq_true];intro hb;have hbl:=(oU b hb (by omega)).2 h3;by_cases e:b=i
    ·subst e;rw[hself]at hbl;cases hbl
    have:=Qp l7 (show b<ops.size by omega) hb (D:=fun j=>l.getD j false=true) qV (fun o ho m hm=>qV b o ho hbl m hm) i (by omega) (hns him);rw[hself]at this;cases this
   refine sO m i (by omega) (by omega) (fun b h2 h3=>?_);rw[←Bool.not_eq_true];intro hb;have:=amw l7 (show b<ops.size by omega) hb (D:=fun j=>l.getD j false=true) qV i h3 _ ho (fun m hm=>(hdone m hm).1);exact absurd ((oU b hb (by omega)).1 this) (by omega)
  obtain⟨E0,E1,hmem,hfact,hE1,hE2⟩:∃E0 E1,Mem C ok H E0 w∧tK P ops ⟨(U i).slots,E0,σ.base⟩ (r i) E1 (bar i) ops[i]∧(bar i=false→E1=(U m).ents)∧(bar i=true→E1=ev i):=by
   by_cases hs:i≤m∧i∈sl
   ·have h9:=hsl i hs.2;refine⟨(U m).ents,(U m).ents,hmem0,?_,fun _=>rfl,fun hb=>?_⟩
    ·rw[show bar i=false from h9.1];exact h9.2 m hs.1 FU _ ho
    rw[show bar i=false from h9.1]at hb;cases hb
   have hE:=hEi (fun him=>by
    rw[←Bool.not_eq_true]
    intro hc;exact hs ⟨him,by simpa using hc⟩)
   refine⟨(U i).ents,ev i,by rw[hE];exact hmem0,?_,fun hb=>?_,fun _=>rfl⟩
   ·have hf:=Dx i ops[i] (by omega) ho;have hbase:(U i).base=σ.base:=Ij i;have :U i=⟨(U i).slots,(U i).ents,σ.base⟩:=by rw[←hbase]
    exact this▸hf
   rw[(Dx i _ (by omega) ho).2 hb];exact hE
  have hread:∀t,t∈tmpsOf ops[i]→R ok w H ((iC ops σ r ev i).slots.getD t .junk) (a.tmps.getD t undef):=by
   intro t ht;by_cases hw:∃(j:Nat) (o:Oper),ops[j]? =some o∧o.dst=some t
   ·obtain⟨j,o,hj,hjd⟩:=hw;rcases(hcalm i _ ho).1 j o t hj hjd ht with hce|hce
    ·obtain⟨hdj,hji⟩:=hdone j hce;rw[uT hinj hj hjd (CW j o t hj hjd) i hji];exact h6 j o t hj hjd hdj
    have hij:i<j:=by
     unfold jv at hce;rw[List.any_eq_true]at hce;obtain⟨e,hee,hce⟩:=hce;simp only[Bool.and_eq_true,decide_eq_true_eq]at hce;exact hce.1▸IJ j _ hj e hee hce.2
    rw[qg i (fun j' o' hj' ho' hd'=>by have:=hinj j j' o o' t hj ho' hjd hd';omega)];refine h5 t (CW j o t hj hjd) (fun j' o' ho' hd'=>?_);have hjj:=hinj j j' o o' t hj ho' hjd hd';subst hjj;rw[←Bool.not_eq_true];intro hd;rw[h7 j o hj hd i hce]at hself;cases hself
   have hw':∀(j:Nat) (o:Oper),ops[j]? =some o→o.dst≠some t:=fun j o h1 h2=>hw ⟨j,o,h1,h2⟩;rw[qg i (fun j o _ hj=>hw' j o hj)];by_cases htn:t<σ.slots.length
   ·exact h5 t htn (fun j o hj hjd=>absurd hjd (hw' j o hj))
   rw[Ih htn];exact .junk _
  have Nb:∀j d v,jv ops[i] j=true→(ops[j]?).bind (·.dst)=some d→(iC ops σ r ev i).slots.getD d .junk=.d (.lit v)→yielded ops a.tmps j=(match v with | .bool b=>some b|_=>none):=by
   intro j d v hj hjd hb;cases hoj:ops[j]? with
   |none=>rw[hoj]at hjd;simp at hjd
   |some oj=>
    rw[hoj]at hjd;simp only[Option.bind_some]at hjd;obtain⟨hdj,hji⟩:=hdone j hj;have hdn:=CW j oj d hoj hjd;rw[uT hinj hoj hjd hdn i hji]at hb;have hv:=(hb▸h6 j oj d hoj hjd hdj).bool
    have hs:a.tmps[d]? =some v:=by
     have :d<a.tmps.size:=by rw[hsz];exact hdn
     simp[Array.getD,this]at hv;simp[this,hv]
    unfold yielded;rw[hoj];simp only[Option.bind_some,hjd,hs];cases v<;>rfl
  have hput:∀(x:AV) (v:Value) (ok':Nat→Prop) (H':List Hd) (w':World),x=r i→Grow ok w ok' w'→Names H H'→Mem C ok' H' E1 w'→R ok' w' H' x v→I (l.setIfInBounds i true) (a.put ops[i].dst v) w':=by
   intro x v ok' H' w' hx hgr hnm hmem' hR;subst hx
   have hother:∀(d t:Nat),ops[i].dst=some d→d≠t→(a.put ops[i].dst v).tmps.getD t undef=a.tmps.getD t undef:=by
    intro d t hd hne;rw[hd];exact KI hne
   obtain⟨m',adt,Vp,adu⟩:∃m',m'≤ops.size∧(∀b,bar b=true→b<ops.size→((l.setIfInBounds i true).getD b false=true↔b<m'))∧Mem C ok' H' (U m').ents w':=by
    have hget:∀b,b≠i→(l.setIfInBounds i true).getD b false=l.getD b false:=fun b hb=>by
     simp only[Array.getD_eq_getD_getElem?,Array.getElem?_setIfInBounds_ne (Ne.symm hb)]
    have adv:(l.setIfInBounds i true).getD i false=true:=by simp[Array.getD,h1,hi']
    cases hbi:bar i with
    |false=>
     refine⟨m,FU,fun b hb hbs=>?_,?_⟩
     ·have hne:b≠i:=fun e=>by subst e;rw[hbi]at hb;cases hb
      rw[hget b hne];exact oU b hb hbs
     rw[←hE1 hbi];exact hmem'
    |true=>
     refine⟨i+1,by omega,fun b hb hbs=>?_,by rw[hU i hi',←hE2 hbi];exact hmem'⟩;by_cases e:b=i
     ·subst e;rw[adv];simp
     rw[hget b e];constructor
     ·intro hbl;apply Classical.byContradiction;intro hn;have:=Qp l7 hbs hb (D:=fun j=>l.getD j false=true) qV (fun o ho m hm=>qV b o ho hbl m hm) i (by omega) (adH l7 hi' hbi);rw[hself]at this;cases this
     intro hlt;exact Qp l7 hi' hbi (D:=fun j=>l.getD j false=true) qV (fun o ho' m hm=>by rw[ho]at ho';obtain rfl:=Option.some.inj ho';exact(hdone m hm).1) b (by omega) (adH l7 hbs hb)
   refine⟨by simp[h1],ok',H',m',adt,Vp,adu,by rw[size_put];exact hsz,by rw[WJ];exact hdf.mono hgr,?_,?_,?_⟩
   ·intro t ht hno
    have hne:ops[i].dst≠some t:=by
     intro e;have:=hno i _ ho e;simp[Array.getD,h1,hi']at this
    have hold:(a.put ops[i].dst v).tmps.getD t undef=a.tmps.getD t undef:=by
     cases hdi:ops[i].dst with
     |none=>rfl
     |some d=>exact hdi▸hother d t hdi (fun e=>hne (by rw[hdi,e]))
    rw[hold];refine(h5 t ht (fun j o hj hjd=>?_)).mono hgr hnm;have hij:i≠j:=fun e=>by subst e;rw[ho]at hj;obtain rfl:=Option.some.inj hj;exact hne hjd
    have:=hno j o hj hjd;simpa only[Array.getD_eq_getD_getElem?,Array.getElem?_setIfInBounds_ne hij]using this
   ·intro k o d hk hkd hl;by_cases hik:i=k
    ·subst hik;rw[ho]at hk;obtain rfl:=Option.some.inj hk;rw[hkd,NK (by rw[hsz];exact CW i _ d ho hkd)];exact hR
    have hl':l.getD k false=true:=by
     simp only[Array.getD_eq_getD_getElem?,Array.getElem?_setIfInBounds_ne hik]at hl ⊢;exact hl
    have:=(h6 k o d hk hkd hl').mono hgr hnm;cases hdst:ops[i].dst with
    |none=>exact this
    |some d'=>
     have hne:d'≠d:=fun e=>hik (hinj i k _ _ d' ho hk hdst (e▸hkd));rw[←hdst,hother d' d hdst hne];exact this
   intro j o hj hl k hk;have hil:i<l.size:=by omega
   by_cases hik:i=k
   ·subst hik;simp[Array.getD,hil]
   have hkk:l.getD k false=true:=by
    by_cases hij:i=j
    ·subst hij;rw[ho]at hj;obtain rfl:=Option.some.inj hj;exact(hdone k hk).1
    have hl':l.getD j false=true:=by
     simp only[Array.getD_eq_getD_getElem?,Array.getElem?_setIfInBounds_ne hij]at hl ⊢;exact hl
    exact h7 j o hj hl' k hk
   simp only[Array.getD_eq_getD_getElem?,Array.getElem?_setIfInBounds_ne hik]at hkk ⊢;exact hkk
  unfold wpOpIn;rw[ho];show if Region.wanted ops[i] (yielded ops a.tmps)=true then _ else _
  rcases hfact.1 with⟨ns,hop,WO,hnt,hg⟩|⟨hx,hev,hg⟩
  ·have hwant:Region.wanted ops[i] (yielded ops a.tmps)=true:=by
    unfold Region.wanted;rcases hg with hg|⟨j,want,d,b,hg,hj,hb,rfl⟩
    ·rw[hg]
    rw[hg];show(yielded ops a.tmps j==some b)=true;rw[Nb j d _ ((hcalm i _ ho).2 j b hg) hj hb];simp
   rw[if_pos hwant];refine Oper.wpIn_mono ?_ (hop.Vo ro C ok H a w _ hmem (fun n hn=>?_))
   ·rintro a' w' ⟨v,ok',H',rfl,hgr,hnn,hm',hx⟩;exact hput _ v ok' H' w' rfl hgr hnn hm' hx
   have hnv:=nX WO n hn;obtain⟨x,y⟩:=n;simp only at hnv ⊢;subst hnv;cases x with
   |tmp t=>
    refine hread t ?_;rw[List.all_eq_true]at hnt
    have :t∈mZ ns:=by
     unfold mZ;rw[List.mem_filterMap];exact⟨_,hn,rfl⟩
    simpa using hnt t this
   |const v=>exact .d _ _ (.lit v)
   |global g=>exact .d _ _ (.lit _)
   |func f=>exact .d _ _ (.fn (.func f) [] [] #[] #[] rfl rfl (fun i hi=>by simp at hi) (fun i hi=>by simp at hi))
  have hwant:Region.wanted ops[i] (yielded ops a.tmps)=false:=by
   unfold Region.wanted;obtain⟨j,want,d,v,hg,hj,hb,hv⟩:=hg;rw[hg];show(yielded ops a.tmps j==some want)=false;rw[Nb j d _ ((hcalm i _ ho).2 j want hg) hj hb];rcases hv with rfl|rfl
   ·simp
   rfl
  rw[if_neg (by rw[hwant];simp)];exact⟨fun _ _=>trivial,hput _ _ ok H w hx.symm (.refl _ _) (.refl _) (by rw[hev];exact hmem) (.d _ _ (.lit _))⟩
 ·rintro l a w ⟨h1,ok,H,m,FU,oU,hmem,hsz,hdf,h5,h6,h7⟩ hr
  have hall:∀n i,i<n→i<ops.size→l.getD i false=true:=by
   intro n
   induction n with
   |zero=>intro i hi;omega
   |succ n ih=>
    intro i hi hi2;by_cases hn:i<n
    ·exact ih i hn hi2
    have hin:i=n:=by omega
    subst hin;rw[←Bool.not_eq_false];intro hf;have ho:ops[i]? =some ops[i]:=by simp[hi2]
    have hmem:i∈Region.ready .any ops l:=by
     unfold Region.ready;rw[List.mem_filter];refine⟨by simpa using hi2,?_⟩;have hil:i<l.size:=by omega
     have hf':l.getD i true=false:=by simp[Array.getD,hil]at hf ⊢;exact hf
     rw[hf',ho];simp only[Bool.not_false,Bool.true_and,Option.map_some,Option.getD_some];rw[Array.all_eq_true_iff_forall_mem];intro e he;cases hbe:Region.binds .any e with
     |false=>simp
     |true=>
      have hlt:=IJ i _ ho e (by simpa using he) hbe;rw[ih e.on (by omega) (by omega)];simp
    rw[hr]at hmem;simp at hmem
  refine⟨ok,H,σ',?_,hQ⟩;subst hend
  have hE:(U ops.size).ents=(U m).ents:=sO m ops.size FU (Nat.le_refl _) (fun b h2 h3=>by
   rw[←Bool.not_eq_true];intro hb
   exact absurd ((oU b hb h3).1 (hall (b+1) b (by omega) h3)) (by omega))
  refine⟨by show Mem C ok H (U ops.size).ents w;rw[hE];exact hmem,by rw[pX];exact hsz,hdf,by rw[Ij];exact hh.base,fun t ht=>?_⟩;rw[pX]at ht;by_cases hw:∃(j:Nat) (o:Oper),ops[j]? =some o∧o.dst=some t
  ·obtain⟨j,o,hj,hjd⟩:=hw;have hjn:j<ops.size:=(Array.getElem?_eq_some_iff.1 hj).1;rw[uT hinj hj hjd ht ops.size hjn];exact h6 j o t hj hjd (hall (j+1) j (by omega) hjn)
  have hw':∀(j:Nat) (o:Oper),ops[j]? =some o→o.dst≠some t:=fun j o h1 h2=>hw ⟨j,o,h1,h2⟩;rw[qg ops.size (fun j o _ hj=>hw' j o hj)];exact h5 t ht (fun j o hj hjd=>absurd hjd (hw' j o hj))
 ·unfold toCome;simp
 refine⟨by simp,ok,H,0,Nat.zero_le _,fun b hb _=>by simp[Array.getD],?_,hh.size,hh.defers.mono (fun b hb=>⟨hb,rfl⟩),fun t ht _=>?_,fun i o d _ _ hl=>?_,fun j o _ hl=>?_⟩
 ·exact⟨⟨hh.mem.fr.os,hh.mem.fr.tape,hh.mem.fr.output,hh.mem.fr.size,hh.mem.fr.block⟩,hh.mem.rP,hh.mem.rQ,hh.mem.jH,hh.mem.names,hh.mem.hlen,fun k e h h1 h2=>(hh.mem.ent k e h h1 h2).drew,hh.mem.blk,hh.mem.yQ⟩
 ·exact R.mono (w:=w) (ok:=ok) (w':={ w with drawn:=w.drawn+1 }) (fun b hb=>⟨hb,rfl⟩) (.refl _) (hh.slot t ht)
 ·simp[Array.getD]at hl
 simp[Array.getD]at hl
def xw (n:Nat) (sl:List Nat):List (Nat×Nat):=sl.flatMap fun i=>((List.range (n+1)).filter fun m=>decide (i≤m)).map fun m=>(i,m)
def upL (ops:Array Oper) (σ:St) (rs:List AV) (ess:List (List bn)) (i:Nat):St:=iC ops σ (fun i=>rs.getD i .junk) (fun i=>ess.getD i []) i
def S9 (T:Kn P) (ops:Array Oper) (σ:St) (rs:List AV) (ess:List (List bn)) (p:Nat×Nat):Option (AV×List bn×Bool):=
 match ops[p.1]? with
 |some o=>(DL T ops ⟨(upL ops σ rs ess p.1).slots,(upL ops σ rs ess p.2).ents,σ.base⟩ o).map fun r=>(r.x,r.E,r.bar)
 |none=>none
theorem ai0 (T:Kn P) {σ:St} {rs:List AV} {ess:List (List bn)} {bs:List Bool} {sl:List Nat} (hns:(sl.all fun i=>!(bs.getD i false))=true)
 (hev:(xw ops.size sl).map (S9 T ops σ rs ess)=(xw ops.size sl).map fun p=>some (rs.getD p.1 .junk,(upL ops σ rs ess p.2).ents,false)):
 ∀i,i∈sl→bs.getD i false=false∧∀m,i≤m→m≤ops.size→∀o,ops[i]? =some o→tK P ops ⟨(iC ops σ (fun i=>rs.getD i .junk) (fun i=>ess.getD i []) i).slots,(iC ops σ (fun i=>rs.getD i .junk) (fun i=>ess.getD i []) m).ents,σ.base⟩ (rs.getD i .junk) (iC ops σ (fun i=>rs.getD i .junk) (fun i=>ess.getD i []) m).ents false o:=by
 intro i hi;refine⟨by have:=List.all_eq_true.1 hns i hi;simpa using this,fun m h1 h2 o ho=>?_⟩
 have hp:(i,m)∈xw ops.size sl:=by
  unfold xw;rw[List.mem_flatMap];exact⟨i,hi,List.mem_map.2 ⟨m,List.mem_filter.2 ⟨by simp;omega,by simpa using h1⟩,rfl⟩⟩
 have h3:=List.map_inj_left.1 hev (i,m) hp;unfold S9 at h3;rw[ho]at h3;simp only[Option.map_eq_some_iff]at h3;obtain⟨r,hr,he⟩:=h3;have h4:=uV T hr;simp only[Prod.mk.injEq]at he;rw[he.1,he.2.1,he.2.2]at h4;exact h4
theorem SP.awz [T:Kn P] {id:Nat} {σ σ':St} {Q:Exit→St→Prop} {rs:List AV} {ess:List (List bn)} {bs:List Bool} (sl:List Nat) (h:iK P ops ops.toList σ rs ess bs σ') (hQ:Q .normal σ') (hm:P.follows .mixedOrders=true:=by kernel_rfl)
 (hcalm:(Aa ops&&IG ops&&BR ops σ.slots.length&&II ops)=true:=by kernel_rfl) (l7:EG ops bs sl=true:=by kernel_rfl) (hns:(sl.all fun i=>!(bs.getD i false))=true:=by kernel_rfl)
 (hev:(xw ops.size sl).map (S9 T ops σ rs ess)=(xw ops.size sl).map fun p=>some (rs.getD p.1 .junk,(upL ops σ rs ess p.2).ents,false):=by kernel_rfl):SP P (.region id ops true) σ Q:=
 SP.arJ hm hcalm sl l7 h (ai0 T hns hev) hQ
theorem SP.arK [T:Kn P] {id:Nat} {y:Code} {σ σ':St} {Q:Exit→St→Prop} {rs:List AV} {ess:List (List bn)} {bs:List Bool} (sl:List Nat) (h:iK P ops ops.toList σ rs ess bs σ') (hQ:SP P y σ' Q) (hm:P.follows .mixedOrders=true:=by kernel_rfl)
 (hcalm:(Aa ops&&IG ops&&BR ops σ.slots.length&&II ops)=true:=by kernel_rfl) (l7:EG ops bs sl=true:=by kernel_rfl) (hns:(sl.all fun i=>!(bs.getD i false))=true:=by kernel_rfl)
 (hev:(xw ops.size sl).map (S9 T ops σ rs ess)=(xw ops.size sl).map fun p=>some (rs.getD p.1 .junk,(upL ops σ rs ess p.2).ents,false):=by kernel_rfl):SP P (.seq (.region id ops true) y) σ Q:=
 SP.seq1 σ' (SP.arJ hm hcalm sl l7 h (ai0 T hns hev) rfl) hQ
def St.aap (σ:St) (k j:Nat) (xs:List D) (cs:List AV):St:=⟨σ.slots.map (AV.thaw k xs),(σ.ents.set k .dead).set j (.box (cs.map (AV.thaw k xs))),σ.base⟩
theorem akO {σ:St} (k j:Nat) {e s:Nat} {xs:List D} {cs:List AV} (hk:σ.ents[k]? =some (.arr e s xs)) (hj:σ.ents[j]? =some (.box cs)) (hl:(cs.map (AV.thaw k xs)).all AV.leaf=true):∀C ok H a w,Holds C ok H σ a w→∃ok',Holds C ok' H (σ.aap k j xs cs) a w:=by
 intro C ok H a w hh;have hkj:k≠j:=fun e=>by subst e;rw[hk]at hj;cases hj
 obtain⟨hd,hhd,hok⟩:=jy hh.mem.ent hh.mem.hlen hk;have hkl:k<σ.ents.length:=(List.getElem?_eq_some_iff.1 hk).1;have hjl:j<(σ.ents.set k .dead).length:=by rw[List.length_set];exact(List.getElem?_eq_some_iff.1 hj).1
 let ok':Nat→Prop:=fun b=>ok b∨eG hd.v=some b
 have hblk:=fun b hb=>hh.mem.blk k _ hd b hk rfl hhd hb;have hg:Grow ok w ok' w:=fun b hb=>⟨.inl hb,rfl⟩
 have hcell:∀{x:AV} {v:Value},R ok w H x v→R ok' w H (x.thaw k xs) v:=by
  intro x v hR0;have hR:=hR0.mono hg (Names.refl H);cases x with
  |aK i=>
   simp only[AV.thaw];split
   ·rename_i hi;subst hi;obtain rfl:=oV hR hhd;exact .d _ _ (DI hok (fun b hb=>.inl hb) (fun b hb=>.inr hb))
   exact hR
  |jV i i2 off=>
   simp only[AV.thaw];split
   ·exact .junk _
   exact hR
  |_=>exact hR
 have hent:∀(i:Nat) (e':bn),((σ.ents.set k .dead).set j (.box (cs.map (AV.thaw k xs))))[i]? =some e'→(i=j∧e'=.box (cs.map (AV.thaw k xs)))∨(i≠j∧((i=k∧e'=.dead)∨(i≠k∧σ.ents[i]? =some e'))):=by
  intro i e' he;rcases mQ hjl he with⟨rfl,rfl⟩|⟨h1,h2⟩
  ·exact .inl ⟨rfl,rfl⟩
  refine .inr ⟨h1,?_⟩;rcases mQ hkl h2 with⟨rfl,rfl⟩|⟨h3,h4⟩
  ·exact .inl ⟨rfl,rfl⟩
  exact .inr ⟨h3,h4⟩
 have hold:∀(i:Nat) (e':bn),((σ.ents.set k .dead).set j (.box (cs.map (AV.thaw k xs))))[i]? =some e'→e'.live=true→i≠k∧∃e0,σ.ents[i]? =some e0∧e0.live=true:=by
  intro i e' he hlv;rcases hent i e' he with⟨rfl,rfl⟩|⟨h1,⟨rfl,rfl⟩|⟨h2,h3⟩⟩
  ·exact⟨Ne.symm hkj,_,hj,rfl⟩
  ·cases hlv
  exact⟨h2,_,h3,hlv⟩
 refine⟨ok',⟨hh.mem.fr,fun b hb=>.inl (hh.mem.rP b hb),?_,?_,hh.mem.names,by simp[St.aap,hh.mem.hlen],?_,?_,?_⟩,by simp[St.aap,hh.size],hh.defers.mono hg,hh.base,?_⟩
 ·rintro b (hb|hb)
  ·exact hh.mem.rQ b hb
  exact .inr (hblk b hb).2.2
 ·rintro b (hb|hb)
  ·exact hh.mem.jH b hb
  exact(hblk b hb).2.1
 ·intro i e' h' he hh';rcases hent i e' he with⟨rfl,rfl⟩|⟨_,⟨rfl,rfl⟩|⟨_,he'⟩⟩
  ·obtain⟨b,vs,T,h1,h2,h3,h4⟩:=hh.mem.ent i _ h' hj hh';refine⟨b,vs,T,h1,h2,by simpa using h3,fun n hn=>?_⟩;rw[List.length_map]at hn;rw[jS _ _ _ hn];refine⟨?_,hcell (h4 n hn).2⟩;rw[List.all_eq_true]at hl;exact hl _ (List.mem_map.2 ⟨_,by simp[List.getD,hn],rfl⟩)
  ·trivial
  exact(hh.mem.ent i e' h' he' hh').mono hg (.refl _) (fun _ _ _=>rfl)
 ·intro i e' h' b he hlv hh' hb;obtain⟨hik,e0,he0,hl0⟩:=hold i e' he hlv;have h3:=hh.mem.blk i e0 h' b he0 hl0 hh' hb;refine⟨fun hb'=>?_,h3.2⟩;rcases hb' with hb'|hb'
  ·exact h3.1 hb'
  exact hik (hh.mem.yQ i k e0 _ h' hd b he0 hk hl0 rfl hh' hhd hb hb')
 ·intro i i' e1 e2 h1 h2 b he1 he2 hl1 hl2 hh1 hh2 hb1 hb2;obtain⟨_,e1',abT,axy⟩:=hold i e1 he1 hl1;obtain⟨_,e2',abU,axz⟩:=hold i' e2 he2 hl2;exact hh.mem.yQ i i' e1' e2' h1 h2 b abT abU axy axz hh1 hh2 hb1 hb2
 intro t ht;simp only[St.aap,List.length_map]at ht
 have e1:(σ.aap k j xs cs).slots.getD t .junk=(σ.slots.getD t .junk).thaw k xs:=by
  simp only[St.aap];exact jS _ _ _ ht
 rw[e1];exact hcell (hh.slot t ht)
theorem SP.conv {c:Code} {σ σ2:St} {Q:Exit→St→Prop} (h:∀C ok H a w,Holds C ok H σ a w→∃ok',Holds C ok' H σ2 a w) (k:SP P c σ2 Q):SP P c σ Q:=⟨fun ro hr C ok H a w hh=>by
 obtain⟨ok',hh'⟩:=h C ok H a w hh
 exact k.run ro hr C ok' H a w hh'⟩
end
end Go.Proofs.YtolgdkhlelfpoaaGreat
end
section
namespace Go.Proofs.YtolgdkhlelfpoaaGreat
open Go.RowKit
def Xb (es:List bn) (H:List Hd):List Nat:=(es.zip H).filterMap fun p=>if p.1.live then eG p.2.v else none
theorem YR {es:List bn} {H:List Hd} {b:Nat}:b∈Xb es H↔∃(k:Nat) (e:bn) (h:Hd),es[k]? =some e∧e.live=true∧H[k]? =some h∧eG h.v=some b:=by
 unfold Xb;rw[List.mem_filterMap];constructor
 ·rintro⟨⟨e,h⟩,hm,hb⟩;obtain⟨k,hk⟩:=List.mem_iff_getElem?.1 hm;rw[List.getElem?_zip_eq_some]at hk;split at hb
  ·rename_i hl;exact⟨k,e,h,hk.1,hl,hk.2,hb⟩
  cases hb
 rintro⟨k,e,h,h1,h2,h3,h4⟩;exact⟨(e,h),List.mem_iff_getElem?.2 ⟨k,List.getElem?_zip_eq_some.2 ⟨h1,h3⟩⟩,by simp[h2,h4]⟩
def Cx.now (w:World) (ok:Nat→Prop) (es:List bn) (H:List Hd):Cx:=⟨w,ok,Xb es H,H⟩
section
variable {C : Cx} {ok ok' : Nat → Prop} {H H' : List Hd} {es es' : List bn} {w w' : World}
theorem Mem.inner (hm:Mem C ok H es w):Mem (Cx.now w ok es H) ok H es w:=
 ⟨.refl _ _,fun _ h=>h,fun _ h=>.inl h,hm.jH,.refl _,hm.hlen,hm.ent,
  fun k e h b he hl hh hb=>⟨(hm.blk k e h b he hl hh hb).1,(hm.blk k e h b he hl hh hb).2.1,.inr (YR.2 ⟨k,e,h,he,hl,hh,hb⟩)⟩,hm.yQ⟩
theorem Mem.outer (hm:Mem C ok H es w) (h:Mem (Cx.now w ok es H) ok' H' es' w'):Grow ok w ok' w'∧Names H H'∧Mem C ok' H' es' w':=by
 have hX:∀b,b∈Xb es H→¬ok b∧b<w.heap.size∧(C.w0.heap.size≤b∨b∈C.X):=fun b hb=>by
  obtain⟨k,e,hd,h1,h2,h3,h4⟩:=YR.1 hb;exact hm.blk k e hd b h1 h2 h3 h4
 refine⟨fun b hb=>⟨h.rP b hb,h.fr.block b (hm.jH b hb) fun hx=>(hX b hx).1 hb⟩,h.names,⟨h.fr.os.trans hm.fr.os,h.fr.tape.trans hm.fr.tape,h.fr.output.trans hm.fr.output,Nat.le_trans hm.fr.size h.fr.size,fun k hk hx=>?_⟩,fun b hb=>h.rP b (hm.rP b hb),fun b hb=>?_,h.jH,hm.names.trans h.names,h.hlen,h.ent,fun k e hd b he hl hh hb=>?_,h.yQ⟩
 ·have hk1:k<w.heap.size:=Nat.lt_of_lt_of_le hk hm.fr.size;refine(h.fr.block k hk1 fun hx'=>?_).trans (hm.fr.block k hk hx);rcases(hX k hx').2.2 with h1|h1
  ·omega
  exact hx h1
 ·rcases h.rQ b hb with h1|h1|h1
  ·exact hm.rQ b h1
  ·exact .inr (.inl (Nat.le_trans hm.fr.size h1))
  exact .inr ((hX b h1).2.2)
 obtain⟨h1,h2,h3⟩:=h.blk k e hd b he hl hh hb;refine⟨h1,h2,?_⟩;rcases h3 with h3|h3
 ·exact .inl (Nat.le_trans hm.fr.size h3)
 exact(hX b h3).2.2
theorem Mem.aaq (hm:Mem C ok H es w) {n:Nat} {e e':bn} {h:Hd} {b:Nat} {o:Obj} (hn:es[n]? =some e) (hl:e.live=true) (hh:H[n]? =some h) (hb:eG h.v=some b) (he:Grow ok w ok (w.putObj b o)→iL ok (w.putObj b o) H h e'):
 Mem C ok H (es.set n e') (w.putObj b o)∧Grow ok w ok (w.putObj b o):=by
 obtain⟨h1,h2,h3⟩:=hm.blk n e h b hn hl hh hb;have hg:Grow ok w ok (w.putObj b o):=fun c hc=>⟨hc,World.putObj_heap_other fun e=>h1 (e▸hc)⟩
 have hnl:=(List.getElem?_eq_some_iff.1 hn).1;refine hm.change (fun c=>c=b) rfl rfl rfl (by simp) (fun c _ hc=>World.putObj_heap_other hc) (fun c hc _=>by subst hc;exact⟨h1,h3⟩) (fun _ h=>h) (fun _ h=>.inl h) (.refl _) (by simpa using hm.hlen) fun k e2 h4 hk hh'=>?_;rcases mQ hnl hk with⟨rfl,rfl⟩|⟨hne,hk'⟩
 ·right;rw[hh]at hh';obtain rfl:=Option.some.inj hh';refine⟨he hg,fun _ c hc=>?_⟩;rw[hb]at hc;obtain rfl:=Option.some.inj hc;refine⟨h1,by simpa using h2,h3,fun k' e3 h5 hne hk3 hl3 hh3 hb3=>?_⟩;rcases mQ hnl hk3 with⟨rfl,_⟩|⟨_,hk4⟩
  ·exact hne rfl
  exact hne (hm.yQ k' _ e3 e h5 h _ hk4 hn hl3 hl hh3 hh hb3 hb)
 left;exact⟨hk',hh',fun hl2 c hc hcb=>hne (hm.yQ k n e2 e h4 h c hk' hn hl2 hl hh' hh hc (by rw[hcb];exact hb))⟩
def Xc :List Tmp→List AV→List AV→List AV
 |p::ps,x::xs,sl=>Xc ps xs (sl.set p x)
 |_,_,sl=>sl
theorem ai1 :∀(ps:List Tmp) (xs:List AV) (vs:List Value) (sl:List AV) (tm:Array Value),xs.length=ps.length→vs.length=ps.length→(∀i,i<xs.length→R ok w H (xs.getD i .junk) (vs.getD i undef))→
 tm.size=sl.length→(∀t,t<sl.length→R ok w H (sl.getD t .junk) (tm.getD t undef))→
 ((ps.zip vs).foldl (fun t p=>t.setIfInBounds p.1 p.2) tm).size=(Xc ps xs sl).length∧∀t,t<(Xc ps xs sl).length→R ok w H ((Xc ps xs sl).getD t .junk) (((ps.zip vs).foldl (fun t p=>t.setIfInBounds p.1 p.2) tm).getD t undef)
 | [],xs,vs,sl,tm,_,_,_,hs,hR=>by
   have e:Xc [] xs sl=sl:=by cases xs<;>rfl
   rw[e];exact⟨hs,hR⟩
 |p::ps,[],vs,sl,tm,h,_,_,_,_=>by simp at h
 |p::ps,x::xs,[],sl,tm,_,h,_,_,_=>by simp at h
 |p::ps,x::xs,v::vs,sl,tm,h1,h2,hx,hs,hR=>by
  refine ai1 ps xs vs (sl.set p x) (tm.setIfInBounds p v) (by simpa using h1) (by simpa using h2) (fun i hi=>by simpa using hx (i+1) (by simpa using hi)) (by simpa using hs) (fun t ht=>?_);rw[List.length_set]at ht;by_cases e:p=t
  ·subst e;have e1:(sl.set p x).getD p .junk=x:=by simp[List.getD,ht]
   have e2:(tm.setIfInBounds p v).getD p undef=v:=by simp[Array.getD,hs,ht]
   rw[e1,e2];simpa using hx 0 (by simp)
  have e1:(sl.set p x).getD t .junk=sl.getD t .junk:=by simp[List.getD,List.getElem?_set_ne e]
  have e2:(tm.setIfInBounds p v).getD t undef=tm.getD t undef:=by simp[Array.getD_eq_getD_getElem?,Array.getElem?_setIfInBounds_ne e]
  rw[e1,e2];exact hR t ht
end
def Jump :Exit→Option (LoopState×Option Code)
 | .normal=>some (.ready,none)
 | .ret=>some (.done,some .ret)
 | .exit i=>some (.done,some (.exit i))
 |_=>none
section
variable {P : Program} {ops : Array Oper} {o : Oper} {rest l : List Oper} {σ : St} {K : Exit → St → Prop}
theorem Tc {h:Hd} {l:Nat} (e:h.v=.func (.yield l) #[] #[]):eG h.v=some l:=by rw[e];rfl
theorem LP.yield {f:Operand} {xs:Array Operand} {ts:Array TypeId} {tm:Array Value} {slots:List AV} {rc:Array Tmp×Code×Code} (k:Nat) (dI:List AV)
 (ho:o.op=.call { callee:=.value f,args:=xs,argTypes:=ts }) (hf:σ.get f=.mp k) (hk:σ.ents[k]? =some (.loop tm slots rc .ready none)) (hx:xs.toList.map σ.get=dI) (hps:rc.1.size=xs.size)
 (hg:qo ops σ o.guard=some true) (hfl:(CV rc.2.1&&CV rc.2.2)=true)
 (h:SP P rc.2.1 ⟨Xc rc.1.toList dI slots,σ.ents,σ.ents.length⟩ fun e s=>e=.normal∧∃sl,s.ents[k]? =some (.loop tm sl rc .ready none)∧
  SP P rc.2.2 ⟨s.slots,s.ents.set k (.loop tm sl rc .busy none),s.base⟩ fun e s2=>∃sl2 j,s2.ents[k]? =some (.loop tm sl2 rc .busy none)∧Jump e=some j∧
   LP P ops rest (St.qU ⟨σ.slots,s2.ents.set k (.loop tm sl2 rc j.1 j.2),σ.base⟩ o.dst (.d (.lit (.bool j.2.isNone)))) K):LP P ops (o::rest) σ K:=by
 rw[Bool.and_eq_true]at hfl;refine⟨fun ro l2 Q C ok H a w hh hcont=>?_⟩;show wpListIn (FW ro) 0 P ops Q (o::(rest++l2)) a w;unfold wpListIn;rw[if_pos (lZ hh (jX hg))];have hv:=hf▸hh.get f;obtain⟨hd,hhd,hent⟩:=jy hh.mem.ent hh.mem.hlen hk;obtain⟨l,fn,D,e1,e2,e3,e4⟩:=hent
 have hval:a.eval f=.func (.yield l) #[] #[]:=by
  cases hv with
  |mp _ v s hl hH=>
   rw[hhd]at hH;obtain rfl:=Option.some.inj hH;exact e1
 have hrun:(execOp a.eval o).run P w=.ok (.round l fn ((rc.1.zip (xs.map a.eval)).foldl (fun tmps (t,a)=>tmps.setIfInBounds t a) tm) rc.2.1 rc.2.2) w:=by
  have:=run_yield (P:=P) e2 (args:=xs.map a.eval) (by simp[hps]);simp[execOp,ho,resolve,hval,Deferred.ofValue,invoke,this]
 unfold Oper.wpIn;rw[Oper.semAt_eq _ _ _ (by rw[ho];intro c h;cases h),hrun,Oper.uponIn_round];refine⟨fun _ _=>trivial,fun h=>(by cases h),roundIn_of_wpIn trivial ?_⟩
 have hT:(rc.1.zip (xs.map a.eval)).foldl (fun tmps (t,a)=>tmps.setIfInBounds t a) tm=(rc.1.toList.zip (xs.toList.map a.eval)).foldl (fun t p=>t.setIfInBounds p.1 p.2) tm:=by
  rw[←Array.foldl_toList,Array.toList_zip,Array.toList_map]
 rw[hT];have hpl:dI.length=rc.1.toList.length:=by rw[←hx];simp[hps]
 obtain⟨p1,p2⟩:=ai1 (ok:=ok) (w:=w) (H:=H) rc.1.toList dI (xs.toList.map a.eval) slots tm hpl (by simp[hps]) (fun i hi=>by
  have hi':i<xs.toList.length:=by rw[←hx]at hi;simpa using hi
  have hi2:i<xs.size:=by simpa using hi'
  have q1:dI.getD i .junk=σ.get xs.toList[i]:=by rw[←hx];simp[List.getD,hi2]
  have q2:(xs.toList.map a.eval).getD i undef=a.eval xs.toList[i]:=by simp[List.getD,hi2]
  rw[q1,q2];exact hh.get _) e3 e4
 have hin:Holds (Cx.now w ok σ.ents H) ok H ⟨Xc rc.1.toList dI slots,σ.ents,σ.ents.length⟩ { tmps:=(rc.1.toList.zip (xs.toList.map a.eval)).foldl (fun t p=>t.setIfInBounds p.1 p.2) tm,defers:=[] } w:=
  ⟨hh.mem.inner,p1,.nil _ _ _,hh.mem.hlen,p2⟩
 show Code.wpIn (FW (some l)) 0 P _ _ _ _;refine wpIn_mono (h.run (some l) (.inr hfl.1) _ _ _ _ _ hin) ?_;rintro e a1 w1 ⟨ok1,H1,s1,hh1,rfl,sl,hs1,h2⟩;obtain⟨g1,n1,m1⟩:=hh.mem.outer hh1.mem;have hk1:=n1 k hd hhd;obtain⟨l',fn',D',q1,q2,q3,q4⟩:=hh1.mem.ent k _ hd hs1 hk1;have hll:l'=l:=by rw[e1]at q1;cases q1;rfl
 subst hll
 obtain⟨m2,g2⟩:=hh1.mem.aaq (o:=.loop { state:=.busy,pending:=none,fn:=fn',tmps:=tm,params:=rc.1,assign:=rc.2.1,body:=rc.2.2,defers:=D' }) (e':=.loop tm sl rc .busy none) hs1 rfl hk1 (Tc q1)
  (fun g=>⟨l',fn',D',q1,World.putObj_heap_same (Array.getElem?_eq_some_iff.1 q2).1,q3,fun t ht=>(q4 t ht).mono g (.refl _)⟩)
 refine⟨_,run_beginRound q2 rfl,?_⟩;refine wpIn_mono (h2.run (some l') (.inr hfl.2) _ _ _ _ _ ⟨m2,hh1.size,hh1.defers.mono g2,hh1.base,fun t ht=>(hh1.slot t ht).mono g2 (.refl _)⟩) ?_;rintro e a2 w3 ⟨ok2,H2,s2,hh2,sl2,j,hs2,hj,hL⟩;obtain⟨g3,n3,m3⟩:=hh.mem.outer hh2.mem;have hk2:=n3 k hd hhd;obtain⟨l3,fn3,D3,r1,r2,r3,r4⟩:=hh2.mem.ent k _ hd hs2 hk2;have hll:l3=l':=by rw[e1]at r1;cases r1;rfl
 subst hll
 have key:j.1=(if j.2.isNone then LoopState.ready else .done)→∃v w',(Instr.endRound l3 j.2).run P w3=.ok v w'∧wpListIn (FW ro) 0 P ops Q (rest++l2) (a.put o.dst v) w':=by
  intro hst
  obtain⟨m4,g4⟩:=m3.aaq (o:=.loop { state:=(if j.2.isNone then LoopState.ready else .done),pending:=j.2,fn:=fn3,tmps:=tm,params:=rc.1,assign:=rc.2.1,body:=rc.2.2,defers:=D3 }) (e':=.loop tm sl2 rc j.1 j.2) hs2 rfl hk2 (Tc r1)
   (fun g=>⟨l3,fn3,D3,r1,by rw[hst];exact World.putObj_heap_same (Array.getElem?_eq_some_iff.1 r2).1,r3,fun t ht=>(r4 t ht).mono g (.refl _)⟩)
  refine⟨_,_,run_endRound j.2 r2,hL.run ro l2 Q C _ _ _ _ (Holds.put (σ:=⟨σ.slots,s2.ents.set k (.loop tm sl2 rc j.1 j.2),σ.base⟩) ⟨m4,hh.size,hh.defers.mono (g3.trans g4),hh.base,fun t ht=>(hh.slot t ht).mono (g3.trans g4) n3⟩ o.dst (.refl _ _) (.refl _) m4 (.d _ _ (.lit _))) hcont⟩
 cases e with
 |normal=>obtain rfl:=Option.some.inj hj;exact key rfl
 |ret=>obtain rfl:=Option.some.inj hj;exact key rfl
 |exit i=>obtain rfl:=Option.some.inj hj;exact key rfl
 |_=>cases hj
theorem SP.aof {Q:Exit→St→Prop} {g:Operand} {ps:Array Tmp} {assign body c:Code} {gf:FuncId} {fn:Func} (caps:List AV) (hg:∀(C:Cx) (ok:Nat→Prop) (H:List Hd) (a:Act) (w:World),Holds C ok H σ a w→R ok w H (.fn (.func gf) [] caps) (a.eval g)) (hf:P.funcs[gf]? =some fn) (he:aF P gf=true) (hb:fn.body=some c) (hres:fn.results= #[])
 (h:∀tm,SP P c ⟨(.mp σ.ents.length::caps)++List.replicate (fn.ntmps-(caps.length+1)) .junk,σ.ents++[.loop tm σ.slots (ps,assign,body) .ready none],σ.ents.length+1⟩ fun e s=>(e=.normal∨e=.ret)∧
  ∃sl j x,s.ents[σ.ents.length]? =some (.loop tm sl (ps,assign,body) j.1 j.2)∧Jump x=some j∧Q x ⟨σ.slots,s.ents.set σ.ents.length .dead,σ.base⟩):SP P (.rangeFunc g ps assign body) σ Q:=by
 refine⟨fun ro hr C ok H a w hh=>?_⟩;obtain rfl:ro=none:=hr.resolve_right (by simp[CV]);have hv:=hg C ok H a w hh;generalize hav:a.eval g=v at hv;cases hv with
 |fn _ _ _ vs us hl1 hl2 h1 h2=>
  obtain rfl:vs= #[]:=Array.eq_empty_of_size_eq_zero (by simpa using hl1);refine wpIn_rangeFunc ?_;intro fnm _;obtain⟨rec,hrec⟩:∃rec:Loop,rec={ state:=.ready,pending:=none,fn:=fnm,tmps:=a.tmps,params:=ps,assign,body,defers:=w.heap.size }:=⟨_,rfl⟩
  obtain⟨w2,hw2⟩:∃w2,(w.alloc (.deferred (some []))).alloc (.loop rec)=w2:=⟨_,rfl⟩
  have hsz:w2.heap.size=w.heap.size+2:=by rw[←hw2];simp
  have hL:w2.heap[w.heap.size+1]? =some (.loop rec):=by
   rw[←hw2];have:=World.alloc_heap_new (w.alloc (.deferred (some []))) (.loop rec);rwa [World.size_alloc]at this
  have hD:w2.heap[w.heap.size]? =some (.deferred (some [])):=by
   rw[←hw2];exact(Below.heap_alloc _ _ _ (by simp)).trans (World.alloc_heap_new w _)
  have hold:∀b,b<w.heap.size→w2.heap[b]? =w.heap[b]?:=fun b hb=>by
   rw[←hw2];exact(Below.heap_alloc _ _ _ (by simp;omega)).trans (Below.heap_alloc _ _ _ hb)
  have hos:w2.os=w.os∧w2.tape=w.tape∧w2.output=w.output:=by rw[←hw2];exact⟨rfl,rfl,rfl⟩
  obtain⟨hd,hhd⟩:∃hd:Hd,hd=⟨.func (.yield (w.heap.size+1)) #[] #[],0⟩:=⟨_,rfl⟩
  have hdv:hd.v=.func (.yield (w.heap.size+1)) #[] #[]:=by rw[hhd]
  have hgr:Grow ok w (fun b=>ok b∨b=w.heap.size) w2:=fun b hb=>⟨.inl hb,hold b (hh.mem.jH b hb)⟩
  have hHn:(H++[hd])[σ.ents.length]? =some hd:=by rw[←hh.mem.hlen];simp
  obtain⟨m2,g2⟩:=hh.mem.change (ok':=fun b=>ok b∨b=w.heap.size) (H':=H++[hd]) (es':=σ.ents++[.loop a.tmps σ.slots (ps,assign,body) .ready none]) (w':=w2) (fun _=>False) hos.1 hos.2.1 hos.2.2 (by omega) (fun b hb _=>hold b hb) (fun _ h=>h.elim)
   (fun _ h=>.inl h) (fun b hb=>hb.imp id fun h=>by omega) (.push _ _) (by simp[hh.mem.hlen]) (fun k e hk he hkk=>by
    rcases Ad he with he'|⟨rfl,rfl⟩
    ·left;have hkl:k<H.length:=by rw[hh.mem.hlen];exact(List.getElem?_eq_some_iff.1 he').1
     rw[List.getElem?_append_left hkl]at hkk;exact⟨he',hkk,fun _ _ _ h=>h⟩
    right;rw[hHn]at hkk;obtain rfl:=Option.some.inj hkk;refine⟨⟨w.heap.size+1,fnm,w.heap.size,hdv,by rw[hL,hrec],hh.size,fun t ht=>(hh.slot t ht).mono hgr (.push _ _)⟩,fun _ b hb=>?_⟩;rw[Tc hdv]at hb;obtain rfl:=Option.some.inj hb;refine⟨fun hx=>?_,by omega,.inl (by have:=hh.mem.fr.size;omega),fun k' e' h' hne he' hl' hh' hb'=>?_⟩
    ·rcases hx with hx|hx
     ·have:=hh.mem.jH _ hx;omega
     omega
    rcases Ad he' with he2|⟨rfl,_⟩
    ·have hkl:k'<H.length:=by rw[hh.mem.hlen];exact(List.getElem?_eq_some_iff.1 he2).1
     rw[List.getElem?_append_left hkl]at hh';have:=(hh.mem.blk k' e' h' _ he2 hl' hh' hb').2.1;omega
    exact hne rfl)
  have hargs:∀t,t<((.mp σ.ents.length::caps)++List.replicate (fn.ntmps-(caps.length+1)) .junk:List AV).length→
   R (fun b=>ok b∨b=w.heap.size) w2 (H++[hd]) (((.mp σ.ents.length::caps)++List.replicate (fn.ntmps-(caps.length+1)) .junk:List AV).getD t .junk)
     (((#[.func (.yield (w.heap.size+1)) #[] #[]]++us)++Array.replicate (fn.ntmps-(#[.func (.yield (w.heap.size+1)) #[] #[]]++us:Array Value).size) undef:Array Value).getD t undef):=by
   intro t ht;by_cases h0:t<caps.length+1
   ·have q1:((.mp σ.ents.length::caps)++List.replicate (fn.ntmps-(caps.length+1)) .junk:List AV).getD t .junk=(.mp σ.ents.length::caps:List AV).getD t .junk:=by
     simp only[List.getD];rw[List.getElem?_append_left (by simpa using h0)]
    have q2:((#[.func (.yield (w.heap.size+1)) #[] #[]]++us)++Array.replicate (fn.ntmps-(#[.func (.yield (w.heap.size+1)) #[] #[]]++us:Array Value).size) undef:Array Value).getD t undef=(#[.func (.yield (w.heap.size+1)) #[] #[]]++us:Array Value).getD t undef:=by
     simp only[Array.getD_eq_getD_getElem?];rw[Array.getElem?_append_left (by simp;omega)]
    rw[q1,q2];cases t with
    |zero=>
     have q3:(#[.func (.yield (w.heap.size+1)) #[] #[]]++us:Array Value).getD 0 undef=.func (.yield (w.heap.size+1)) #[] #[]:=by
      simp only[Array.getD_eq_getD_getElem?];rw[Array.getElem?_append_left (by simp)];rfl
     rw[q3];exact .mp _ _ 0 rfl (by rw[hHn,hhd])
    |succ t=>
     have q3:(#[.func (.yield (w.heap.size+1)) #[] #[]]++us:Array Value).getD (t+1) undef=us.getD t undef:=by
      simp only[Array.getD_eq_getD_getElem?];rw[Array.getElem?_append_right (by simp)];rfl
     rw[q3];simpa using(h2 t (by omega)).mono hgr (.push _ _)
   have q1:((.mp σ.ents.length::caps)++List.replicate (fn.ntmps-(caps.length+1)) .junk:List AV).getD t .junk=.junk:=by
    simp only[List.getD];rw[List.getElem?_append_right (by simp;omega),List.getElem?_replicate];split<;>rfl
   rw[q1];exact .junk _
  have hin:Holds (Cx.now w2 (fun b=>ok b∨b=w.heap.size) (σ.ents++[.loop a.tmps σ.slots (ps,assign,body) .ready none]) (H++[hd])) (fun b=>ok b∨b=w.heap.size) (H++[hd])
   ⟨(.mp σ.ents.length::caps)++List.replicate (fn.ntmps-(caps.length+1)) .junk,σ.ents++[.loop a.tmps σ.slots (ps,assign,body) .ready none],σ.ents.length+1⟩
   { tmps:=(#[.func (.yield (w.heap.size+1)) #[] #[]]++us)++Array.replicate (fn.ntmps-(#[.func (.yield (w.heap.size+1)) #[] #[]]++us:Array Value).size) undef,defers:=[] } w2:=
   ⟨m2.inner,by simp[hl2];omega,.nil _ _ _,by simp[Cx.now,hh.mem.hlen],hargs⟩
  refine⟨w.heap.size+1,[{ target:=.collected w.heap.size,args:=#[] }],w2,{ target:=.fn (.func gf) us,args:=#[.func (.yield (w.heap.size+1)) #[] #[]] },w2,gf,#[.func (.yield (w.heap.size+1)) #[] #[]]++us,w2,?_,?_,fun _ _=>trivial,?_,fun h=>(by cases h),?_⟩
  ·rw[←hw2,hrec];exact run_enterLoop_outer _ _ _ _ _
  ·have e9:a.eval (.const (.func (.yield (w.heap.size+1)) #[] #[]))=.func (.yield (w.heap.size+1)) #[] #[]:=rfl;simp[resolve,hav,Deferred.ofValue,e9]
  ·have:=oC he (#[.func (.yield (w.heap.size+1)) #[] #[]]++us) w2;simpa[invoke]using this
  refine callsIn_of_wp_marks hf hb trivial (wpIn_mono ((h a.tmps).run none (.inl rfl) _ _ _ _ _ hin) ?_) rfl;rintro e a' w' ⟨ok',H',s,hh',hee,sl,j,x,hs,hj,hQ⟩;obtain⟨Ds,hDs,hnd,hds⟩:=hh'.defers
  have key:LeavesInM (FW none) 0 P fn a'.tmps (rangePost (FW none) 0 P (w.heap.size+1) (fun e a' w'=>∃ok' H' σ',Holds C ok' H' σ' a' w'∧Q e σ') { a with defers:=[{ target:=.collected w.heap.size,args:=#[] }]++a.defers }) a'.defers .returning w':=by
   rw[hDs];refine Qj (P:=P) (C:=Cx.now w2 (fun b=>ok b∨b=w.heap.size) (σ.ents++[.loop a.tmps σ.slots (ps,assign,body) .ready none]) (H++[hd])) m2.jH (fun ok3 a3 w3 h3=>?_) Ds hh' hds hnd;refine⟨.tuple #[],by simp[results,hres],?_⟩;obtain⟨g3,n3,m3⟩:=m2.outer h3.mem;have hk3:=n3 _ hd hHn;obtain⟨l3,fn3,D3,r1,r2,r3,r4⟩:=h3.mem.ent _ _ hd hs hk3;have hll:l3=w.heap.size+1:=by rw[hdv]at r1;cases r1;rfl
   subst hll
   have hnb:j.1≠ .busy:=by
    cases x<;>simp[Jump]at hj<;>rw[←hj]<;>simp
   obtain⟨m4,g4⟩:=m3.aaq (o:=.loop { state:=.exhausted,pending:=j.2,fn:=fn3,tmps:=a.tmps,params:=ps,assign:=assign,body:=body,defers:=D3 }) (e':=.dead) hs rfl hk3 (Tc hdv) (fun _=>trivial);have arL:=(g2.trans g3).trans g4
   have hfin:Holds C ok3 H' ⟨σ.slots,s.ents.set σ.ents.length .dead,σ.base⟩ { a with defers:=[{ target:=.collected w.heap.size,args:=#[] }]++a.defers }
    (w3.putObj (w.heap.size+1) (.loop { state:=.exhausted,pending:=j.2,fn:=fn3,tmps:=a.tmps,params:=ps,assign:=assign,body:=body,defers:=D3 })):=by
    refine⟨m4,hh.size,?_,hh.base,fun t ht=>(hh.slot t ht).mono arL ((Names.push _ _).trans n3)⟩;obtain⟨Es,q1,q2,q3⟩:=hh.defers.mono arL;obtain⟨Fs,p1,p2,p3⟩:=hh.defers
    have hEF:Es=Fs:=by
     have:=q1.symm.trans p1;exact(List.map_inj_right (fun a b h=>by simpa using h)).1 this
    subst hEF;refine⟨w.heap.size::Es,by simp[q1],List.nodup_cons.2 ⟨fun hm=>?_,q2⟩,fun D hDm=>?_⟩
    ·have:=hh.mem.jH _ (p3 _ hm).1;omega
    rcases List.mem_cons.1 hDm with rfl|hDm
    ·have hok2:(fun b=>ok b∨b=w.heap.size) w.heap.size:=.inr rfl;have q4:=(g3.trans g4) _ hok2;exact⟨q4.1,hh.mem.fr.size,q4.2.trans hD⟩
    exact q3 D hDm
   refine⟨j.2,_,run_endLoop r2 hnb,?_⟩;cases x with
   |normal=>simp[Jump]at hj;rw[←hj]at hfin ⊢;exact⟨_,_,_,hfin,hQ⟩
   |ret=>simp[Jump]at hj;rw[←hj]at hfin ⊢;exact wpIn_ret ⟨_,_,_,hfin,hQ⟩
   |exit i=>simp[Jump]at hj;rw[←hj]at hfin ⊢;exact wpIn_exit ⟨_,_,_,hfin,hQ⟩
   |_=>cases hj
  rcases hee with rfl|rfl
  ·exact key
  exact key
theorem SP.rangeFunc {Q:Exit→St→Prop} {g:Operand} {ps:Array Tmp} {assign body c:Code} {gf:FuncId} {fn:Func} (caps:List AV) (hg:σ.get g=.fn (.func gf) [] caps) (hf:P.funcs[gf]? =some fn) (he:aF P gf=true) (hb:fn.body=some c) (hres:fn.results= #[])
 (h:∀tm,SP P c ⟨(.mp σ.ents.length::caps)++List.replicate (fn.ntmps-(caps.length+1)) .junk,σ.ents++[.loop tm σ.slots (ps,assign,body) .ready none],σ.ents.length+1⟩ fun e s=>(e=.normal∨e=.ret)∧
  ∃sl j x,s.ents[σ.ents.length]? =some (.loop tm sl (ps,assign,body) j.1 j.2)∧Jump x=some j∧Q x ⟨σ.slots,s.ents.set σ.ents.length .dead,σ.base⟩):SP P (.rangeFunc g ps assign body) σ Q:=
 SP.aof caps (fun _ _ _ _ _ hh=>hg▸hh.get g) hf he hb hres h
theorem SP.adI {Q:Exit→St→Prop} {g:Operand} {ps:Array Tmp} {assign body c:Code} {gf:FuncId} {fn:Func} (cs:List D) (hg:σ.get g=.d (.fn (.func gf) [] cs)) (hf:P.funcs[gf]? =some fn) (he:aF P gf=true) (hb:fn.body=some c) (hres:fn.results= #[])
 (h:∀tm,SP P c ⟨(.mp σ.ents.length::cs.map .d)++List.replicate (fn.ntmps-((cs.map AV.d).length+1)) .junk,σ.ents++[.loop tm σ.slots (ps,assign,body) .ready none],σ.ents.length+1⟩ fun e s=>(e=.normal∨e=.ret)∧
  ∃sl j x,s.ents[σ.ents.length]? =some (.loop tm sl (ps,assign,body) j.1 j.2)∧Jump x=some j∧Q x ⟨σ.slots,s.ents.set σ.ents.length .dead,σ.base⟩):SP P (.rangeFunc g ps assign body) σ Q:=
 SP.aof (cs.map .d) (fun _ _ _ _ _ hh=>R.dfn (hg▸hh.get g)) hf he hb hres h
end
def awC :Code→Nat→Code
 | .seq a b,i=>if i=0 then a else b
 | .cond _ a b,i=>if i=0 then a else b
 | .block _ a,_=>a
 | .loop a,_=>a
 | .scope a,_=>a
 | .rangeFunc _ _ a b,i=>if i=0 then a else b
 |c,_=>c
def amx (c:Option Code) (p:List Nat):Array Tmp×Code×Code:=
 match p.foldl awC (c.getD .skip)with
 | .rangeFunc _ ps a b=>(ps,a,b)
 |_=>(#[],.skip,.skip)
end Go.Proofs.YtolgdkhlelfpoaaGreat
end
section
namespace Go.Proofs.YtolgdkhlelfpoaaGreat
open Go.RowKit
section
variable {K V : Type} [BEq K]
def dD :List (K×V)→K→Option V
 | [],_=>none
 |p::l,k=>bif k==p.1 then some p.2 else dD l k
def fE :List (K×V)→K→V→List (K×V)
 | [],k,v=>[(k,v)]
 |p::l,k,v=>bif k==p.1 then(k,v)::l else p::fE l k v
def eM (ek:K→Value) (ev:V→D) (p:K×V):Value×D:=(ek p.1,ev p.2)
structure KeyTy (P:Program) (t:TypeId) (ek:K→Value):Prop where
 same:∃kd,P.underlying t=some kd∧∀a b,Instr.sameNow kd (ek a) (ek b)=some (a==b)
 check:∀e a w,(Instr.checkKey e 10000 t (ek a)).run P w=.ok () w
 eq:∀a b:K,(a==b)=true→a=b
 bits:∀a,Instr.sameBits 10000 (ek a) (ek a)=true
theorem aog {P:Program} {t:TypeId} {k:IntKind} (h:P.underlying t=some (.int k)):KeyTy P t (fun n:Int=>Value.int k n):=by
 refine⟨⟨_,h,fun a b=>by simp[Instr.sameNow]⟩,fun e a w=>?_,fun a b h=>by simpa using h,fun a=>?_⟩
 ·have :∀n,(Instr.checkKey e (n+1) t (.int k a)).run P w=.ok () w:=fun n=>by simp[Instr.checkKey,underlying,h]
  exact this 9999
 unfold Instr.sameBits;simp
theorem Ph {ek:K→Value} {kd:TypeDesc} (hs:∀a b,Instr.sameNow kd (ek a) (ek b)=some (a==b)) (k:K) (v:V):∀(m:List (K×V)) (l:List MapEntry) (i:Nat),l.map (·.key)=m.map (fun p=>ek p.1)→
 (Instr.findNow kd (ek k) l i=some none∧dD m k=none∧fE m k v=m++[(k,v)])∨
 ∃j e p,Instr.findNow kd (ek k) l i=some (some (i+j,e.val))∧l[j]? =some e∧m[j]? =some p∧dD m k=some p.2∧(k==p.1)=true∧fE m k v=m.set j (k,v)
 | [],[],_,_=>.inl ⟨rfl,rfl,rfl⟩
 | [],_::_,_,h=>by simp at h
 |_::_,[],_,h=>by simp at h
 |p::m,e::l,i,h=>by
  simp only[List.map_cons,List.cons.injEq]at h;cases hb:(k==p.1)with
  |true=>
   refine .inr ⟨0,e,p,?_,rfl,rfl,?_,hb,?_⟩
   ·simp[Instr.findNow,h.1,hs,hb]
   ·simp[dD,hb]
   simp[fE,hb]
  |false=>
   rcases Ph hs k v m l (i+1) h.2 with⟨h1,h2,h3⟩|⟨j,e',p',h1,h2,h3,h4,h5,h6⟩
   ·refine .inl ⟨?_,?_,?_⟩
    ·simp[Instr.findNow,h.1,hs,hb,h1]
    ·simp[dD,hb,h2]
    simp[fE,hb,h3]
   refine .inr ⟨j+1,e',p',?_,by simpa using h2,by simpa using h3,?_,h5,?_⟩
   ·simp[Instr.findNow,h.1,hs,hb,h1];omega
   ·simp[dD,hb,h4]
   simp[fE,hb,h6]
end
section
variable {ok : Nat → Prop} {w : World} {es : List (Value × D)} {ms : Array MapEntry} {clock : Nat}
theorem rO.push (h:rO ok w es ms clock) {k v:Value} {x:D} (hx:RD ok w x v):rO ok w (es++[(k,x)]) (ms.push { key:=k,val:=v,born:=clock }) (clock+1):=by
 have hget:∀(i:Nat) (m:MapEntry),(ms.push { key:=k,val:=v,born:=clock })[i]? =some m→ms[i]? =some m∨(i=ms.size∧m={ key:=k,val:=v,born:=clock }):=fun i m hm=>by
  rw[Array.getElem?_push]at hm;split at hm
  ·rename_i e;exact .inr ⟨e,(Option.some.inj hm).symm⟩
  exact .inl hm
 refine⟨by simp[h.len],fun i e m he hm=>?_,fun i j m n hij hm hn=>?_⟩
 ·rcases hget i m hm with h1|⟨rfl,rfl⟩
  ·have hi:i<es.length:=by rw[←h.len];exact(Array.getElem?_eq_some_iff.1 h1).1
   rw[List.getElem?_append_left hi]at he;obtain⟨q1,q2,q3⟩:=h.ent i e m he h1;exact⟨q1,q2,Nat.lt_succ_of_lt q3⟩
  rw[h.len]at he;simp at he;subst he;exact⟨rfl,hx,Nat.lt_succ_self _⟩
 rcases hget i m hm with h1|⟨rfl,rfl⟩<;>rcases hget j n hn with h2|⟨rfl,rfl⟩
 ·exact h.inc i j m n hij h1 h2
 ·have hi:i<es.length:=by rw[←h.len];exact(Array.getElem?_eq_some_iff.1 h1).1
  exact(h.ent i es[i] m (by simp[hi]) h1).2.2
 ·have:=(Array.getElem?_eq_some_iff.1 h2).1;omega
 omega
theorem rO.modify (h:rO ok w es ms clock) {k v:Value} {x:D} (hx:RD ok w x v) (j:Nat):rO ok w (es.set j (k,x)) (ms.modify j fun e=>{ e with key:=k,val:=v }) clock:=by
 have hget:∀(i:Nat) (m:MapEntry),(ms.modify j fun e=>{ e with key:=k,val:=v })[i]? =some m→∃m0,ms[i]? =some m0∧m.born=m0.born∧(i≠j→m=m0)∧(i=j→m.key=k∧m.val=v):=fun i m hm=>by
  rw[Array.getElem?_modify]at hm;split at hm
  ·rename_i e;rw[Option.map_eq_some_iff]at hm;obtain⟨m0,h1,rfl⟩:=hm;exact⟨m0,h1,rfl,fun q=>absurd e.symm q,fun _=>⟨rfl,rfl⟩⟩
  rename_i e;exact⟨m,hm,rfl,fun _=>rfl,fun q=>absurd q.symm e⟩
 refine⟨by simp[h.len],fun i e m he hm=>?_,fun i j' m n hij hm hn=>?_⟩
 ·obtain⟨m0,h1,h2,h3,h4⟩:=hget i m hm;have hi:i<es.length:=by rw[←h.len];exact(Array.getElem?_eq_some_iff.1 h1).1
  obtain⟨q1,q2,q3⟩:=h.ent i es[i] m0 (by simp[hi]) h1;by_cases e1:i=j
  ·subst e1;simp[hi]at he;subst he;exact⟨(h4 rfl).1,by rw[(h4 rfl).2];exact hx,by rw[h2];exact q3⟩
  rw[List.getElem?_set_ne (fun q=>e1 q.symm)]at he;rw[h3 e1];exact h.ent i e m0 he h1
 obtain⟨m0,h1,h2,_⟩:=hget i m hm;obtain⟨n0,g1,g2,_⟩:=hget j' n hn;rw[h2,g2];exact h.inc i j' m0 n0 hij h1 g1
theorem rO.mono {ok':Nat→Prop} {w':World} (h:rO ok w es ms clock) (hg:Grow ok w ok' w'):rO ok' w' es ms clock:=⟨h.len,fun i e m he hm=>⟨(h.ent i e m he hm).1,(h.ent i e m he hm).2.1.mono hg,(h.ent i e m he hm).2.2⟩,h.inc⟩
theorem rO.keys (h:rO ok w es ms clock):ms.toList.map (·.key)=es.map (·.1):=by
 apply List.ext_getElem
 ·simp[h.len]
 intro i h1 h2;simp at h1 h2;have:=(h.ent i es[i] ms[i] (by simp[h2]) (by simp[h1])).1;simpa using this
end
def zDD :Value→D
 | .agg vs=>.agg (vs.toList.map zD)
 |v=>zD v
theorem aoh {ok:Nat→Prop} {w:World} {z:Value} (h:z.cells.all (·.oneCell')=true):RD ok w (zDD z) z:=by
 unfold zDD;split
 ·rename_i vs;refine .agg _ vs (by simp) (fun i hi=>?_) (fun i hi=>?_)
  ·simp at hi;have e:(vs.toList.map zD).getD i dz=zD vs[i]:=by simp[List.getD,hi]
   rw[e];exact Vq ((Array.all_eq_true_iff_forall_mem.1 h) _ (by simp[Value.cells]))
  simp at hi;have e:(vs.toList.map zD).getD i dz=zD vs[i]:=by simp[List.getD,hi]
  have e2:vs.getD i undef=vs[i]:=by simp[Array.getD,hi]
  rw[e,e2];exact aai _
 exact aai _
section
variable {P : Program} {o : Oper} {es : List bn} {K V : Type} [BEq K]
theorem Gu {ok:Nat→Prop} {w:World} {H:List Hd} {k:Nat} {v:Value} {h:Hd} (hr:R ok w H (.mp k) v) (hh:H[k]? =some h):v=h.v:=by
 cases hr with
 |mp _ _ s hl hH=>
  rw[hh]at hH;cases hH;rfl
theorem EH {t:TypeId} (ho:o.op=.makeMap t none):bK P o [] es (.mp es.length) (es++[.map []]):=
 .eff fun C ok H a w hm hn=>by
  have hb:iL ok (w.alloc (.map #[] 0)) (H++[⟨.map (some w.heap.size),0⟩]) ⟨.map (some w.heap.size),0⟩ (.map []):=
   ⟨w.heap.size,#[],0,rfl,(MapKept.heap_alloc w _).1,⟨rfl,fun i e m he=>by simp at he,fun i j m n _ hm=>by simp at hm⟩⟩
  obtain⟨h2,h3⟩:=hm.push (.map #[] 0) ⟨.map (some w.heap.size),0⟩ _ (fun b hb=>by simpa[eG]using hb.symm) hb;refine⟨.map (some w.heap.size),_,ok,_,.inl ?_,h3,Names.push _ _,h2,.mp _ _ 0 rfl (by rw[←hm.hlen];simp)⟩;have hr:(newObj (.map #[] 0)).run P w=.ok w.heap.size (w.alloc (.map #[] 0)):=rfl;simp[execOp,ho,Instr.makeMap,hr]
theorem akP {t k e:TypeId} {x:Operand} {kd:IntKind} {n:Int} (ht:P.underlying t=some (.map k e)) (ho:o.op=.makeMap t (some x)):bK P o [(x,.d (.lit (.int kd n)))] es (.mp es.length) (es++[.map []]):=
 .eff fun C ok H a w hm hn=>by
  have hb:iL ok (w.alloc (.map #[] 0)) (H++[⟨.map (some w.heap.size),0⟩]) ⟨.map (some w.heap.size),0⟩ (.map []):=
   ⟨w.heap.size,#[],0,rfl,(MapKept.heap_alloc w _).1,⟨rfl,fun i e m he=>by simp at he,fun i j m n _ hm=>by simp at hm⟩⟩
  obtain⟨h2,h3⟩:=hm.push (.map #[] 0) ⟨.map (some w.heap.size),0⟩ _ (fun b hb=>by simpa[eG]using hb.symm) hb;have hx:=(mem1 hn).lit;simp only at hx;refine⟨.map (some w.heap.size),_,ok,_,.inl ?_,h3,Names.push _ _,h2,.mp _ _ 0 rfl (by rw[←hm.hlen];simp)⟩;have hr:(newObj (.map #[] 0)).run P w=.ok w.heap.size (w.alloc (.map #[] 0)):=rfl;simp[execOp,ho,Instr.makeMap,hr,hx,asInt,asIntOf,underlying,ht]
theorem ab5 {t kt vt:TypeId} {ek:K→Value} (ev:V→D) {zv:V} {z:Value} {m:List (K×V)} {key:K} {ok:Nat→Prop} {w:World} {b:Nat} {ms:Array MapEntry} {clock:Nat} (ht:P.underlying t=some (.map kt vt)) (hk:KeyTy P kt ek) (hz:(P.info? vt).bind (·.zero)=some z) (hzv:zDD z=ev zv)
 (hzl:z.cells.all (·.oneCell')=true) (hb:w.heap[b]? =some (.map ms clock)) (hM:rO ok w (m.map (eM ek ev)) ms clock) (c:Bool):
 ∃v,(Instr.lookup t (.map (some b)) (ek key) c).run P w=.ok (if c then .tuple #[v,.bool (dD m key).isSome]else v) w∧RD ok w (ev ((dD m key).getD zv)) v:=by
 obtain⟨kd,hkd,hs⟩:=hk.same;have hks:ms.toList.map (·.key)=m.map (fun p=>ek p.1):=by rw[hM.keys];simp[eM,Function.comp_def]
 have hck:=hk.check;obtain⟨i,hi,hz'⟩:=Option.bind_eq_some_iff.1 hz;rcases Ph (i:=0) hs key zv m ms.toList hks with⟨h1,h2,_⟩|⟨j,e,p,h1,h2,h3,h4,_⟩
 ·refine⟨z,?_,?_⟩
  ·rw[h2];simp[Instr.lookup,underlying,ht,MapKept.run_getObj_map hb,hck,Instr.findKey,hkd,h1,zeroValue,typeInfo,hi,hz']
  rw[h2];have:=aoh (ok:=ok) (w:=w) hzl;rw[hzv]at this;exact this
 refine⟨e.val,?_,?_⟩
 ·rw[h4];simp[Instr.lookup,underlying,ht,MapKept.run_getObj_map hb,hck,Instr.findKey,hkd,h1]
 rw[h4];have h5:(m.map (eM ek ev))[j]? =some (eM ek ev p):=by rw[List.getElem?_map,h3];rfl
 exact(hM.ent j _ e h5 (by simpa using h2)).2.1
theorem Io {t kt vt:TypeId} {x y:Operand} {k:Nat} {ek:K→Value} (ev:V→D) (zv:V) {z:Value} {m:List (K×V)} {key:K} (ht:P.underlying t=some (.map kt vt)) (hk:KeyTy P kt ek) (hz:(P.info? vt).bind (·.zero)=some z) (hzv:zDD z=ev zv) (hzl:z.cells.all (·.oneCell')=true)
 (he:es[k]? =some (.map (m.map (eM ek ev)))) (ho:o.op=.lookup t x y false):bK P o [(x,.mp k),(y,.d (.lit (ek key)))] es (.d (ev ((dD m key).getD zv))) es:=
 .pure fun ok H a w hent hl hn=>by
  obtain⟨hd,hh,hok⟩:=jy hent hl he;obtain⟨b,ms,clock,h1,h2,h3⟩:=hok;have hx:=Gu (mem2 hn).1 hh;have hy:=(mem2 hn).2.lit;simp only at hx hy;obtain⟨v,hr,hv⟩:=ab5 (key:=key) ev ht hk hz hzv hzl h2 h3 false;refine⟨v,?_,.d _ _ hv⟩;simp[execOp,ho,hx,hy,h1,hr]
theorem Xd {t kt vt:TypeId} {x y:Operand} {k:Nat} {ek:K→Value} (ev:V→D) (zv:V) {z:Value} {m:List (K×V)} {key:K} (ht:P.underlying t=some (.map kt vt)) (hk:KeyTy P kt ek) (hz:(P.info? vt).bind (·.zero)=some z) (hzv:zDD z=ev zv) (hzl:z.cells.all (·.oneCell')=true)
 (he:es[k]? =some (.map (m.map (eM ek ev)))) (ho:o.op=.lookup t x y true):bK P o [(x,.mp k),(y,.d (.lit (ek key)))] es (.eH [.d (ev ((dD m key).getD zv)),.d (eB (dD m key).isSome)]) es:=
 .pure fun ok H a w hent hl hn=>by
  obtain⟨hd,hh,hok⟩:=jy hent hl he;obtain⟨b,ms,clock,h1,h2,h3⟩:=hok;have hx:=Gu (mem2 hn).1 hh;have hy:=(mem2 hn).2.lit;simp only at hx hy;obtain⟨v,hr,hv⟩:=ab5 (key:=key) ev ht hk hz hzv hzl h2 h3 true;refine⟨.tuple #[v,.bool (dD m key).isSome],?_,.eH _ _ rfl fun i hi=>?_⟩
  ·simp[execOp,ho,hx,hy,h1,hr]
  match i,hi with
  |0,_=>exact .d _ _ hv
  |1,_=>exact .d _ _ (.lit _)
theorem ab6 {C:Cx} {ok:Nat→Prop} {H:List Hd} {w:World} (hm:Mem C ok H es w) {k:Nat} {es0 es1:List (Value×D)} {b clock clock':Nat} {ms ms':Array MapEntry} {hd:Hd} (he:es[k]? =some (.map es0)) (hh:H[k]? =some hd) (hv:hd.v=.map (some b)) (hb:w.heap[b]? =some (.map ms clock))
 (hM:rO ok w es1 ms' clock'):(setObj b (.map ms' clock')).run P w=.ok () (w.putObj b (.map ms' clock'))∧Mem C ok H (es.set k (.map es1)) (w.putObj b (.map ms' clock'))∧Grow ok w ok (w.putObj b (.map ms' clock')):=by
 refine⟨by simp[setObj,Sem.run,hb,World.putObj],hm.aaq he rfl hh (by rw[hv];rfl) fun hg=>⟨b,ms',clock',hv,World.putObj_heap_same (Array.getElem?_eq_some_iff.1 hb).1,hM.mono hg⟩⟩
theorem KQ {t kt vt:TypeId} {x y u:Operand} {k:Nat} {ek:K→Value} (ev:V→D) {m:List (K×V)} {key:K} {val:V} (ht:P.underlying t=some (.map kt vt)) (hk:KeyTy P kt ek) (he:es[k]? =some (.map (m.map (eM ek ev)))) (ho:o.op=.mapUpdate t x y u):
 bK P o [(x,.mp k),(y,.d (.lit (ek key))),(u,.d (ev val))] es .junk (es.set k (.map ((fE m key val).map (eM ek ev)))):=
 .eff fun C ok H a w hm hn=>by
  obtain⟨hd,hh,hok⟩:=jy hm.ent hm.hlen he;obtain⟨b,ms,clock,h1,h2,h3⟩:=hok;have hx:=Gu (hn (x,.mp k) (by simp)) hh;have hy:=(hn (y,.d (.lit (ek key))) (by simp)).lit;have hu:RD ok w (ev val) (a.eval u):=by have:=hn (u,.d (ev val)) (by simp);cases this with |d _ _ h=>exact h
  simp only at hx hy;obtain⟨kd,hkd,hs⟩:=hk.same;have hks:ms.toList.map (·.key)=m.map (fun p=>ek p.1):=by rw[h3.keys];simp[eM,Function.comp_def]
  have hck:=hk.check;rcases Ph (i:=0) hs key val m ms.toList hks with⟨q1,_,q3⟩|⟨j,e,p,q1,q2,q3,_,q5,q6⟩
  ·have hM:=h3.push (k:=ek key) hu;obtain⟨r1,r2,r3⟩:=ab6 (P:=P) hm he hh h1 h2 hM;refine⟨undef,_,ok,H,.inr ⟨rfl,?_⟩,r3,.refl _,?_,.junk _⟩
   ·simp[execOp,ho,hx,hy,h1,Instr.mapUpdate,underlying,ht,MapKept.run_getObj_map h2,hck,Instr.findKey,hkd,q1,r1]
   rw[q3,List.map_append];exact r2
  have hM:=h3.modify (k:=ek key) hu j;obtain⟨r1,r2,r3⟩:=ab6 (P:=P) hm he hh h1 h2 hM
  have hkey:e.key=ek key:=by
   have h5:(m.map (eM ek ev))[j]? =some (eM ek ev p):=by rw[List.getElem?_map,q3];rfl
   rw[(h3.ent j _ e h5 (by simpa using q2)).1,hk.eq _ _ q5];rfl
  have hst:∀w,(Instr.keyThatStays (ek key) (ek key)).run P w=.ok (ek key) w:=fun w=>by simp[Instr.keyThatStays,hk.bits]
  have hms:ms[j]? =some e:=by simpa using q2
  refine⟨undef,_,ok,H,.inr ⟨rfl,?_⟩,r3,.refl _,?_,.junk _⟩
  ·simp[execOp,ho,hx,hy,h1,Instr.mapUpdate,underlying,ht,MapKept.run_getObj_map h2,hck,Instr.findKey,hkd,q1,hms,hkey,hst,r1]
  rw[q6,List.map_set];exact r2
theorem ahm {t kt vt:TypeId} {x:Operand} {k:Nat} {es0:List (Value×D)} (ht:P.underlying t=some (.map kt vt)) (he:es[k]? =some (.map es0)) (ho:o.op=.call { callee:=.builtin .clear,args:=#[x],argTypes:=#[t] }):
 bK P o [(x,.mp k)] es .junk (es.set k (.map [])):=
 .eff fun C ok H a w hm hn=>by
  obtain⟨hd,hh,hok⟩:=jy hm.ent hm.hlen he;obtain⟨b,ms,clock,h1,h2,h3⟩:=hok;have hx:=Gu (hn (x,.mp k) (by simp)) hh;simp only at hx;have hM:rO ok w [] #[] clock:=⟨rfl,fun i e m he=>by simp at he,fun i j m n _ hm=>by simp at hm⟩
  obtain⟨r1,r2,r3⟩:=ab6 (P:=P) hm he hh h1 h2 hM;refine⟨.tuple #[],_,ok,H,.inl ?_,r3,.refl _,r2,.junk _⟩;simp[execOp,ho,resolve,invoke,builtin,Builtin.clear_,hx,h1,underlying,ht,MapKept.run_getObj_map h2,r1]
theorem asC {t kt vt:TypeId} {x:Operand} {k:Nat} {es0:List (Value×D)} {n:Nat} (hl:es0.length=n) (ht:P.underlying t=some (.map kt vt)) (he:es[k]? =some (.map es0)) (ho:o.op=.call { callee:=.builtin .len,args:=#[x],argTypes:=#[t] }):
 bK P o [(x,.mp k)] es (.d (eI n)) es:=
 .pure fun ok H a w hent hlen hn=>by
  obtain⟨hd,hh,hok⟩:=jy hent hlen he;obtain⟨b,ms,clock,h1,h2,h3⟩:=hok;have hx:=Gu (hn (x,.mp k) (by simp)) hh;simp only at hx;refine⟨goInt es0.length,?_,by rw[hl];exact .d _ _ (.lit _)⟩;simp[execOp,ho,resolve,invoke,builtin,Builtin.len_,hx,h1,underlying,ht,MapKept.run_getObj_map h2,h3.len]
end
end Go.Proofs.YtolgdkhlelfpoaaGreat
end
section
namespace Go.Proofs.YtolgdkhlelfpoaaGreat
open Go.RowKit
theorem ahn {ok:Nat→Prop} {w:World} {H:List Hd} {xs ys:List AV} {vs us:List Value} (h:Rs ok w H xs vs) (k:Rs ok w H ys us):Rs ok w H (xs++ys) (vs++us):=by
 refine⟨by rw[List.length_append,List.length_append,h.1,k.1],fun i hi=>?_⟩;by_cases hi2:i<xs.length
 ·have e1:(xs++ys).getD i .junk=xs.getD i .junk:=by simp[List.getD,List.getElem?_append_left hi2]
  have e2:(vs++us).getD i undef=vs.getD i undef:=by simp[List.getD,List.getElem?_append_left (by rw[h.1];exact hi2:i<vs.length)]
  rw[e1,e2];exact h.2 i hi2
 have hi3:i-xs.length<ys.length:=by rw[List.length_append]at hi;omega
 have e1:(xs++ys).getD i .junk=ys.getD (i-xs.length) .junk:=by simp[List.getD,List.getElem?_append_right (Nat.le_of_not_lt hi2)]
 have e2:(vs++us).getD i undef=us.getD (i-xs.length) undef:=by simp[List.getD,List.getElem?_append_right (by rw[h.1];omega:vs.length≤i),h.1]
 rw[e1,e2];exact k.2 _ hi3
theorem Mem.awD {C:Cx} {ok:Nat→Prop} {H:List Hd} {es:List bn} {w w':World} (hm:Mem C ok H es w) {v':Value} {size:Nat} {e:bn} (hg:w.grownBy w' none) (hb:∀g,eG v'=some g→w.heap.size≤g∧g<w'.heap.size)
 (he:Grow ok w ok w'→iL ok w' (H++[⟨v',size⟩]) ⟨v',size⟩ e):Mem C ok (H++[⟨v',size⟩]) (es++[e]) w'∧Grow ok w ok w':=by
 have g0:Grow ok w ok w':=fun b hb=>⟨hb,hg.block b (hm.jH b hb) (by simp)⟩
 refine hm.change (fun _=>False) hg.os hg.tape hg.output hg.size (fun b hb _=>hg.block b hb (by simp)) (fun _ h=>h.elim) (fun _ h=>h) (fun _ h=>.inl h) (Names.push _ _) (by simp[hm.hlen]) ?_;intro k e' h' he' hh';rcases Ad he' with h1|⟨h1,h2⟩
 ·left;refine⟨h1,?_,fun _ _ _ h=>h⟩;have hk:k<H.length:=by rw[hm.hlen];exact(List.getElem?_eq_some_iff.1 h1).1
  rwa [List.getElem?_append_left hk]at hh'
 subst h2;have hk:k=H.length:=by rw[hm.hlen];exact h1
 subst hk;simp at hh';subst hh';refine .inr ⟨he g0,fun _ b hb'=>?_⟩;obtain⟨q1,q2⟩:=hb b hb';refine⟨fun h3=>absurd (hm.jH _ h3) (by omega),q2,.inl (Nat.le_trans hm.fr.size q1),fun k' e'' h'' hne hk' hl Qd YG=>?_⟩;rcases Ad hk' with h3|⟨h3,_⟩
 ·have hk2:k'<H.length:=by rw[hm.hlen];exact(List.getElem?_eq_some_iff.1 h3).1
  rw[List.getElem?_append_left hk2]at Qd;exact absurd (hm.blk k' e'' h'' _ h3 hl Qd YG).2.1 (by omega)
 rw[←hm.hlen]at h3;exact hne h3
section
variable {P : Program} {o : Oper} {es es' : List bn}
theorem bK.thaw {ns:List (Operand×AV)} {k e s:Nat} {xs:List D} (h:bK P o ns es (.aK k) es') (hk:es'[k]? =some (.arr e s xs)):bK P o ns es (.d (.sl xs)) (es'.set k .dead):=by
 intro C ok H a w Q hm hn;refine Oper.wp_mono ?_ (h C ok H a w Q hm hn);rintro a' w' ⟨v,ok',H',rfl,hg,hnm,hm',hR⟩
 have hin:Holds (Cx.now w' ok' es' H') ok' H' ⟨[.aK k],es',H'.length⟩ { tmps:=#[v],defers:=[] } w':=⟨hm'.inner,rfl,.nil _ _ _,rfl,fun t ht=>by
  match t,ht with
  |0,_=>exact hR⟩
 obtain⟨ok2,h2⟩:=l9 k hk _ _ _ _ _ hin;obtain⟨g1,_,m1⟩:=hm'.outer h2.mem;refine⟨v,ok2,H',rfl,hg.trans g1,hnm,m1,?_⟩;have:=h2.slot 0 (by simp[St.thaw]);simpa[St.thaw,AV.thaw]using this
theorem RD.awE {ok:Nat→Prop} {w:World} {xs:List D} {ad:Option Addr} {n cap cap':Nat} (h:RD ok w (.sl xs) (.slice ad n cap)) (hc:xs.length≤cap'):RD ok w (.sl xs) (.slice ad n cap'):=by
 cases h with
 |sl0 _ _=>exact .sl0 _ _
 |sl _ b off _ size hcap hok hs hf hx hcell=>exact .sl xs b off cap' size hc hok hs hf hx hcell
theorem adJ {t e:TypeId} {agg:Bool} {size n cap m:Nat} {ad:Option Addr} {w:World} (ht:P.underlying t=some (.slice e)) (hT:Ty P e agg size) (h1:m≤cap):
 (Instr.slice t (.slice ad n cap) none (some (.int .i64 m)) (some (.int .i64 m))).run P w=.ok (.slice (if m=0 then ad else ad.map (·.add 0)) m m) w:=by
 have hu:(underlying t).run P w=.ok (.slice e) w:=by simp[underlying,ht]
 have e1:((m:Int)≤(cap:Int)):=Int.ofNat_le.2 h1;simp[Instr.slice,hu,Instr.sliceBounds,Instr.sliceBound,asIntOf,e1,h1,hT.size]
theorem alM {α:Type} {t e:TypeId} {agg:Bool} {size:Nat} {x y z:Operand} {h:Int} (enc:α→D) {xs r:List α} (hr:wM xs 0 h=some r) (ht:P.underlying t=some (.slice e)) (hT:Ty P e agg size) (hc:∀a,(enc a).cells.length=size)
 (ho:o.op=.slice t x none (some y) (some z)):bK P o [(x,.d (eL enc xs)),(y,.d (eI h)),(z,.d (eI h))] es (.clip (r.map enc)) es:=
 .pure fun ok H a w _ _ hn=>by
  obtain⟨⟨_,h1,h2⟩,rfl⟩:=ahh hr;have hx:=hn (x,.d (eL enc xs)) (by simp);have hy:=(hn (y,.d (eI h)) (by simp)).lit;have hz:=(hn (z,.d (eI h)) (by simp)).lit;simp only at hx hy hz;generalize hv:a.eval x=v at hx;have hrd:RD ok w (.sl (xs.map enc)) v:=by cases hx with |d _ _ h=>exact h
  have hform:∃ad cap,v=.slice ad (xs.map enc).length cap∧(xs.map enc).length≤cap:=by
   generalize hys:xs.map enc=ys at hrd;cases hrd with
   |sl0 ad cap=>exact⟨ad,cap,rfl,Nat.zero_le _⟩
   |sl _ b off cap size hcap=>exact⟨_,cap,rfl,hcap⟩
  obtain⟨ad,cap,rfl,hcap⟩:=hform
  have hlen:(List.map enc ((xs.drop 0).take (h.toNat-0))).length=h.toNat:=by
   rw[List.length_map,List.length_take,List.drop_zero];omega
  have hrun:=adJ (P:=P) (n:=xs.length) (ad:=ad) (w:=w) ht hT (m:=h.toNat) (cap:=cap) (by rw[List.length_map]at hcap;omega);have hhn:((h.toNat:Nat):Int)=h:=by omega
  rw[hhn]at hrun;refine⟨.slice (if h.toNat=0 then ad else ad.map (·.add 0)) h.toNat h.toNat,?_,?_⟩
  ·rw[List.length_map]at hv;simp only[execOp,ho,Option.map_none,Option.map_some,hv,hy,hz,Instr.sliceAt];have hu:(underlying t).run P w=.ok (.slice e) w:=by simp[underlying,ht]
   simp only[Sem.run_bind,Sem.run_map,Sem.run_pure,hu,hrun,Result.andThen_ok]
  have hD:RD ok w (.sl (List.map enc ((xs.drop 0).take (h.toNat-0)))) (.slice (if h.toNat=0 then ad else ad.map (·.add 0)) (List.map enc ((xs.drop 0).take (h.toNat-0))).length (List.map enc ((xs.drop 0).take (h.toNat-0))).length):=by
   by_cases hz':h.toNat=0
   ·have e0:List.map enc ((xs.drop 0).take (h.toNat-0))=[]:=List.eq_nil_of_length_eq_zero (by rw[hlen,hz']);rw[e0];exact .sl0 _ _
   have hsub:=anW (l:=0) (h:=h.toNat) hrd (size:=size) (fun y hy=>by obtain⟨b,_,rfl⟩:=List.mem_map.1 hy;exact hc b) (Nat.zero_le _) (by simp;omega);have hc0:cap≠0:=by rw[List.length_map]at hcap;omega
   rw[if_neg hc0]at hsub;rw[if_neg hz',hlen];rw[←List.map_drop,←List.map_take]at hsub;simp only[Nat.zero_mul,Nat.sub_zero]at hsub ⊢;exact hsub.awE (by rw[List.length_map,List.length_take,List.drop_zero];omega)
  have:=R.clip (H:=H) _ _ hD;rw[hlen]at this;exact this
theorem alN {t e e':TypeId} {agg:Bool} {size k s:Nat} {x y z:Operand} {xs:List D} {h:Int} (hh:h=(xs.length:Int)) (hk:es[k]? =some (.arr e' s xs)) (ht:P.underlying t=some (.slice e)) (hT:Ty P e agg size)
 (ho:o.op=.slice t x none (some y) (some z)):bK P o [(x,.aK k),(y,.d (eI h)),(z,.d (eI h))] es (.qR k) es:=
 .pure fun ok H a w hent hl hn=>by
  obtain⟨hd,hhd,hok⟩:=jy hent hl hk;have hx:=oV (hn (x,.aK k) (by simp)) hhd;have hy:=(hn (y,.d (eI h)) (by simp)).lit;have hz:=(hn (z,.d (eI h)) (by simp)).lit;simp only at hx hy hz;obtain⟨_,_,zs,⟨_,hown⟩,_⟩:=hok;obtain⟨v,s0⟩:=hd;simp only at hown hx;subst hh
  have key:∃ad cap,v=.slice ad xs.length cap∧xs.length≤cap∧ad.map (·.add 0)=ad:=by
   rcases hown with⟨rfl,h1⟩|⟨g,cap,_,rfl,_,_,h1,_⟩
   ·exact⟨none,0,by rw[h1],by omega,rfl⟩
   exact⟨_,cap,rfl,h1,by simp[Addr.add]⟩
  obtain⟨ad,cap,rfl,h1,h2⟩:=key;have hrun:=adJ (P:=P) (n:=xs.length) (ad:=ad) (w:=w) ht hT (m:=xs.length) (cap:=cap) h1;have hi:(if xs.length=0 then ad else ad.map (·.add 0))=ad:=by split<;>simp[h2]
  rw[hi]at hrun;refine⟨.slice ad xs.length xs.length,?_,.qR k ad _ cap s0 hhd⟩;simp only[execOp,ho,Option.map_none,Option.map_some,hx,hy,hz,Instr.sliceAt];have hu:(underlying t).run P w=.ok (.slice e) w:=by simp[underlying,ht]
  simp only[Sem.run_bind,Sem.run_map,Sem.run_pure,hu,hrun,Result.andThen_ok]
theorem ai2 {C:Cx} {ok:Nat→Prop} {H:List Hd} {w:World} (hm:Mem C ok H es w) {t ty e:TypeId} {size bytes k:Nat} {xs ys:List D} (hE:El P t e size bytes) (hk:es[k]? =some (.arr e size xs))
 {v x:Value} (hv:R ok w H (.qR k) v) {news:List Value} (hsrc:Src w x ys.length size news) (hnews:Rs ok w H (flat ys) news) (hys:∀y∈ys,y.cells.length=size) (hb:(xs.length+ys.length)*bytes≤140737488355328) (hn:xs.length+ys.length≤maxLen):
 ∃v' w' H',(Builtin.append_ #[t,t] ty #[v,x]).run P w=.ok v' w'∧Grow ok w ok w'∧Names H H'∧Mem C ok H' (es.set k .dead++[.arr e size (xs++ys)]) w'∧R ok w' H' (.aK es.length) v':=by
 obtain⟨h,hh,hok⟩:=jy hm.ent hm.hlen hk;obtain⟨h1,h2,zs,hown0,hrs⟩:=hok
 have key:lY w e size v xs.length zs∧eG v=eG h.v:=by
  cases hv with
  |qR _ ad n cap s hH=>
   rw[hh]at hH;obtain rfl:=Option.some.inj hH;rcases hown0.2 with⟨q1,q2⟩|⟨g,cap',cur,q1,q2,q3,q4,q5,q6,q7⟩
   ·simp only[Value.slice.injEq]at q1;obtain⟨rfl,rfl,rfl⟩:=q1;exact⟨⟨hown0.1,.inl ⟨rfl,q2⟩⟩,rfl⟩
   simp only[Value.slice.injEq]at q1;obtain⟨rfl,rfl,rfl⟩:=q1;exact⟨⟨hown0.1,.inr ⟨g,xs.length,cur,rfl,q2,q3,Nat.le_refl _,Nat.le_trans q4 q5,Nat.le_trans (Nat.mul_le_mul_right _ q4) q6,q7⟩⟩,rfl⟩
 obtain⟨hown,hbk⟩:=key;obtain⟨v',w',hr,ho',hg,hblk⟩:=adw (P:=P) (ty:=ty) hE hown hsrc hb hn
 obtain⟨h3,h4⟩:=hm.turn (h':=⟨v',size⟩) (e:=.arr e size (xs++ys)) hk rfl hh hg.os hg.tape hg.output hg.size (fun c hc hne=>hg.block c hc (by rw[WS hown,hbk];exact fun e=>hne e.symm)) (fun g hg'=>⟨O6 ho' hg',(hblk g hg').imp (fun h=>hbk▸h) id⟩) (fun hgr=>by
  refine⟨rfl,fun y hy=>?_,zs++news,by simpa using ho',?_⟩
  ·rcases List.mem_append.1 hy with h|h
   ·exact h2 y h
   exact hys y h
  have a1:=hrs.mono hgr (Names.push H [⟨v',size⟩]);have a2:=hnews.mono hgr (Names.push H [⟨v',size⟩]);rw[L9]
  exact ahn a1 a2)
 refine⟨v',w',_,hr,h4,Names.push _ _,h3,?_⟩;have hH:(H++[(⟨v',size⟩:Hd)])[es.length]? =some ⟨v',size⟩:=by rw[←hm.hlen];simp
 rcases ho'.2 with⟨rfl,_⟩|⟨g',c',_,rfl,_⟩
 ·exact .aK _ _ _ _ size hH
 exact .aK _ _ _ _ size hH
theorem alO {α:Type} {s x:Operand} {t e:TypeId} {size bytes k:Nat} (enc:α→D) {l m r:List α} (h:gK bytes l m=some r) (hE:El P t e size bytes) (hk:es[k]? =some (.arr e size (l.map enc))) (hc:∀a,(enc a).cells.length=size) (hb:0<bytes)
 (ho:o.op=.call { callee:=.builtin .append,args:=#[s,x],argTypes:=#[t,t] }):
 bK P o [(s,.qR k),(x,.d (eL enc m))] es (.aK es.length) (es.set k .dead++[.arr e size (r.map enc)]):=by
 obtain⟨rfl,h2⟩:=SI h;refine .eff fun C ok H a w hm hn'=>?_;have h1:=(mem2 hn').1;have h3:=(mem2 hn').2;simp only at h1 h3;have h3':RD ok w (.sl (m.map enc)) (a.eval x):=by cases h3 with |d _ _ h=>exact h
 have hys:∀y∈m.map enc,y.cells.length=size:=fun y hy=>by obtain⟨a,_,rfl⟩:=List.mem_map.1 hy;exact hc a
 obtain⟨news,hsrc,hrs⟩:=KJ H h3' hys;obtain⟨v',w',H',hr,r1,r2,r3,r4⟩:=ai2 (ty:=o.type) hm hE hk h1 hsrc hrs hys (by simpa using h2) (by simpa using Qi hb h2);rw[←List.map_append]at r3;refine⟨v',w',ok,H',.inl ?_,r1,r2,r3,r4⟩;simp[execOp,ho,resolve,invoke,builtin,hr]
theorem ap2 {ok:Nat→Prop} {w:World} {H:List Hd} {t ty e:TypeId} {size bytes:Nat} (hE:El P t e size bytes) {xs ys:List D} {v x:Value} (hv:R ok w H (.clip xs) v) (hxs:∀y∈xs,y.cells.length=size) {news:List Value} (hsrc:Src w x ys.length size news) (hpos:0<ys.length)
 (hb:(xs.length+ys.length)*bytes≤140737488355328) (hn:xs.length+ys.length≤maxLen):
 ∃olds v' w',Rs ok w H (flat xs) olds∧(Builtin.append_ #[t,t] ty #[v,x]).run P w=.ok v' w'∧w'.ownsRow w.heap.size e size v' (xs.length+ys.length) (olds++news)∧w.grownBy w' none:=by
 obtain⟨i,z,hi,hz,hs,hby,hzs⟩:=hE.info;cases hv with
 |clip _ ad hD=>
  obtain⟨olds,ho,hrs⟩:=KJ H hD hxs;rcases hsrc.at_ with⟨ad',c,rfl,hcells⟩|⟨c,rfl,h0⟩
  ·rcases ho.at_ with⟨ad2,c2,h1,h2⟩|⟨c2,h1,h2⟩
   ·simp only[Value.slice.injEq]at h1;obtain⟨rfl,_,rfl⟩:=h1;obtain⟨v',w',r1,r2,r3⟩:=run_append_arg_grows (P:=P) w t ty e i z size bytes hE.und hi hz hs hby hzs hE.pos ad2 xs.length xs.length olds ho.len h2 ad' ys.length c news hsrc.len hcells (by omega) hn hb;exact⟨olds,v',w',hrs,r1,r2,r3⟩
   simp only[Value.slice.injEq]at h1;obtain⟨rfl,_,_⟩:=h1;have hx:olds=[]:=List.eq_nil_of_length_eq_zero (by rw[ho.len,h2];simp);subst hx;rw[h2]at hn hb ⊢;obtain⟨v',w',r1,r2,r3,_⟩:=run_append_own (P:=P) w w.heap.size t ty e i z size bytes hE.und hi hz hs hby hzs hE.pos _ 0 [] (World.ownsRow_nil w w.heap.size e size) ad' ys.length c news hsrc.len hcells hsrc.one hn hb (Nat.le_refl _);exact⟨[],v',w',hrs,r1,r2,r3⟩
  omega
theorem aoi {ok:Nat→Prop} {w':World} {H:List Hd} {base e size:Nat} {v':Value} {xs ys:List D} {olds news:List Value} (h:w'.ownsRow base e size v' (xs.length+ys.length) (olds++news)) (h1:Rs ok w' H (flat xs) olds) (h2:Rs ok w' H (flat ys) news) (hxs:∀y∈xs,y.cells.length=size) (hys:∀y∈ys,y.cells.length=size):
 iL ok w' H ⟨v',size⟩ (.arr e size (xs++ys)):=by
 refine⟨rfl,fun y hy=>?_,olds++news,?_,?_⟩
 ·rcases List.mem_append.1 hy with h|h
  ·exact hxs y h
  exact hys y h
 ·have:=lY.of h;simpa using this
 rw[L9];exact ahn h1 h2
theorem akQ {w':World} {base e size n:Nat} {v':Value} {zs:List Value} (h:w'.ownsRow base e size v' n zs):∀g,eG v'=some g→base≤g∧g<w'.heap.size:=by
 intro g hg;rcases h.2 with⟨rfl,_⟩|⟨g',_,_,rfl,h1,h2,_⟩
 ·simp[eG]at hg
 simp[eG]at hg;subst hg;exact⟨h1,(Array.getElem?_eq_some_iff.1 h2).1⟩
theorem ai3 {α:Type} {s x:Operand} {t e:TypeId} {size bytes:Nat} (enc:α→D) {l m r:List α} (h:gK bytes l m=some r) (hE:El P t e size bytes) (hc:∀a,(enc a).cells.length=size) (hb:0<bytes)
 (ho:o.op=.call { callee:=.builtin .append,args:=#[s,x],argTypes:=#[t,t] }):
 bK P o [(s,.clip (l.map enc)),(x,.d (eL enc m))] es (.d (eL enc r)) es:=by
 obtain⟨rfl,h2⟩:=SI h;refine .eff fun C ok H a w hm hn'=>?_;have h1:=(mem2 hn').1;have h3:=(mem2 hn').2;simp only at h1 h3;have h3':RD ok w (.sl (m.map enc)) (a.eval x):=by cases h3 with |d _ _ h=>exact h
 have hxs:∀y∈l.map enc,y.cells.length=size:=fun y hy=>by obtain⟨a,_,rfl⟩:=List.mem_map.1 hy;exact hc a
 have hys:∀y∈m.map enc,y.cells.length=size:=fun y hy=>by obtain⟨a,_,rfl⟩:=List.mem_map.1 hy;exact hc a
 obtain⟨news,hsrc,hrs⟩:=KJ H h3' hys;by_cases hm0:m=[]
 ·subst hm0;obtain⟨i,z,hi,hz,hs,hby,hzs⟩:=hE.info;have hnews:news=[]:=List.eq_nil_of_length_eq_zero (by rw[hsrc.len];simp);subst hnews;generalize hv:a.eval s=v at h1;generalize hu:a.eval x=u at hsrc;cases h1 with
  |clip _ ad hD=>
   refine⟨_,w,ok,H,.inl ?_,.refl _ _,.refl _,hm,.d _ _ (by rw[List.append_nil];exact hD)⟩;have hL:∀w:World,((underlying t).run P w=.ok (.slice e) w):=fun w=>by simp[underlying,hE.und]
   rcases hsrc.at_ with⟨ad',c,rfl,_⟩|⟨c,rfl,_⟩
   ·cases ad with
    |none=>simp[execOp,ho,resolve,invoke,builtin,hv,hu,Builtin.append_,hL,sizeOf,typeInfo,hi,Builtin.lenOf,Builtin.firstCells,loadCells,loadCellsFrom]
    |some ad=>simp[execOp,ho,resolve,invoke,builtin,hv,hu,Builtin.append_,hL,sizeOf,typeInfo,hi,Builtin.lenOf,Builtin.firstCells,loadCells,loadCellsFrom,storeCells]
   cases ad with
   |none=>simp[execOp,ho,resolve,invoke,builtin,hv,hu,Builtin.append_,hL,sizeOf,typeInfo,hi,Builtin.lenOf,Builtin.firstCells]
   |some ad=>simp[execOp,ho,resolve,invoke,builtin,hv,hu,Builtin.append_,hL,sizeOf,typeInfo,hi,Builtin.lenOf,Builtin.firstCells,storeCells]
 obtain⟨olds,v',w',r0,r1,r2,r3⟩:=ap2 (P:=P) (ty:=o.type) hE h1 hxs hsrc (by simpa using List.length_pos_iff.2 hm0) (by simpa using h2) (by simpa using Qi hb h2);have hblk:=akQ r2;obtain⟨m1,g1⟩:=hm.change (ok':=fun b=>ok b∨eG v'=some b) (H':=H) (es':=es) (w':=w') (fun _=>False) r3.os r3.tape r3.output r3.size (fun b hb _=>r3.block b hb (by simp)) (fun _ h=>h.elim) (fun _ h=>.inl h) (fun b h=>h.imp id fun h=>hblk b h) (.refl _) hm.hlen (fun k e h he hh=>.inl ⟨he,hh,fun _ _ _ h=>h⟩);have g0:Grow ok w ok w':=fun b hb=>⟨hb,(g1 b hb).2⟩
 have hE':=aoi r2 (r0.mono g0 (.refl _)) (hrs.mono g0 (.refl _)) hxs hys;refine⟨v',w',_,H,.inl (by simp[execOp,ho,resolve,invoke,builtin,r1]),g1,.refl _,m1,.d _ _ ?_⟩;have:=DI hE' (ok':=fun b=>ok b∨eG v'=some b) (fun _ h=>.inl h) (fun _ h=>.inr h)
 rwa [←List.map_append]at this
end
def D.plain:D→Bool
 | .lit _=>true
 | .agg cs=>cs.all fun c=>match c with | .lit _=>true|_=>false
 |_=>false
theorem amy {ok ok':Nat→Prop} {w w':World} {H H':List Hd} {xs:List D} {vs:List Value} (hp:∀x∈xs,x.plain=true) (h:Rs ok w H (flat xs) vs):Rs ok' w' H' (flat xs) vs:=by
 refine⟨h.1,fun i hi=>⟨(h.2 i hi).1,?_⟩⟩;have hR:=(h.2 i hi).2;have hm:(flat xs).getD i .junk∈flat xs:=by simp[List.getD,hi]
 generalize(flat xs).getD i .junk=y at hR hm;unfold flat at hm;simp only[List.mem_flatMap,List.mem_map]at hm;obtain⟨x,hx,c,hc,rfl⟩:=hm;have hpx:=hp x hx
 have hlit:∃u,c=.lit u:=by
  cases x with
  |lit u=>simp[D.cells]at hc;exact⟨u,hc⟩
  |agg cs=>
   simp only[D.cells]at hc;simp only[D.plain,List.all_eq_true]at hpx;have:=hpx c hc;cases c with
   |lit u=>exact⟨u,rfl⟩
   |_=>simp at this
  |_=>cases hpx
 obtain⟨u,rfl⟩:=hlit;rw[hR.lit];exact .d _ _ (.lit u)
theorem aho {P:Program} {o:Oper} {es:List bn} {f:FuncId} {ops:Array Operand} {dI dK:List AV} {e s:Nat} {xs:List D} (hr:Runs P f dK [] (.aK 0) [.arr e s xs]) (hp:∀x∈xs,x.plain=true) (ha:KL es dI dK) (hl:ops.toList.length=dI.length)
 {C:Cx} {ok:Nat→Prop} {H:List Hd} {a:Act} {w:World} (hm:Mem C ok H es w) (hn:∀n∈fV ops.toList dI,R ok w H n.2 (a.eval n.1)):
 Calls P f (ops.toList.map a.eval).toArray w fun e' w'=>∃v,e'=.returned v∧w.grownBy w' none∧(∀g,eG v=some g→w.heap.size≤g∧g<w'.heap.size)∧Value.isSlice v=true∧∀ok2 H2,iL ok2 w' H2 ⟨v,s⟩ (.arr e s xs):=by
 let okA:Nat→Prop:=fun b=>b<w.heap.size
 have hmc:Mem ⟨w,okA,[],[]⟩ okA [] [] w:=
  ⟨.refl _ _,fun _ h=>h,fun _ h=>.inl h,fun _ h=>h,.refl _,rfl,fun k e h he _=>by simp at he,fun k e h b he=>by simp at he,fun k k' e e' h h' b he=>by simp at he⟩
 refine(hr okA [] [] w _ hmc (by simp[hl,abS ha]) (fun i hi=>?_)).mono ?_
 ·obtain⟨op,x,ho',hmem,harg⟩:=aiN hl ha i hi;have hR:=hn _ hmem
  have e1:(ops.toList.map a.eval).toArray.getD i undef=a.eval op:=by
   obtain⟨h1,h2⟩:=List.getElem?_eq_some_iff.1 ho';have h3:i<ops.size:=by simpa using h1
   have h4:ops[i]=op:=by simpa using h2
   simp[Array.getD,h3,h4]
  rw[e1];simp only at hR;generalize dK.getD i .junk=y at harg;generalize a.eval op=u at hR;cases x with
  |d x=>
   obtain rfl:=harg;cases hR with |d _ _ h=>exact .d _ _ (h.mono (fun b hb=>⟨hm.jH b hb,rfl⟩))
  |aK k=>
   obtain⟨e',s,xs,hk,rfl⟩:=harg;obtain⟨h,hh,hok⟩:=jy hm.ent hm.hlen hk;obtain rfl:=oV hR hh;exact .d _ _ (DI hok (fun b hb=>hm.jH b hb) (fun b hb=>(hm.blk k _ h b hk rfl hh hb).2.1))
  |_=>exact harg.elim
 rintro e' w' ⟨v,ok',H',rfl,hm',hR⟩;have hg:w.grownBy w' none:=⟨hm'.fr.os,hm'.fr.tape,hm'.fr.output,hm'.fr.size,fun b hb _=>hm'.fr.block b hb (by simp)⟩
 have hl':H'.length=1:=hm'.hlen
 match H',hl' with
 | [hd],_=>
   obtain rfl:=oV hR (h:=hd) rfl;have hok:=hm'.ent 0 _ hd rfl rfl;have hb:=fun b hb=>hm'.blk 0 _ hd b rfl rfl rfl hb;obtain⟨q1,q2,zs,q3,q4⟩:=hok;obtain⟨v,s0⟩:=hd;simp only at q1 hb q3;subst q1;refine⟨v,rfl,hg,fun g hg'=>?_,?_,fun ok2 H2=>⟨rfl,q2,zs,q3,amy hp q4⟩⟩
   ·obtain⟨_,r2,r3⟩:=hb g hg';rcases r3 with r3|r3
    ·exact⟨r3,r2⟩
    simp at r3
   rcases q3.2 with⟨rfl,_⟩|⟨g',c',_,rfl,_⟩<;>rfl
theorem vK {P:Program} {o:Oper} {es:List bn} {f:FuncId} {ops:Array Operand} {ats:Array TypeId} {dI dK:List AV} {e s:Nat} {xs:List D} (hr:Runs P f dK [] (.aK 0) [.arr e s xs]) (hp:∀x∈xs,x.plain=true) (hf:aF P f=true) (ha:KL es dI dK) (hl:ops.toList.length=dI.length)
 (ho:o.op=.call { callee:=.value (.func f),args:=ops,argTypes:=ats }):bK P o (fV ops.toList dI) es (.aK es.length) (es++[.arr e s xs]):=by
 intro C ok H a w Q hm hn;unfold Oper.wp;rw[Gt ho,oC hf,Oper.upon_enter];have e0:ops.map a.eval=(ops.toList.map a.eval).toArray:=by apply Array.ext';simp
 rw[e0];refine(aho (o:=o) hr hp ha hl hm hn).mono ?_;rintro e' w' ⟨v,rfl,hg,hb,hsl,hE⟩;obtain⟨m1,g1⟩:=hm.awD (v':=v) (size:=s) (e:=.arr e s xs) hg hb (fun _=>hE _ _);refine⟨v,ok,_,rfl,g1,Names.push _ _,m1,?_⟩;have hH:(H++[(⟨v,s⟩:Hd)])[es.length]? =some ⟨v,s⟩:=by rw[←hm.hlen];simp
 cases v with
 |slice ad n c=>exact .aK _ _ _ _ s hH
 |_=>cases hsl
theorem ai4 {P:Program} {o:Oper} {es:List bn} {f:FuncId} {ops:Array Operand} {ats:Array TypeId} {dI dK:List AV} {e s:Nat} {xs:List D} (hr:Runs P f dK [] (.aK 0) [.arr e s xs]) (hp:∀x∈xs,x.plain=true) (hf:aF P f=true) (ha:KL es dI dK) (hl:ops.toList.length=dI.length)
 (ho:o.op=.call { callee:=.value (.func f),args:=ops,argTypes:=ats }):bK P o (fV ops.toList dI) es (.d (.sl xs)) es:=by
 intro C ok H a w Q hm hn;unfold Oper.wp;rw[Gt ho,oC hf,Oper.upon_enter];have e0:ops.map a.eval=(ops.toList.map a.eval).toArray:=by apply Array.ext';simp
 rw[e0];refine(aho (o:=o) hr hp ha hl hm hn).mono ?_;rintro e' w' ⟨v,rfl,hg,hb,hsl,hE⟩;obtain⟨m1,g1⟩:=hm.change (ok':=fun b=>ok b∨eG v=some b) (H':=H) (es':=es) (w':=w') (fun _=>False) hg.os hg.tape hg.output hg.size (fun b hb' _=>hg.block b hb' (by simp)) (fun _ h=>h.elim) (fun _ h=>.inl h) (fun b h=>h.imp id fun h=>hb b h) (.refl _) hm.hlen (fun k e h he hh=>.inl ⟨he,hh,fun _ _ _ h=>h⟩);exact⟨v,_,H,rfl,g1,.refl _,m1,.d _ _ (DI (hE ok H) (fun _ h=>.inl h) (fun _ h=>.inr h))⟩
theorem amA {F:Fence} {n:Nat} {P:Program} {Q:Exit→Act→World→Prop} {a:Act} {w:World} {c:Code} (h:c.wpIn F n P (Exit.noGoto Q) a w):(Code.scope c).wpIn F n P Q a w:=by
 intro b k cs hro hb hr;have h0:(lone (b.atR a (.code (.scope c)::k)) cs w).fenced P F:=fenced_calm hb hr rfl;have s1:step P (lone (b.atR a (.code (.scope c)::k)) cs w)=.next (lone (b.atR a (.code c::.inScope c::k)) cs w):=step_lone_go (by simp[stepG,stepG.exec,Frame.atR]);obtain⟨e,a₁,w₁,hq,harr⟩:=h b (.inScope c::k) cs hro hb hr;cases e with
 |normal=>exact⟨.normal,a₁,w₁,hq,.head h0 s1 (StepsIn.trans harr (.one (fenced_calm hb hr rfl) (step_lone_go (by simp[stepG,stepG.exec,Frame.atR]))))⟩
 |exit id=>
  have hx:exitTo id (.inScope c::k)=exitTo id k:=by simp[exitTo]
  exact⟨.exit id,a₁,w₁,hq,fun k' hk=>.head h0 s1 (harr.1 k' (by rw[hx];exact hk)),fun hr' hk=>let⟨k₁,h1,h2⟩:=harr.2 hr' (by rw[hx];exact hk);⟨k₁,h1,.head h0 s1 h2⟩⟩
 |goto l=>exact hq.elim
 |ret=>exact⟨_,a₁,w₁,hq,.of_steps (.one h0 s1) harr⟩
 |panic ch=>exact⟨_,a₁,w₁,hq,.of_steps (.one h0 s1) harr⟩
 |outgrown=>exact⟨_,a₁,w₁,hq,.of_steps (.one h0 s1) harr⟩
def asD (Q:Exit→St→Prop):Exit→St→Prop
 | .goto _,_=>False
 |e,σ=>Q e σ
theorem SP.scope {P:Program} {σ:St} {Q:Exit→St→Prop} {c:Code} (h:SP P c σ (asD Q)):SP P (.scope c) σ Q:=⟨fun ro hr C ok H a w hh=>
 amA (wpIn_mono (h.run ro (hr.imp id fun h=>h) C ok H a w hh) (by
  rintro e a' w' ⟨ok',H',σ',h1,h2⟩;cases e with
  |goto l=>exact h2.elim
  |_=>exact⟨ok',H',σ',h1,h2⟩))⟩
def arM (P:Program) (f:FuncId) (args:List AV) (u:Value):Prop:=
 ∀(ok:Nat→Prop) (X:List Nat) (H:List Hd) (w:World) (vals:Array Value),Mem ⟨w,ok,X,H⟩ ok H [] w→vals.size=args.length→(∀i,i<args.length→R ok w H (args.getD i .junk) (vals.getD i undef))→
  Calls P f vals w fun e w'=>∃ok' H',e=.panicked [{ v:=u,recovered:=false }]∧Mem ⟨w,ok,X,H⟩ ok' H' [] w'
def CX {Rr:Type} (P:Program) (f:FuncId) (args:List AV) (r:Except Value Rr) (res:Rr→AV):Prop:=(∀x,r=.ok x→Runs P f args [] (res x) [])∧∀u,r=.error u→arM P f args u
def axA {Rr:Type} (P:Program) (fn:Func) (r:Except Value Rr) (res:Rr→AV) (e:Exit) (σ:St):Prop:=
 (∃x,r=.ok x∧at1 P fn (res x) [] e σ)∨∃u,r=.error u∧e=Vx u∧σ.base=0
theorem XT {P:Program} {fn:Func} {Rr:Ending→World→Prop} {C:Cx} {ch:List PanicEntry} (hC:∀b,C.ok0 b→b<C.w0.heap.size) {H:List Hd} {σ:St}
 (hR:∀ok a w,Holds C ok H σ a w→Rr (.panicked ch) w) {tmps:Array Value}:∀(Ds:List Nat) {ok:Nat→Prop} {a:Act} {w:World},Holds C ok H σ a w→(∀d∈Ds,ok d∧C.w0.heap.size≤d∧w.heap[d]? =some (.deferred (some [])))→Ds.Nodup→
  LeavesInM (FW none) 0 P fn tmps Rr (Ds.map fun D=>{ target:=.collected D,args:=#[] }) (.panicking ch) w
 | [],ok,a,w,h,_,_=>hR ok a w h
 |D::Ds,ok,a,w,h,hd,hn=>by
  obtain⟨ok',h',hd'⟩:=h.take hC (fun d hdm=>hd d (List.mem_cons_of_mem _ hdm)) (hd D (List.mem_cons_self ..)) hn;have h2:=XT (P:=P) (fn:=fn) (tmps:=tmps) hC hR Ds h' hd' (List.nodup_cons.1 hn).2;exact⟨by simp,.inl ⟨D,_,rfl,run_takeDeferred (hd D (List.mem_cons_self ..)).2.2,h2⟩⟩
theorem Mem.none {C:Cx} {ok:Nat→Prop} {H:List Hd} {es:List bn} {w:World} (hm:Mem C ok H es w) (h0:C.H0=[]):Mem C ok [] [] w:=
 ⟨hm.fr,hm.rP,hm.rQ,hm.jH,by rw[h0];exact .refl _,rfl,fun k e h he=>by simp at he,fun k e h b he=>by simp at he,fun k k' e e' h h' b he=>by simp at he⟩
theorem CX.aH {Rr:Type} {P:Program} {f:FuncId} {fn:Func} {c:Code} {args:List AV} {r:Except Value Rr} {res:Rr→AV} (hf:P.funcs[f]? =some fn) (hb:fn.body=some c)
 (h:SP P c (.enter args fn.ntmps []) (axA P fn r res)):CX P f args r res:=by
 refine⟨fun x hx=>Runs.aH hf hb (h.mono fun e σ hq=>?_),fun u hu=>?_⟩
 ·rcases hq with⟨x',h1,h2⟩|⟨u,h1,_⟩
  ·rw[hx]at h1;cases h1;exact h2
  rw[hx]at h1;cases h1
 intro ok X H w vals hm hs ha;have hH:H=[]:=List.eq_nil_of_length_eq_zero hm.hlen;refine(WL (ro:=none) (n:=0)).1 (callsIn_of_wp_marks hf hb trivial (wpIn_mono (h.run none (.inl rfl) ⟨w,ok,X,H⟩ ok H _ w ?_) ?_) rfl)
 ·refine⟨hm,by simp[St.enter,hs],.nil _ _ _,hm.hlen,fun t ht=>?_⟩;simp only[St.enter];by_cases e:t<args.length
  ·have e1:(args++List.replicate (fn.ntmps-args.length) AV.junk).getD t .junk=args.getD t .junk:=by simp[List.getD,List.getElem?_append_left e]
   have e2:(vals++Array.replicate (fn.ntmps-vals.size) undef).getD t undef=vals.getD t undef:=by
    simp[Array.getD_eq_getD_getElem?,Array.getElem?_append_left (show t<vals.size by omega)]
   rw[e1,e2];exact ha t e
  have e1:(args++List.replicate (fn.ntmps-args.length) AV.junk).getD t .junk=.junk:=by
   simp only[List.getD,List.getElem?_append_right (Nat.le_of_not_lt e),List.getElem?_replicate];split<;>rfl
  rw[e1];exact .junk _
 rintro e a' w' ⟨ok',H',σ',h1,h2⟩;rcases h2 with⟨x,h3,_⟩|⟨u',h3,rfl,_⟩
 ·rw[hu]at h3;cases h3
 rw[hu]at h3;cases h3;obtain⟨Ds,hDs,hnd,hds⟩:=h1.defers;show LeavesInM (FW none) 0 P fn a'.tmps _ a'.defers (.panicking _) w';rw[hDs];exact XT (P:=P) (C:=⟨w,ok,X,H⟩) hm.jH (fun ok2 a2 w2 h4=>⟨ok2,[],rfl,h4.mem.none hH⟩) Ds h1 hds hnd
section
variable {P : Program} {ops : Array Oper} {o : Oper} {rest l : List Oper} {σ : St} {K : Exit → St → Prop}
theorem LP.panic {x:Operand} {t:TypeId} {u:Value} (ho:o.op=.panic x) (hx:σ.get x=.d (.lit (.iface t u))) (hg:qo ops σ o.guard=some true) (h:K (Vx (.iface t u)) σ):LP P ops (o::rest) σ K:=by
 refine⟨fun ro l2 Q C ok H a w hh hk=>?_⟩;show wpListIn (FW ro) 0 P ops Q (o::(rest++l2)) a w;unfold wpListIn;rw[if_pos (lZ hh (jX hg))];have hv:=(hx▸hh.get x).lit;unfold Oper.wpIn;rw[Oper.semAt_eq _ _ _ (by rw[ho];intro c h;cases h)];have hr:(execOp a.eval o).run P w=.halt (.panic (.iface t u)) w:=by simp[execOp,ho,hv,Instr.panic,goPanic]
 rw[hr];exact⟨fun _ _=>trivial,hk.2 _ _ _ _ _ _ h hh⟩
end
end Go.Proofs.YtolgdkhlelfpoaaGreat
end
section
namespace Go.Proofs.YtolgdkhlelfpoaaGreat
open Go.RowKit
section
variable {P : Program} {ops : Array Oper}
theorem iK.auh (N:Nat) {l:List Oper} {σ σ':St} {rs:List AV} {ess:List (List bn)} {bs:List Bool} (h:iK P ops l σ rs ess bs σ') (σ0:St) (r:Nat→AV) (ev:Nat→List bn) (bar:Nat→Bool):∀i,(∀k:Nat,k<l.length→l[k]? =ops[i+k]?)→i+l.length=N→σ=iC ops σ0 r ev i→
 (∀(k:Nat) y,rs[k]? =some y→r (i+k)=y)→(∀(k:Nat) y,ess[k]? =some y→ev (i+k)=y)→(∀(k:Nat) y,bs[k]? =some y→bar (i+k)=y)→
 (∀j (o:Oper),i≤j→j<N→ops[j]? =some o→tK P ops (iC ops σ0 r ev j) (r j) (ev j) (bar j) o)∧σ'=iC ops σ0 r ev N:=by
 induction h with
 |nil σ=>
  intro i hl hsz hσ hr _ _;have :i=N:=by simpa using hsz
  subst this;exact⟨fun j o hij hjN ho=>by omega,hσ⟩
 | @op o rest σ σ' ns x rs ess bs d ho hn hg hd ht k ih=>
   intro i hl hsz hσ hr he hb;subst hd;have h0:ops[i]? =some o:=by simpa using(hl 0 (by simp)).symm
   have hx:r i=x:=by simpa using hr 0 x (by simp)
   have hev:ev i=σ.ents:=by simpa using he 0 σ.ents (by simp)
   obtain⟨h1,h2⟩:=ih (i+1) (fun k hk=>by have:=hl (k+1) (by simpa using hk);simpa[Nat.add_assoc,Nat.add_comm 1 k]using this) (by simp at hsz;omega) (by
    rw[St.PZ];simp only[iC,h0,hx,hev];rw[←hσ]) (fun k y hy=>by have:=hr (k+1) y (by simpa using hy);simpa[Nat.add_assoc,Nat.add_comm 1 k]using this)
    (fun k y hy=>by have:=he (k+1) y (by simpa using hy);simpa[Nat.add_assoc,Nat.add_comm 1 k]using this) (fun k y hy=>by have:=hb (k+1) y (by simpa using hy);simpa[Nat.add_assoc,Nat.add_comm 1 k]using this)
   refine⟨fun j o' hij hjN ho'=>?_,h2⟩;by_cases e:i=j
   ·subst e;rw[h0]at ho';obtain rfl:=Option.some.inj ho';exact⟨.inl ⟨ns,by rw[hx,hev,←hσ];exact ho,hσ▸hn,ht,hσ▸hg⟩,fun _=>by rw[hev,←hσ]⟩
   exact h1 j o' (by omega) hjN ho'
 | @oe o rest σ σ' ns x es' rs ess bs d E ho hE hn hg hd ht k ih=>
   intro i hl hsz hσ hr he hb;subst hd;subst hE;have h0:ops[i]? =some o:=by simpa using(hl 0 (by simp)).symm
   have hx:r i=x:=by simpa using hr 0 x (by simp)
   have hev:ev i=es':=by simpa using he 0 es' (by simp)
   have hbr:bar i=true:=by simpa using hb 0 true (by simp)
   obtain⟨h1,h2⟩:=ih (i+1) (fun k hk=>by have:=hl (k+1) (by simpa using hk);simpa[Nat.add_assoc,Nat.add_comm 1 k]using this) (by simp at hsz;omega) (by
    simp only[iC,h0,hx,hev];rw[←hσ]) (fun k y hy=>by have:=hr (k+1) y (by simpa using hy);simpa[Nat.add_assoc,Nat.add_comm 1 k]using this)
    (fun k y hy=>by have:=he (k+1) y (by simpa using hy);simpa[Nat.add_assoc,Nat.add_comm 1 k]using this) (fun k y hy=>by have:=hb (k+1) y (by simpa using hy);simpa[Nat.add_assoc,Nat.add_comm 1 k]using this)
   refine⟨fun j o' hij hjN ho'=>?_,h2⟩;by_cases e:i=j
   ·subst e;rw[h0]at ho';obtain rfl:=Option.some.inj ho';exact⟨.inl ⟨ns,by rw[hx,hev,←hσ];exact ho,hσ▸hn,ht,hσ▸hg⟩,fun hf=>by rw[hbr]at hf;cases hf⟩
   exact h1 j o' (by omega) hjN ho'
 | @any o rest σ σ' x rs ess bs d hs hd k ih=>
   intro i hl hsz hσ hr he hb;subst hd;have h0:ops[i]? =some o:=by simpa using(hl 0 (by simp)).symm
   have hx:r i=x:=by simpa using hr 0 x (by simp)
   have hev:ev i=σ.ents:=by simpa using he 0 σ.ents (by simp)
   obtain⟨h1,h2⟩:=ih (i+1) (fun k hk=>by have:=hl (k+1) (by simpa using hk);simpa[Nat.add_assoc,Nat.add_comm 1 k]using this) (by simp at hsz;omega) (by
    rw[St.PZ];simp only[iC,h0,hx,hev];rw[←hσ]) (fun k y hy=>by have:=hr (k+1) y (by simpa using hy);simpa[Nat.add_assoc,Nat.add_comm 1 k]using this)
    (fun k y hy=>by have:=he (k+1) y (by simpa using hy);simpa[Nat.add_assoc,Nat.add_comm 1 k]using this) (fun k y hy=>by have:=hb (k+1) y (by simpa using hy);simpa[Nat.add_assoc,Nat.add_comm 1 k]using this)
   refine⟨fun j o' hij hjN ho'=>?_,h2⟩;by_cases e:i=j
   ·subst e;rw[h0]at ho';obtain rfl:=Option.some.inj ho';refine⟨?_,fun _=>by rw[hev,←hσ]⟩;rw[hx,hev,←hσ];exact hs.1
   exact h1 j o' (by omega) hjN ho'
 | @WM o rest σ σ' x E br rs ess bs d hs hd k ih=>
   intro i hl hsz hσ hr he hb;subst hd;have h0:ops[i]? =some o:=by simpa using(hl 0 (by simp)).symm
   have hx:r i=x:=by simpa using hr 0 x (by simp)
   have hev:ev i=E:=by simpa using he 0 E (by simp)
   have hbr:bar i=br:=by simpa using hb 0 br (by simp)
   obtain⟨h1,h2⟩:=ih (i+1) (fun k hk=>by have:=hl (k+1) (by simpa using hk);simpa[Nat.add_assoc,Nat.add_comm 1 k]using this) (by simp at hsz;omega) (by
    simp only[iC,h0,hx,hev];rw[←hσ]) (fun k y hy=>by have:=hr (k+1) y (by simpa using hy);simpa[Nat.add_assoc,Nat.add_comm 1 k]using this)
    (fun k y hy=>by have:=he (k+1) y (by simpa using hy);simpa[Nat.add_assoc,Nat.add_comm 1 k]using this) (fun k y hy=>by have:=hb (k+1) y (by simpa using hy);simpa[Nat.add_assoc,Nat.add_comm 1 k]using this)
   refine⟨fun j o' hij hjN ho'=>?_,h2⟩;by_cases e:i=j
   ·subst e;rw[h0]at ho';obtain rfl:=Option.some.inj ho';rw[hx,hev,hbr,←hσ];exact hs
   exact h1 j o' (by omega) hjN ho'
 | @skip o rest σ σ' rs ess bs d hg hd k ih=>
   intro i hl hsz hσ hr he hb;subst hd;have h0:ops[i]? =some o:=by simpa using(hl 0 (by simp)).symm
   have hx:r i=.d (.lit undef):=by simpa using hr 0 (.d (.lit undef)) (by simp)
   have hev:ev i=σ.ents:=by simpa using he 0 σ.ents (by simp)
   obtain⟨h1,h2⟩:=ih (i+1) (fun k hk=>by have:=hl (k+1) (by simpa using hk);simpa[Nat.add_assoc,Nat.add_comm 1 k]using this) (by simp at hsz;omega) (by
    rw[St.PZ];simp only[iC,h0,hx,hev];rw[←hσ]) (fun k y hy=>by have:=hr (k+1) y (by simpa using hy);simpa[Nat.add_assoc,Nat.add_comm 1 k]using this)
    (fun k y hy=>by have:=he (k+1) y (by simpa using hy);simpa[Nat.add_assoc,Nat.add_comm 1 k]using this) (fun k y hy=>by have:=hb (k+1) y (by simpa using hy);simpa[Nat.add_assoc,Nat.add_comm 1 k]using this)
   refine⟨fun j o' hij hjN ho'=>?_,h2⟩;by_cases e:i=j
   ·subst e;rw[h0]at ho';obtain rfl:=Option.some.inj ho';exact⟨.inr ⟨hx,by rw[hev,←hσ],hσ▸hg⟩,fun _=>by rw[hev,←hσ]⟩
   exact h1 j o' (by omega) hjN ho'
theorem SP.awF {id:Nat} {σ σ':St} {Q:Exit→St→Prop} {rs:List AV} {ess:List (List bn)} {bs:List Bool} (N:Nat) (hNs:N+1=ops.size) (hm:P.follows .mixedOrders=true) (hcalm:(Aa ops&&IG ops&&BR ops σ.slots.length&&II ops)=true) (hbl:bs.length=N) (l7:Na ops (bs++[true])=true)
 (h:iK P ops (ops.toList.take N) σ rs ess bs σ') (hL:∀(ro:Option Nat) (C:Cx) (ok:Nat→Prop) (H:List Hd) (a:Act) (w:World),Holds C ok H σ' a w→wpOpIn (FW ro) 0 P ops (fun e a' w'=>∃ok' H' σ',Holds C ok' H' σ' a' w'∧Q e σ') N (fun a' w'=>∃ok' H' σ',Holds C ok' H' σ' a' w'∧Q .normal σ') a w):SP P (.region id ops true) σ Q:=by
 refine⟨fun ro _ C ok H a w hh=>?_⟩;simp only[Bool.and_eq_true]at hcalm;obtain⟨⟨⟨he,hd⟩,hs⟩,hc⟩:=hcalm;have IJ:=NM he;have hinj:=Ux hd;have hcalm:=Uz hc
 have CW:∀(i:Nat) (o:Oper) (d:Tmp),ops[i]? =some o→o.dst=some d→d<σ.slots.length:=by
  intro i o d h1 h2;unfold BR at hs;rw[List.all_eq_true]at hs;simpa using hs d (Uy h1 h2)
 let r:Nat→AV:=fun i=>rs.getD i .junk
 let ev:Nat→List bn:=fun i=>ess.getD i []
 let bar:Nat→Bool:=fun i=>(bs++[true]).getD i false
 have hbN:bar N=true:=by simp[bar,List.getD,←hbl]
 obtain⟨Dx,hend⟩:=h.auh N σ r ev bar 0 (fun k hk=>by
  simp only[List.length_take]at hk
  rw[List.getElem?_take_of_lt (by omega)];simp) (by simp;omega) rfl (fun k y hy=>by simp[r,List.getD,hy]) (fun k y hy=>by simp[ev,List.getD,hy]) (fun k y hy=>by have:=(List.getElem?_eq_some_iff.1 hy).1;simp only[bar,List.getD,Nat.zero_add,List.getElem?_append_left this,hy];rfl)
 let U:Nat→St:=iC ops σ r ev
 have hU:∀i,i<ops.size→(U (i+1)).ents=ev i:=by
  intro i hi;have ho:ops[i]? =some ops[i]:=by simp[hi]
  show(iC ops σ r ev (i+1)).ents=_;simp only[iC,ho];rfl
 have hconst:∀n lo,(∀b,lo≤b→b<lo+n→bar b=false)→lo+n≤N→(U (lo+n)).ents=(U lo).ents:=by
  intro n
  induction n with
  |zero=>intro lo _ _;rfl
  |succ n ih=>
   intro lo hb hle;have h1:=ih lo (fun b h1 h2=>hb b h1 (by omega)) (by omega);have hi:lo+n<ops.size:=by omega
   have ho:ops[lo+n]? =some ops[lo+n]:=by simp[hi]
   have h2:=(Dx (lo+n) _ (by omega) (by omega) ho).2 (hb (lo+n) (by omega) (by omega));rw[←Nat.add_assoc,hU _ hi,h2];exact h1
 have sO:∀lo hi,lo≤hi→hi≤N→(∀b,lo≤b→b<hi→bar b=false)→(U hi).ents=(U lo).ents:=by
  intro lo hi h1 h2 h3;obtain⟨n,rfl⟩:=Nat.exists_eq_add_of_le h1;exact hconst n lo h3 h2
 refine wpIn_region_any hm ?_
 let I:Array Bool→Act→World→Prop:=fun l a w=>l.size=ops.size∧l.getD N false=false∧∃ok H m,m≤N∧(∀b,bar b=true→b<ops.size→(l.getD b false=true↔b<m))∧Mem C ok H (U m).ents w∧a.tmps.size=σ.slots.length∧Marks C ok w a.defers∧
  (∀t,t<σ.slots.length→(∀(j:Nat) (o:Oper),ops[j]? =some o→o.dst=some t→l.getD j false=false)→R ok w H (σ.slots.getD t .junk) (a.tmps.getD t undef))∧
  (∀(i:Nat) (o:Oper) (d:Tmp),ops[i]? =some o→o.dst=some d→l.getD i false=true→R ok w H (r i) (a.tmps.getD d undef))∧
  (∀(j:Nat) (o:Oper),ops[j]? =some o→l.getD j false=true→∀i,jv o i=true→l.getD i false=true)
 let I2:Array Bool→Act→World→Prop:=fun l a w=>I l a w∨(l.size=ops.size∧(Region.ready .any ops l=[]∧∃ok' H' σ',Holds C ok' H' σ' a w∧Q .normal σ'))
 refine ED I2 (fun l a w h=>h.elim (fun h=>h.1) (fun h=>h.1)) ?_ ?_ ops.size _ _ _ ?_ ?_
 ·rintro l a w (⟨h1,hlN,ok,H,m,FU,oU,hmem0,hsz,hdf,h5,h6,h7⟩|⟨h1,h2,_⟩) i hi
  rotate_left
  ·rw[h2]at hi;simp at hi
  unfold Region.ready at hi;rw[List.mem_filter]at hi;obtain⟨hi1,hi2⟩:=hi;have hi':i<ops.size:=by simpa using hi1
  have ho:ops[i]? =some ops[i]:=by simp[hi']
  simp only[Bool.and_eq_true]at hi2;have Ac:=hi2.2;rw[ho]at Ac;simp only[Option.map_some,Option.getD_some]at Ac;have Qc:=fun e he=>(Array.all_eq_true_iff_forall_mem.1 Ac) e he
  have hdone:∀j,jv ops[i] j=true→l.getD j false=true∧j<i:=by
   intro j hj;unfold jv at hj;rw[List.any_eq_true]at hj;obtain⟨e,hee,hj⟩:=hj;simp only[Bool.and_eq_true,decide_eq_true_eq]at hj;have:=Qc e (by simpa using hee);simp only[hj.2,Bool.not_true,Bool.false_or]at this;rw[hj.1]at this;exact⟨this,hj.1▸IJ i _ ho e hee hj.2⟩
  have hself:l.getD i false=false:=by
   have h8:=hi2.1;have hil:i<l.size:=by omega
   simp[Array.getD,hil]at h8 ⊢;exact h8
  have qV:∀(j:Nat) (o:Oper),ops[j]? =some o→l.getD j false=true→∀m,jv o m=true→l.getD m false=true:=fun j o hj hl m hm=>h7 j o hj hl m hm
  have hmem:Mem C ok H (U i).ents w:=by
   have hE:(U i).ents=(U m).ents:=by
    by_cases him:i≤m
    ·refine(sO i m him FU (fun b h2 h3=>?_)).symm;rw[←Bool.not_eq_true];intro hb;have hbl:=(oU b hb (by omega)).2 h3;by_cases e:b=i
     ·subst e;rw[hself]at hbl;cases hbl
     have hob:ops[b]? =some (ops[b]'(by omega)):=by simp[show b<ops.size by omega]
     have:=rU l7 (show b<ops.size by omega) hb (D:=fun j=>l.getD j false=true) qV (fun o ho m hm=>qV b o ho hbl m hm) i (by omega);rw[hself]at this;cases this
    refine sO m i (by omega) (by omega) (fun b h2 h3=>?_);rw[←Bool.not_eq_true];intro hb;have:=SH l7 (show b<ops.size by omega) hb (D:=fun j=>l.getD j false=true) qV i h3 _ ho (fun m hm=>(hdone m hm).1);exact absurd ((oU b hb (by omega)).1 this) (by omega)
   rw[hE];exact hmem0
  by_cases hiN:i=N
  ·subst hiN;have arN:∀j,j<i→l.getD j false=true:=fun j hj=>rU l7 hi' hbN (D:=fun j=>l.getD j false=true) qV (fun o ho' m hm=>by rw[ho]at ho';obtain rfl:=Option.some.inj ho';exact(hdone m hm).1) j hj
   have hH:Holds C ok H σ' a w:=by
    subst hend;refine⟨hmem,by rw[pX];exact hsz,hdf,by rw[Ij];exact hh.base,fun t ht=>?_⟩;rw[pX]at ht;by_cases hw:∃(j:Nat) (o:Oper),ops[j]? =some o∧o.dst=some t
    ·obtain⟨j,o,hj,hjd⟩:=hw;have hjn:j<ops.size:=(Array.getElem?_eq_some_iff.1 hj).1;by_cases hji:j<i
     ·rw[uT hinj hj hjd ht i hji];exact h6 j o t hj hjd (arN j hji)
     have hje:j=i:=by omega
     subst hje;rw[qg j (fun j' o' hj' ho' hd'=>by have:=hinj j j' o o' t hj ho' hjd hd';omega)];exact h5 t ht (fun j' o' ho' hd'=>by have:=hinj j j' o o' t hj ho' hjd hd';subst this;exact hlN)
    have hw':∀(j:Nat) (o:Oper),ops[j]? =some o→o.dst≠some t:=fun j o h1 h2=>hw ⟨j,o,h1,h2⟩;rw[qg i (fun j o _ hj=>hw' j o hj)];exact h5 t ht (fun j o hj hjd=>absurd hjd (hw' j o hj))
   refine wpOpIn_mono (fun a' w' hx=>.inr ⟨by simp[h1],?_,hx⟩) (hL ro C ok H a w hH);unfold Region.ready;rw[List.filter_eq_nil_iff];intro j hj;have hjn:j<ops.size:=by simpa using hj
   have hdn:(l.setIfInBounds i true).getD j true=true:=by
    by_cases hji:j=i
    ·subst hji;simp[Array.getD,h1,hi']
    have:=arN j (by omega);simp only[Array.getD_eq_getD_getElem?,Array.getElem?_setIfInBounds_ne (Ne.symm hji)];have hjl:j<l.size:=by omega
    simp[Array.getD,hjl]at this;simp[hjl,this]
   rw[hdn];simp
  have hiN:i<N:=by omega
  have hread:∀t,t∈tmpsOf ops[i]→R ok w H ((iC ops σ r ev i).slots.getD t .junk) (a.tmps.getD t undef):=by
   intro t ht;by_cases hw:∃(j:Nat) (o:Oper),ops[j]? =some o∧o.dst=some t
   ·obtain⟨j,o,hj,hjd⟩:=hw;rcases(hcalm i _ ho).1 j o t hj hjd ht with hce|hce
    ·obtain⟨hdj,hji⟩:=hdone j hce;rw[uT hinj hj hjd (CW j o t hj hjd) i hji];exact h6 j o t hj hjd hdj
    have hij:i<j:=by
     unfold jv at hce;rw[List.any_eq_true]at hce;obtain⟨e,hee,hce⟩:=hce;simp only[Bool.and_eq_true,decide_eq_true_eq]at hce;exact hce.1▸IJ j _ hj e hee hce.2
    rw[qg i (fun j' o' hj' ho' hd'=>by have:=hinj j j' o o' t hj ho' hjd hd';omega)];refine h5 t (CW j o t hj hjd) (fun j' o' ho' hd'=>?_);have hjj:=hinj j j' o o' t hj ho' hjd hd';subst hjj;rw[←Bool.not_eq_true];intro hd;rw[h7 j o hj hd i hce]at hself;cases hself
   have hw':∀(j:Nat) (o:Oper),ops[j]? =some o→o.dst≠some t:=fun j o h1 h2=>hw ⟨j,o,h1,h2⟩;rw[qg i (fun j o _ hj=>hw' j o hj)];by_cases htn:t<σ.slots.length
   ·exact h5 t htn (fun j o hj hjd=>absurd hjd (hw' j o hj))
   rw[Ih htn];exact .junk _
  have Nb:∀j d v,jv ops[i] j=true→(ops[j]?).bind (·.dst)=some d→(iC ops σ r ev i).slots.getD d .junk=.d (.lit v)→yielded ops a.tmps j=(match v with | .bool b=>some b|_=>none):=by
   intro j d v hj hjd hb;cases hoj:ops[j]? with
   |none=>rw[hoj]at hjd;simp at hjd
   |some oj=>
    rw[hoj]at hjd;simp only[Option.bind_some]at hjd;obtain⟨hdj,hji⟩:=hdone j hj;have hdn:=CW j oj d hoj hjd;rw[uT hinj hoj hjd hdn i hji]at hb;have hv:=(hb▸h6 j oj d hoj hjd hdj).bool
    have hs:a.tmps[d]? =some v:=by
     have :d<a.tmps.size:=by rw[hsz];exact hdn
     simp[Array.getD,this]at hv;simp[this,hv]
    unfold yielded;rw[hoj];simp only[Option.bind_some,hjd,hs];cases v<;>rfl
  have hput:∀(x:AV) (v:Value) (ok':Nat→Prop) (H':List Hd) (w':World),x=r i→Grow ok w ok' w'→Names H H'→Mem C ok' H' (ev i) w'→R ok' w' H' x v→I2 (l.setIfInBounds i true) (a.put ops[i].dst v) w':=by
   intro x v ok' H' w' hx hgr hnm hmem' hR;subst hx
   have hother:∀(d t:Nat),ops[i].dst=some d→d≠t→(a.put ops[i].dst v).tmps.getD t undef=a.tmps.getD t undef:=by
    intro d t hd hne;rw[hd];exact KI hne
   obtain⟨m',adt,Vp,adu⟩:∃m',m'≤N∧(∀b,bar b=true→b<ops.size→((l.setIfInBounds i true).getD b false=true↔b<m'))∧Mem C ok' H' (U m').ents w':=by
    have hget:∀b,b≠i→(l.setIfInBounds i true).getD b false=l.getD b false:=fun b hb=>by
     simp only[Array.getD_eq_getD_getElem?,Array.getElem?_setIfInBounds_ne (Ne.symm hb)]
    have adv:(l.setIfInBounds i true).getD i false=true:=by simp[Array.getD,h1,hi']
    cases hbi:bar i with
    |false=>
     refine⟨m,FU,fun b hb hbs=>?_,?_⟩
     ·have hne:b≠i:=fun e=>by subst e;rw[hbi]at hb;cases hb
      rw[hget b hne];exact oU b hb hbs
     have h2:=(Dx i _ (by omega) hiN ho).2 hbi;rw[h2]at hmem'
     have hE:(U i).ents=(U m).ents:=by
      by_cases him:i≤m
      ·refine(sO i m him FU (fun b h2 h3=>?_)).symm;rw[←Bool.not_eq_true];intro hb;have hbl:=(oU b hb (by omega)).2 h3;by_cases e:b=i
       ·subst e;rw[hself]at hbl;cases hbl
       have:=rU l7 (show b<ops.size by omega) hb (D:=fun j=>l.getD j false=true) qV (fun o ho m hm=>qV b o ho hbl m hm) i (by omega);rw[hself]at this;cases this
      refine sO m i (by omega) (by omega) (fun b h2 h3=>?_);rw[←Bool.not_eq_true];intro hb;have:=SH l7 (show b<ops.size by omega) hb (D:=fun j=>l.getD j false=true) qV i h3 _ ho (fun m hm=>(hdone m hm).1);exact absurd ((oU b hb (by omega)).1 this) (by omega)
     rw[←hE];exact hmem'
    |true=>
     refine⟨i+1,by omega,fun b hb hbs=>?_,by rw[hU i hi'];exact hmem'⟩;by_cases e:b=i
     ·subst e;rw[adv];simp
     rw[hget b e];constructor
     ·intro hbl;apply Classical.byContradiction;intro hn;have:=rU l7 hbs hb (D:=fun j=>l.getD j false=true) qV (fun o ho m hm=>qV b o ho hbl m hm) i (by omega);rw[hself]at this;cases this
     intro hlt;exact rU l7 hi' hbi (D:=fun j=>l.getD j false=true) qV (fun o ho' m hm=>by rw[ho]at ho';obtain rfl:=Option.some.inj ho';exact(hdone m hm).1) b (by omega)
   refine .inl ⟨by simp[h1],by simpa only[Array.getD_eq_getD_getElem?,Array.getElem?_setIfInBounds_ne (show i≠N by omega)]using hlN,ok',H',m',adt,Vp,adu,by rw[size_put];exact hsz,by rw[WJ];exact hdf.mono hgr,?_,?_,?_⟩
   ·intro t ht hno
    have hne:ops[i].dst≠some t:=by
     intro e;have:=hno i _ ho e;simp[Array.getD,h1,hi']at this
    have hold:(a.put ops[i].dst v).tmps.getD t undef=a.tmps.getD t undef:=by
     cases hdi:ops[i].dst with
     |none=>rfl
     |some d=>exact hdi▸hother d t hdi (fun e=>hne (by rw[hdi,e]))
    rw[hold];refine(h5 t ht (fun j o hj hjd=>?_)).mono hgr hnm;have hij:i≠j:=fun e=>by subst e;rw[ho]at hj;obtain rfl:=Option.some.inj hj;exact hne hjd
    have:=hno j o hj hjd;simpa only[Array.getD_eq_getD_getElem?,Array.getElem?_setIfInBounds_ne hij]using this
   ·intro k o d hk hkd hl;by_cases hik:i=k
    ·subst hik;rw[ho]at hk;obtain rfl:=Option.some.inj hk;rw[hkd,NK (by rw[hsz];exact CW i _ d ho hkd)];exact hR
    have hl':l.getD k false=true:=by
     simp only[Array.getD_eq_getD_getElem?,Array.getElem?_setIfInBounds_ne hik]at hl ⊢;exact hl
    have:=(h6 k o d hk hkd hl').mono hgr hnm;cases hdst:ops[i].dst with
    |none=>exact this
    |some d'=>
     have hne:d'≠d:=fun e=>hik (hinj i k _ _ d' ho hk hdst (e▸hkd));rw[←hdst,hother d' d hdst hne];exact this
   intro j o hj hl k hk;have hil:i<l.size:=by omega
   by_cases hik:i=k
   ·subst hik;simp[Array.getD,hil]
   have hkk:l.getD k false=true:=by
    by_cases hij:i=j
    ·subst hij;rw[ho]at hj;obtain rfl:=Option.some.inj hj;exact(hdone k hk).1
    have hl':l.getD j false=true:=by
     simp only[Array.getD_eq_getD_getElem?,Array.getElem?_setIfInBounds_ne hij]at hl ⊢;exact hl
    exact h7 j o hj hl' k hk
   simp only[Array.getD_eq_getD_getElem?,Array.getElem?_setIfInBounds_ne hik]at hkk ⊢;exact hkk
  unfold wpOpIn;rw[ho];show if Region.wanted ops[i] (yielded ops a.tmps)=true then _ else _
  rcases(Dx i ops[i] (by omega) hiN ho).1 with⟨ns,hop,WO,hnt,hg⟩|⟨hx,hev,hg⟩
  ·have hwant:Region.wanted ops[i] (yielded ops a.tmps)=true:=by
    unfold Region.wanted;rcases hg with hg|⟨j,want,d,b,hg,hj,hb,rfl⟩
    ·rw[hg]
    rw[hg];show(yielded ops a.tmps j==some b)=true;rw[Nb j d _ ((hcalm i _ ho).2 j b hg) hj hb];simp
   rw[if_pos hwant];refine Oper.wpIn_mono ?_ (hop.Vo ro C ok H a w _ hmem (fun n hn=>?_))
   ·rintro a' w' ⟨v,ok',H',rfl,hgr,hnn,hm',hx⟩;exact hput _ v ok' H' w' rfl hgr hnn hm' hx
   have hnv:=nX WO n hn;obtain⟨x,y⟩:=n;simp only at hnv ⊢;subst hnv;cases x with
   |tmp t=>
    refine hread t ?_;rw[List.all_eq_true]at hnt
    have :t∈mZ ns:=by
     unfold mZ;rw[List.mem_filterMap];exact⟨_,hn,rfl⟩
    simpa using hnt t this
   |const v=>exact .d _ _ (.lit v)
   |global g=>exact .d _ _ (.lit _)
   |func f=>exact .d _ _ (.fn (.func f) [] [] #[] #[] rfl rfl (fun i hi=>by simp at hi) (fun i hi=>by simp at hi))
  have hwant:Region.wanted ops[i] (yielded ops a.tmps)=false:=by
   unfold Region.wanted;obtain⟨j,want,d,v,hg,hj,hb,hv⟩:=hg;rw[hg];show(yielded ops a.tmps j==some want)=false;rw[Nb j d _ ((hcalm i _ ho).2 j want hg) hj hb];rcases hv with rfl|rfl
   ·simp
   rfl
  rw[if_neg (by rw[hwant];simp)];exact⟨fun _ _=>trivial,hput _ _ ok H w hx.symm (.refl _ _) (.refl _) (by rw[hev];exact hmem) (.d _ _ (.lit _))⟩
 ·rintro l a w (⟨h1,hlN,ok,H,m,FU,oU,hmem,hsz,hdf,h5,h6,h7⟩|⟨h1,_,h2⟩) hr
  rotate_left
  ·exact h2
  have hall:∀n i,i<n→i<ops.size→l.getD i false=true:=by
   intro n
   induction n with
   |zero=>intro i hi;omega
   |succ n ih=>
    intro i hi hi2;by_cases hn:i<n
    ·exact ih i hn hi2
    have hin:i=n:=by omega
    subst hin;rw[←Bool.not_eq_false];intro hf;have ho:ops[i]? =some ops[i]:=by simp[hi2]
    have hmem:i∈Region.ready .any ops l:=by
     unfold Region.ready;rw[List.mem_filter];refine⟨by simpa using hi2,?_⟩;have hil:i<l.size:=by omega
     have hf':l.getD i true=false:=by simp[Array.getD,hil]at hf ⊢;exact hf
     rw[hf',ho];simp only[Bool.not_false,Bool.true_and,Option.map_some,Option.getD_some];rw[Array.all_eq_true_iff_forall_mem];intro e he;cases hbe:Region.binds .any e with
     |false=>simp
     |true=>
      have hlt:=IJ i _ ho e (by simpa using he) hbe;rw[ih e.on (by omega) (by omega)];simp
    rw[hr]at hmem;simp at hmem
  have:=hall (N+1) N (by omega) (by omega);rw[hlN]at this;cases this
 ·unfold toCome;simp
 refine .inl ⟨by simp,by simp[Array.getD],ok,H,0,Nat.zero_le _,fun b hb _=>by simp[Array.getD],?_,hh.size,hh.defers.mono (fun b hb=>⟨hb,rfl⟩),fun t ht _=>?_,fun i o d _ _ hl=>?_,fun j o _ hl=>?_⟩
 ·exact⟨⟨hh.mem.fr.os,hh.mem.fr.tape,hh.mem.fr.output,hh.mem.fr.size,hh.mem.fr.block⟩,hh.mem.rP,hh.mem.rQ,hh.mem.jH,hh.mem.names,hh.mem.hlen,fun k e h h1 h2=>(hh.mem.ent k e h h1 h2).drew,hh.mem.blk,hh.mem.yQ⟩
 ·exact R.mono (w:=w) (ok:=ok) (w':={ w with drawn:=w.drawn+1 }) (fun b hb=>⟨hb,rfl⟩) (.refl _) (hh.slot t ht)
 ·simp[Array.getD]at hl
 simp[Array.getD]at hl
theorem SP.arO {id:Nat} {σ σ':St} {Q:Exit→St→Prop} {rs:List AV} {ess:List (List bn)} {bs:List Bool} (N:Nat) (h:iK P ops (ops.toList.take N) σ rs ess bs σ') (hl:LP P ops (ops.toList.drop N) σ' Q) (hNs:N+1=ops.size:=by kernel_rfl) (hm:P.follows .mixedOrders=true:=by kernel_rfl) (hcalm:(Aa ops&&IG ops&&BR ops σ.slots.length&&II ops)=true:=by kernel_rfl) (hbl:bs.length=N:=by kernel_rfl) (l7:Na ops (bs++[true])=true:=by kernel_rfl):SP P (.region id ops true) σ Q:=by
 refine SP.awF N hNs hm hcalm hbl l7 h fun ro C ok H a w hh=>?_;have hN:N<ops.size:=by omega
 have hd:ops.toList.drop N=[ops[N]]:=by
  rw[List.drop_eq_getElem_cons (by simpa using hN)];simp[←hNs]
 rw[hd]at hl;have h1:=hl.run ro [] (fun e a' w'=>∃ok' H' σ',Holds C ok' H' σ' a' w'∧Q e σ') C ok H a w hh ⟨fun σ' ok' H' a' w' hq hh'=>⟨ok',H',σ',hh',hq⟩,fun v σ' ok' H' a' w' hq hh'=>⟨ok',H',σ',hh',hq⟩⟩;unfold wpOpIn;have ho:ops[N]? =some ops[N]:=by simp[hN]
 rw[ho];simp only[List.cons_append,List.nil_append,wpListIn]at h1;exact h1
end
end Go.Proofs.YtolgdkhlelfpoaaGreat
end
section
namespace Go.Proofs.YtolgdkhlelfpoaaGreat
open Go.RowKit
section
variable {P : Program} {o : Oper} {es : List bn}
theorem Td {t:TypeId} (e s:Nat) (hz:(P.info? t).bind (·.zero)=some (.slice none 0 0)) (ho:o.op=.alloc t):bK P o [] es (.ptr (es.length+1) 0) (es++[.arr e s [],.box [.aK es.length]]):=
 .eff fun C ok H a w hm hn=>by
  obtain⟨h1,h2⟩:=afs hm e s;have hl1:(H++[(⟨.slice none 0 0,s⟩:Hd)]).length=(es++[bn.arr e s []]).length:=h1.hlen;have hk:(H++[(⟨.slice none 0 0,s⟩:Hd)])[es.length]? =some ⟨.slice none 0 0,s⟩:=by rw[←hm.hlen];simp
  have hb:iL ok (w.alloc (.cells #[.slice none 0 0] t)) ((H++[⟨.slice none 0 0,s⟩])++[⟨.pointer (some ⟨w.heap.size,0,none⟩),0⟩]) ⟨.pointer (some ⟨w.heap.size,0,none⟩),0⟩ (.box [.aK es.length]):=by
   refine⟨w.heap.size,#[.slice none 0 0],t,rfl,heap_alloc_new w _,rfl,fun i hi=>?_⟩
   match i,hi with
   |0,_=>exact⟨rfl,.aK _ none 0 0 s (by rw[List.getElem?_append_left (by simp[hm.hlen])];exact hk)⟩
  obtain⟨h3,h4⟩:=h1.push (.cells #[.slice none 0 0] t) ⟨.pointer (some ⟨w.heap.size,0,none⟩),0⟩ _ (aah w) hb;have h3':Mem C ok ((H++[⟨.slice none 0 0,s⟩])++[⟨.pointer (some ⟨w.heap.size,0,none⟩),0⟩]) (es++[.arr e s [],.box [.aK es.length]]) (w.alloc (.cells #[.slice none 0 0] t)):=by simpa[List.append_assoc]using h3
  refine⟨.pointer (some ⟨w.heap.size,0,none⟩),_,ok,_,.inl ?_,h4,(Names.push _ _).trans (Names.push _ _),h3',.ptr _ _ w.heap.size 0 ?_⟩
  ·obtain⟨i,hi,hz'⟩:=Option.bind_eq_some_iff.1 hz;have hc:Value.cells (.slice none 0 0)= #[.slice none 0 0]:=rfl;simp[execOp,ho,Instr.alloc,zeroValue,typeInfo,hi,hz',newVar,newRow,hc]
  rw[List.getElem?_append_right (by rw[hl1];simp),hl1];simp
theorem Tf {α:Type} {x y:Operand} {t e:TypeId} {k n:Nat} {kd:IntKind} {i:Int} (enc:α→D) {l:List α} {a:α} (h:aV l i=some a) (hl:l.length=n) (ht:P.underlying t=some (.array n e)) (hT:Ty P e false 1) (he:es[k]? =some (.box (dc (eA enc l)))) (ho:o.op=.indexAddr t x y):
 bK P o [(x,.ptr k 0),(y,.d (.lit (.int kd i)))] es (.ptr k i.toNat) es:=
 .pure fun ok H ac w hent hl' hn=>by
  obtain⟨h0,h1⟩:=jP h;obtain⟨hd,hh,_⟩:=jy hent hl' he;have hx:=(mem2 hn).1;have hy:=(mem2 hn).2.lit;simp only at hx hy;have hlt:=(List.getElem?_eq_some_iff.1 h1).1;have hu:(underlying t).run P w=.ok (.array n e) w:=by simp[underlying,ht]
  generalize hv:ac.eval x=v at hx;cases hx with
  |ptr _ _ b s hH=>
   have hb:0≤i∧i<n:=⟨h0,by omega⟩
   refine⟨.pointer (some ⟨b,i.toNat,none⟩),?_,.ptr k _ b s hH⟩;have hadd:(⟨b,0,none⟩:Addr).add i.toNat=⟨b,i.toNat,none⟩:=by rw[addr_add,Nat.zero_add]
   simp[execOp,ho,hv,hy,Instr.indexAt,asIntOf,hu,Instr.sureAddr,hb,hT.size w,hadd]
theorem aoj {α:Type} {i:Int} {enc:α→D} {l:List α} {a:α} (h:aV l i=some a):(dc (eA enc l))[i.toNat]? =some (.d (enc a)):=by
 have h1:=(jP h).2;simp[dc,eA,D.cells,h1]
theorem adK {α:Type} {x:Operand} {t:TypeId} {k:Nat} {i:Int} (enc:α→D) {l:List α} {a:α} (h:aV l i=some a) (he:es[k]? =some (.box (dc (eA enc l)))) (hT:Ty P t false 1) (ho:o.op=.load t x):bK P o [(x,.ptr k i.toNat)] es (.d (enc a)) es:=YF he (aoj h) hT ho
theorem adL {t:TypeId} {x:Operand} {y:D} (hu:match P.underlying t with |some (.interface _)=>false|some _=>true|none=>false) (ho:o.op=.makeInterface t x):bK P o [(x,.d y)] es (.d (.Gq t y)) es:=
 .pure fun ok H a w _ _ hn=>by
  have h1:RD ok w y (a.eval x):=by have:=hn (x,.d y) (by simp);cases this with |d _ _ h=>exact h
  refine⟨.iface t (a.eval x),?_,.d _ _ (.Gq t y _ h1)⟩;cases ht:P.underlying t with
  |none=>rw[ht]at hu;cases hu
  |some d=>
   rw[ht]at hu;have hU:(underlying t).run P w=.ok d w:=by simp[underlying,ht]
   cases d<;>first|(cases hu;done)|simp[execOp,ho,Instr.makeInterface,hU]
theorem abq {t:TypeId} {x:Operand} (us:List Value) (hu:match P.underlying t with |some (.interface _)=>false|some _=>true|none=>false) (ho:o.op=.makeInterface t x):bK P o [(x,.d (.agg (us.map .lit)))] es (.d (.lit (.iface t (.agg us.toArray)))) es:=
 .pure fun ok H a w _ _ hn=>by
  have h1:=(hn (x,.d (.agg (us.map .lit))) (by simp)).YK;simp only at h1;refine⟨.iface t (.agg us.toArray),?_,.d _ _ (.lit _)⟩;cases ht:P.underlying t with
  |none=>rw[ht]at hu;cases hu
  |some d=>
   rw[ht]at hu;have hU:(underlying t).run P w=.ok d w:=by simp[underlying,ht]
   cases d<;>first|(cases hu;done)|simp[execOp,ho,Instr.makeInterface,hU,h1]
def adM (P:Program) (t:TypeId) (name:String) (f:FuncId):Bool:=
 match P.info? t with
 |some i=>(match i.methods.find? (·.name==name)with
  |some m=>m.path.toList.isEmpty&&(match m.func with |some (g,p)=>decide (g=f)&& !p|none=>false)
  |none=>false)&&(match P.underlying t with |some (.pointer _)=>false|some _=>true|none=>false)
 |none=>false
theorem ap3 {t:TypeId} {name:String} {f:FuncId} (h:adM P t name f=true) (n:Nat) (v:Value) (w:World):(method (n+1) t v name).run P w=.ok (f,v) w:=by
 unfold adM at h;split at h
 ·rename_i i hi;rw[Bool.and_eq_true]at h;obtain⟨h1,h2⟩:=h;split at h1
  ·rename_i m hm;rw[Bool.and_eq_true]at h1;obtain⟨h3,h4⟩:=h1;split at h4
   ·rename_i g p hg;simp only[Bool.and_eq_true,decide_eq_true_eq,Bool.not_eq_true']at h4;obtain⟨rfl,rfl⟩:=h4;have hp:m.path.toList=[]:=List.isEmpty_iff.1 h3;cases ht:P.underlying t with
    |none=>rw[ht]at h2;cases h2
    |some d=>
     rw[ht]at h2;have hU:∀w,(underlying t).run P w=.ok d w:=fun w=>by simp[underlying,ht]
     cases d<;>first|(cases h2;done)|simp[method,typeInfo,hi,hm,hp,follow,hg,receiverAt,hU,Place.get]
   cases h4
  cases h1
 cases h
theorem ahp {f:FuncId} {recv:Operand} {name:String} {ops:Array Operand} {ats:Array TypeId} {t:TypeId} (x:D) (ds:List D) {res:AV} (hr:Runs P f ((x::ds).map .d) [] res []) (hf:aF P f=true) (awG:adM P t name f=true) (hl:ops.toList.length=ds.length) (hres:res.up [] es.length=res)
 (ho:o.op=.call { callee:=.invoke recv name,args:=ops,argTypes:=ats }):bK P o ((recv,.d (.Gq t x))::fV ops.toList (ds.map .d)) es res es:=by
 intro C ok H a w Q hm hn;have hx:=hn (recv,.d (.Gq t x)) (by simp);simp only at hx;have hargs:=DJ (xs:=ops.toList) (vs:=ds.map .d) (by simpa using hl) (fun n hn'=>hn n (List.mem_cons_of_mem _ hn'));generalize hv:a.eval recv=v at hx;cases hx with
 |d _ _ h=>
  cases h with
  |Gq _ _ u h1=>
   unfold Oper.wp
   have he:(execOp a.eval o).run P w=.ok (.enter f (#[u]++ops.map a.eval)) w:=by
    have h2:=oC hf (#[u]++ops.map a.eval) w;have h3:=ap3 awG (P.types.size+99) u w;have h4:(#[Value.iface t u]++ops.map a.eval)[0]? =some (.iface t u):=by rw[Array.getElem?_append_left (by simp)];rfl
    have h5:(#[Value.iface t u]++ops.map a.eval).extract 1 (#[Value.iface t u]++ops.map a.eval).size=ops.map a.eval:=by
     apply Array.ext';rw[Array.toList_extract];simp only[Array.size_append,Array.size_map,List.extract_eq_take_drop,Array.toList_append,List.size_toArray,List.length_singleton];simp;exact List.take_of_length_le (by simp)
    simp only[execOp,ho,resolve,hv,Sem.run_bind,Sem.run_pure,Result.andThen_ok,invoke,h4,h5,callMethod];have h6:(program).run P w=.ok P w:=rfl;simp only[h6,Result.andThen_ok];have h7:P.types.size+Made.depth=P.types.size+99+1:=rfl;rw[h7,h3];exact h2
   rw[he,Oper.upon_enter];have hsz:(ops.map a.eval).size=ds.length:=by simpa using hl
   refine(ahi hm hr _ (by simp at hsz;simp[hsz];omega) (fun i hi=>?_) hres).mono ?_
   ·cases i with
    |zero=>
     have e0:(#[u]++ops.map a.eval).getD 0 undef=u:=by simp[Array.getD_eq_getD_getElem?,Array.getElem?_append_left]
     rw[e0];exact h1
    |succ i=>
     have hi':i<ds.length:=by simpa using hi
     have h3:=hargs i (by simpa using hi');have e1:(ds.map AV.d).getD i .junk=.d (ds.getD i dz):=by simp[List.getD,hi']
     have hi2:i<ops.size:=by simpa using(by omega:i<(ops.map a.eval).size)
     have e2:(#[u]++ops.map a.eval).getD (i+1) undef=(ops.toList.map a.eval).getD i undef:=by
      simp only[Array.getD_eq_getD_getElem?,List.getD];rw[Array.getElem?_append_right (by simp)];simp[hi2]
     rw[e2];rw[e1]at h3;have e3:(x::ds).getD (i+1) dz=ds.getD i dz:=by simp
     rw[e3];cases h3 with |d _ _ h=>exact h
   rintro e w' ⟨v,ok',H',rfl,h3,h4,h5,h6⟩;exact⟨v,ok',H',rfl,h3,h4,h5,h6⟩
end
section
variable {P : Program} {ops : Array Oper} {o : Oper} {rest l : List Oper} {σ : St} {K : Exit → St → Prop}
theorem LP.yF {f:FuncId} {dI:List AV} {u:Value} (hr:arM P f dI u) (hf:aF P f=true) (h:K (Vx u) σ) (hc:SX σ o=some (f,dI):=by kernel_rfl) (hd:dI.all AV.xk=true:=by kernel_rfl) (hg:qo ops σ o.guard=some true:=by kernel_rfl):LP P ops (o::rest) σ K:=by
 refine⟨fun ro l2 Q C ok H a w hh hk=>?_⟩;show wpListIn (FW ro) 0 P ops Q (o::(rest++l2)) a w;unfold wpListIn;rw[if_pos (lZ hh (jX hg))];unfold SX at hc;split at hc
 ·rename_i c ho;split at hc
  ·rename_i f' YQ;cases hc;obtain⟨callee,args,ats⟩:=c;simp only at YQ;subst YQ;have he:(execOp a.eval o).run P w=.ok (.enter f (args.map a.eval)) w:=by rw[Gt ho,oC hf]
   unfold Oper.wpIn;rw[Oper.semAt_eq _ _ _ (by rw[ho];intro c h;cases h),he]
   have hmc:Mem ⟨w,ok,[],[]⟩ ok [] [] w:=
    ⟨.refl _ _,fun _ h=>h,fun _ h=>.inl h,hh.mem.jH,.refl _,rfl,fun k e h he=>by simp at he,fun k e h b he=>by simp at he,fun k k' e e' h h' b he=>by simp at he⟩
   have key:Calls P f (args.map a.eval) w fun e w'=>e=.panicked [{ v:=u,recovered:=false }]∧∃ok',Holds C ok' H σ a w':=by
    refine(hr ok [] [] w _ hmc (by simp) (fun i hi=>?_)).mono ?_
    ·have hi2:i<args.size:=by simpa using hi
     have e1:(args.toList.map σ.get).getD i .junk=σ.get args[i]:=by simp[List.getD,hi2]
     have e2:(args.map a.eval).getD i undef=a.eval args[i]:=by simp[Array.getD,hi2]
     have h3:AV.xk (σ.get args[i])=true:=by
      rw[List.all_eq_true]at hd;exact hd _ (List.mem_map.2 ⟨args[i],by simp,rfl⟩)
     have h4:=hh.get args[i];rw[e1,e2];generalize σ.get args[i]=y at h3 h4;cases y with
     |d y=>cases h4 with |d _ _ h=>exact .d _ _ h
     |_=>cases h3
    rintro e w' ⟨ok',H',rfl,hm'⟩;obtain⟨h1,h2⟩:=hh.mem.change (ok':=ok) (H':=H) (es':=σ.ents) (w':=w') (fun _=>False) hm'.fr.os hm'.fr.tape hm'.fr.output hm'.fr.size (fun b hb _=>hm'.fr.block b hb (by simp)) (fun _ h=>h.elim) (fun _ h=>h) (fun _ h=>.inl h) (.refl _) hh.mem.hlen (fun k e h he hh=>.inl ⟨he,hh,fun _ _ _ h=>h⟩);exact⟨rfl,ok,h1,hh.size,hh.defers.mono h2,hh.base,fun t ht=>(hh.slot t ht).mono h2 (.refl _)⟩
   refine⟨fun _ _=>trivial,fun h=>(by cases h),WL.2 (key.mono ?_)⟩;rintro e w' ⟨rfl,ok',h5⟩;exact hk.2 _ _ _ _ _ _ h h5
  cases hc
 cases hc
end
def yT {α β:Type} (r:Except Value α) (f:α→Option (Except Value β)):Option (Except Value β):=
 match r with
 | .ok a=>f a
 | .error u=>some (.error u)
end Go.Proofs.YtolgdkhlelfpoaaGreat
end
section
namespace Go.Proofs.YtolgdkhlelfpoaaGreat
open Go.RowKit
theorem ai5 (p:Addr) (w:World):
 CallsD Tryz.prog 120 #[.pointer (some p)] .returning w fun e u' w'=>e=.returned (.tuple #[])∧u'=.returning∧w'=w:=by
 refine callsD_of_wpS Tryz.func120 rfl fun c₀ cs hu=>?_;apply wpS_seq;apply wpS_region;simp[wpOpsS,go_sem,recoverD,hu,Tryz.ntmps120,Exit.thenS];apply wpS_seq;apply wpS_region;simp[wpOpsS,go_sem,Exit.thenS];refine wpS_cond (t:=false) (by simp[Act.eval,Array.replicate]) ?_;simp only[Bool.false_eq_true,if_false];refine wpS_of_wp (wp_skip ?_);cases c₀
 simp_all [bodyPostS,results,Tryz.results120]
theorem ahR (b:Nat) (x:Value) (n:Int) (w:World) (hb:w.heap[b]? =some (.cells #[x] 68 (0,0))):
 CallsD Tryz.prog 120 #[.pointer (some ⟨b,0,none⟩)] (.panicking [{ v:=.iface 150 (.agg #[.int .i64 n]),recovered:=false }]) w fun e u' w'=>
  e=.returned (.tuple #[])∧u'=.panicking [{ v:=.iface 150 (.agg #[.int .i64 n]),recovered:=true }]∧w.grownBy w' (some b)∧w'.heap[b]? =some (.cells #[.int .i64 n] 68 (0,0)):=by
 have hTA:∀(t0:TypeId) (w:World),(Instr.typeAssert (.iface 150 (.agg #[.int .i64 n])) t0 150 true).run Tryz.prog w=.ok (.tuple #[.agg #[.int .i64 n],.bool true]) w:=fun _ _=>by kernel_rfl
 have hz:∀w:World,(Instr.alloc 150 true (.tuple #[])).run Tryz.prog w=.ok (.pointer (some ⟨w.heap.size,0,none⟩)) (w.alloc (.cells #[.int .i64 0] 150)):=fun w=>by
  simp[Instr.alloc,go_sem]
 have hst:∀w:World,(Instr.storeAt 150 (.pointer (some ⟨w.heap.size,0,none⟩)) (.agg #[.int .i64 n])).run Tryz.prog (w.alloc (.cells #[.int .i64 0] 150))=.ok () (w.alloc (.cells #[.int .i64 n] 150)):=fun w=>by
  simp[Instr.storeAt,go_sem]
 refine callsD_of_wpS Tryz.func120 rfl fun c₀ cs hu=>?_;apply wpS_seq;apply wpS_region;simp[wpOpsS,go_sem,recoverD,hu,Tryz.ntmps120,Exit.thenS];apply wpS_seq;apply wpS_region;simp[wpOpsS,go_sem,Exit.thenS];refine wpS_cond (t:=true) (by simp[Act.eval,Array.replicate]) ?_;simp only[if_true];apply wpS_seq;apply wpS_region;simp[wpOpsS,execOp,hTA,hz,hst,go_sem,Exit.thenS];apply wpS_seq;apply wpS_seq;apply wpS_region;simp[wpOpsS,go_sem,Exit.thenS];refine wpS_cond (t:=false) (by simp[Act.eval,Array.replicate]) ?_;simp only[Bool.false_eq_true,if_false];refine wpS_of_wp (wp_skip ?_);simp only[Exit.thenS];have hbl:b<w.heap.size:=(Array.getElem?_eq_some_iff.1 hb).1;have hb2:(w.alloc (.cells #[.int .i64 n] 150)).heap[b]? =some (.cells #[x] 68 (0,0)):=(Below.heap_alloc _ _ _ hbl).trans hb;have hc:(w.alloc (.cells #[.int .i64 n] 150)).cell? ⟨b,0,none⟩=some x:=by rw[World.cell?,hb2];rfl
 have hfz:(w.alloc (.cells #[.int .i64 n] 150)).frozen? ⟨b,0,none⟩=false:=by simp[World.frozen?,hb2]
 apply wpS_region;simp[wpOpsS,go_sem,Exit.thenS,hc,hfz,bodyPostS,results,Tryz.results120]
 have key:(w.alloc (.cells #[.int .i64 n] 150)).setCell ⟨b,0,none⟩ (.int .i64 n)=(w.alloc (.cells #[.int .i64 n] 150)).putObj b (.cells #[.int .i64 n] 68 (0,0)):=by
  simp only[World.setCell,World.putObj];congr 1;apply Array.ext_getElem?;intro i;rw[Array.getElem?_modify,Array.getElem?_setIfInBounds];by_cases e:b=i
  ·subst e;rw[if_pos rfl,if_pos rfl,hb2,if_pos (Array.getElem?_eq_some_iff.1 hb2).1];rfl
  rw[if_neg e,if_neg e]
 rw[key];have hsz:b<(w.alloc (.cells #[.int .i64 n] 150)).heap.size:=(Array.getElem?_eq_some_iff.1 hb2).1;refine⟨⟨rfl,rfl,rfl,by simp,fun i hi hne=>?_⟩,World.putObj_heap_same hsz⟩;rw[World.putObj_heap_other (fun e=>hne (by rw[e]))];exact Below.heap_alloc _ _ _ hi
def ng {T:Type}:Except Value T→Option Int
 | .ok _=>some 0
 | .error (.iface t (.agg cs))=>bif t==150 then(match cs.toList with | [.int .i64 n]=>some n|_=>none)else none
 | .error _=>none
theorem abr (b:Nat) (n:Int) (w:World) (hb:w.heap[b]? =some (.cells #[.int .i64 n] 68 (0,0))) (tmps:Array Value) (ht:tmps.getD 2 undef=.pointer (some ⟨b,0,none⟩)):(results Tryz.f81 tmps).run Tryz.prog w=.ok (.int .i64 n) w:=by
 have hc:w.cell? ⟨b,0,none⟩=some (.int .i64 n):=by rw[World.cell?,hb];rfl
 have e:results Tryz.f81 tmps=(do let v ←loadVar 68 (←asAddr (tmps.getD 2 undef));pure v):=by simp[results,Tryz.results81]
 rw[e,ht];simp[go_sem,hc]
theorem ahS {g:FuncId} {us:Array Value} {w:World} {n:Int} (he:∀(vs:Array Value) (w:World),(callFunc g vs).run Tryz.prog w=.ok (.enter g vs) w)
 (hcall:Calls Tryz.prog g us (w.alloc (.cells #[.int .i64 0] 68 (0,0))) fun e w2=>(w.alloc (.cells #[.int .i64 0] 68 (0,0))).grownBy w2 none∧((∃v,e=.returned v∧n=0)∨e=.panicked [{ v:=.iface 150 (.agg #[.int .i64 n]),recovered:=false }])):
 Calls Tryz.prog 81 #[.func (.func g) #[] us] w fun e w'=>e=.returned (.int .i64 n)∧w.grownBy w' none:=by
 have hmf:∀(fn:Fn) (first cap:Array Value) (w:World),(Instr.makeFunc fn first cap).run Tryz.prog w=.ok (.func fn first cap) w:=fun _ _ _ _=>rfl;have hg0:w.grownBy (w.alloc (.cells #[.int .i64 0] 68 (0,0))) none:=⟨rfl,rfl,rfl,by simp,fun i hi _=>Below.heap_alloc _ _ _ hi⟩
 go_enter_defers Tryz.func81,Tryz.ntmps81
 apply wp_seq;apply wp_region_list;refine .inl ?_;simp[Oper.wp,go_sem,wpList,Exit.then];apply wp_seq;apply wp_region_list;refine .inl ?_;simp[Oper.wp,go_sem,hmf,wpList,Exit.then];refine .inl ?_;apply wp_seq;apply wp_region_list;refine .inl ?_;simp[Oper.wp,go_sem,he,wpList,Exit.then];refine .inl (hcall.mono ?_);rintro e w2 ⟨hg,h⟩;have hb:w2.heap[w.heap.size]? =some (.cells #[.int .i64 0] 68 (0,0)):=(hg.block w.heap.size (by simp) (by simp)).trans (World.alloc_heap_new _ _);have hbl:w.heap.size<w2.heap.size:=(Array.getElem?_eq_some_iff.1 hb).1;have hgw:w.grownBy w2 none:=⟨hg.os.trans hg0.os,hg.tape.trans hg0.tape,hg.output.trans hg0.output,Nat.le_trans hg0.size hg.size,fun i hi hn=>(hg.block i (by simp;omega) hn).trans (hg0.block i hi hn)⟩
 have tail:∀(w3:World) (m:Int),w2.grownBy w3 (some w.heap.size)→w.grownBy w3 none:=fun w3 m h3=>⟨h3.os.trans hgw.os,h3.tape.trans hgw.tape,h3.output.trans hgw.output,Nat.le_trans hgw.size h3.size,fun i hi hn=>(h3.block i (by have:=hgw.size;omega) (by simp;omega)).trans (hgw.block i hi hn)⟩
 rcases h with⟨v,rfl,rfl⟩|rfl
 ·have hc:w2.cell? ⟨w.heap.size,0,none⟩=some (.int .i64 0):=by rw[World.cell?,hb];rfl
  have hfz:w2.frozen? ⟨w.heap.size,0,none⟩=false:=by simp[World.frozen?,hb]
  apply wp_seq;apply wp_region_list;refine .inl ?_;simp[Oper.wp,go_sem,hc,hfz,wpList,Exit.then];apply wp_ret
  have key:w2.setCell ⟨w.heap.size,0,none⟩ (.int .i64 0)=w2.putObj w.heap.size (.cells #[.int .i64 0] 68 (0,0)):=by
   simp only[World.setCell,World.putObj];congr 1;apply Array.ext_getElem?;intro i;rw[Array.getElem?_modify,Array.getElem?_setIfInBounds];by_cases e:w.heap.size=i
   ·subst e;rw[if_pos rfl,if_pos rfl,hb,if_pos hbl];rfl
   rw[if_neg e,if_neg e]
  rw[key];refine leaves_cons (f:=120) (args:=#[.pointer (some ⟨w.heap.size,0,none⟩)]) (by simp) (by simp[go_sem]) ?_;refine(ai5 ⟨w.heap.size,0,none⟩ _).mono ?_;rintro e u' w'' ⟨rfl,rfl,rfl⟩;refine⟨.int .i64 0,abr w.heap.size 0 _ (World.putObj_heap_same hbl) _ rfl,rfl,tail _ 0 ⟨rfl,rfl,rfl,by simp,fun i hi hne=>World.putObj_heap_other (fun e=>hne (by rw[e]))⟩⟩
 refine leaves_cons (f:=120) (args:=#[.pointer (some ⟨w.heap.size,0,none⟩)]) (by simp) (by simp[go_sem]) ?_;refine(ahR w.heap.size (.int .i64 0) n w2 hb).mono ?_;rintro e u' w'' ⟨rfl,rfl,h3,h4⟩;exact⟨.int .i64 n,abr w.heap.size n _ h4 _ rfl,rfl,tail _ n h3⟩
theorem Ti {T:Type} {res:T→AV} (g:FuncId) (caps:List D) (r:Except Value T) (hr:CX Tryz.prog g (caps.map .d) r res) (he:aF Tryz.prog g=true) (n:Int) (hn:ng r=some n):
 Runs Tryz.prog 81 [.d (.fn (.func g) [] caps)] [] (.d (eI n)) []:=by
 intro ok X H w vals hm hs ha;obtain rfl:H=[]:=List.eq_nil_of_length_eq_zero hm.hlen;have h0:=ha 0 (by simp)
 obtain⟨fv,rfl⟩:∃fv,vals= #[fv]:=by
  have h1:vals.size=1:=hs;exact⟨vals[0],by apply Array.ext (by simp[h1]);intro i h1 h2;simp at h2;subst h2;rfl⟩
 have h0:R ok w [] (.d (.fn (.func g) [] caps)) fv:=h0;cases h0 with
 |d _ _ h0=>
 cases h0 with
 |fn _ _ _ vs us hl1 hl2 h1 h2=>
 obtain rfl:vs= #[]:=Array.eq_empty_of_size_eq_zero (by simpa using hl1);obtain⟨w1,hw1⟩:∃w1,w1=w.alloc (.cells #[.int .i64 0] 68 (0,0)):=⟨_,rfl⟩
 have hg1:Grow ok w ok w1:=fun b hb=>⟨hb,by rw[hw1];exact Below.heap_alloc _ _ _ (hm.jH b hb)⟩
 have hmc:Mem ⟨w1,ok,[],[]⟩ ok [] [] w1:=
  ⟨.refl _ _,fun _ h=>h,fun _ h=>.inl h,fun b hb=>by rw[hw1];simp;exact Nat.lt_succ_of_lt (hm.jH b hb),.refl _,rfl,fun k e h he=>by simp at he,fun k e h b he=>by simp at he,fun k k' e e' h h' b he=>by simp at he⟩
 have hargs:∀i,i<(caps.map AV.d).length→R ok w1 [] ((caps.map AV.d).getD i .junk) (us.getD i undef):=fun i hi=>by
  rw[List.length_map]at hi;have e1:(caps.map AV.d).getD i .junk=.d (caps.getD i dz):=by simp[List.getD,hi]
  rw[e1];exact .d _ _ ((h2 i hi).mono hg1)
 have hgr:∀{ok2:Nat→Prop} {H2:List Hd} {w2:World},Mem ⟨w1,ok,[],[]⟩ ok2 H2 [] w2→w1.grownBy w2 none:=fun hm2=>⟨hm2.fr.os,hm2.fr.tape,hm2.fr.output,hm2.fr.size,fun b hb _=>hm2.fr.block b hb (by simp)⟩
 have hcall:Calls Tryz.prog g us w1 fun e w2=>w1.grownBy w2 none∧((∃v,e=.returned v∧n=0)∨e=.panicked [{ v:=.iface 150 (.agg #[.int .i64 n]),recovered:=false }]):=by
  cases hrr:r with
  |ok x=>
   rw[hrr]at hn;refine(hr.1 x hrr ok [] [] w1 us hmc (by simpa using hl2) hargs).mono ?_;rintro e w2 ⟨v,ok2,H2,rfl,hm2,_⟩;exact⟨hgr hm2,.inl ⟨v,rfl,(Option.some.inj hn).symm⟩⟩
  |error u=>
   rw[hrr]at hn
   have hu:u=.iface 150 (.agg #[.int .i64 n]):=by
    unfold ng at hn;split at hn
    ·rename_i h;cases h
    ·rename_i t cs h;cases h;cases ht:(t==150)with
     |false=>rw[ht]at hn;cases hn
     |true=>
      rw[ht]at hn;simp only[cond_true]at hn;obtain rfl:t=150:=by simpa using ht
      split at hn
      ·rename_i m hcs;obtain rfl:=Option.some.inj hn;rw[←Array.toArray_toList (xs:=cs),hcs]
      cases hn
    cases hn
   refine(hr.2 u hrr ok [] [] w1 us hmc (by simpa using hl2) hargs).mono ?_;rintro e w2 ⟨ok2,H2,rfl,hm2⟩;exact⟨hgr hm2,.inr (by rw[hu])⟩
 subst hw1;refine(ahS (fun vs w=>oC he vs w) hcall).mono ?_;rintro e w' ⟨rfl,hg⟩;obtain⟨m1,_⟩:=hm.change (ok':=ok) (H':=[]) (es':=[]) (w':=w') (fun _=>False) hg.os hg.tape hg.output hg.size (fun b hb _=>hg.block b hb (by simp)) (fun _ h=>h.elim) (fun _ h=>h) (fun _ h=>.inl h) (.refl _) rfl (fun k e h he=>by simp at he);exact⟨_,ok,[],rfl,m1,.d _ _ (.lit _)⟩
theorem setCell_eq {w:World} {b:Nat} {x y:Value} {t:TypeId} (hb:w.heap[b]? =some (.cells #[x] t (0,0))):w.setCell ⟨b,0,none⟩ y=w.putObj b (.cells #[y] t (0,0)):=by
 simp only[World.setCell,World.putObj];congr 1;apply Array.ext_getElem?;intro i;rw[Array.getElem?_modify,Array.getElem?_setIfInBounds];by_cases e:b=i
 ·subst e;rw[if_pos rfl,if_pos rfl,hb,if_pos (Array.getElem?_eq_some_iff.1 hb).1];rfl
 rw[if_neg e,if_neg e]
theorem aok (p q:Addr) (w:World):
 CallsD Tryz.prog 369 #[.pointer (some p),.pointer (some q)] .returning w fun e u' w'=>e=.returned (.tuple #[])∧u'=.returning∧w'=w:=by
 refine callsD_of_wpS Tryz.func369 rfl fun c₀ cs hu=>?_;apply wpS_seq;apply wpS_region;simp[wpOpsS,go_sem,recoverD,hu,Tryz.ntmps369,Exit.thenS];apply wpS_seq;apply wpS_region;simp[wpOpsS,go_sem,Exit.thenS];refine wpS_cond (t:=false) (by simp[Act.eval,Array.replicate]) ?_;simp only[Bool.false_eq_true,if_false];refine wpS_of_wp (wp_skip ?_);cases c₀
 simp_all [bodyPostS,results,Tryz.results369]
theorem amB (b c:Nat) (ad:Option Addr) (n cap:Nat) (x:Value) (w:World) (hb:w.heap[b]? =some (.cells #[.slice ad n cap] 26 (0,0))) (hc:w.heap[c]? =some (.cells #[x] 26 (0,0))):
 CallsD Tryz.prog 369 #[.pointer (some ⟨b,0,none⟩),.pointer (some ⟨c,0,none⟩)] (.panicking [{ v:=.iface 317 (.agg #[]),recovered:=false }]) w fun e u' w'=>
  e=.returned (.tuple #[])∧u'=.panicking [{ v:=.iface 317 (.agg #[]),recovered:=true }]∧w.grownBy w' (some c)∧w'.heap[c]? =some (.cells #[.slice ad n cap] 26 (0,0)):=by
 have hTA:∀(t0:TypeId) (w:World),(Instr.typeAssert (.iface 317 (.agg #[])) t0 317 true).run Tryz.prog w=.ok (.tuple #[.agg #[],.bool true]) w:=fun _ _=>by kernel_rfl
 refine callsD_of_wpS Tryz.func369 rfl fun c₀ cs hu=>?_;apply wpS_seq;apply wpS_region;simp[wpOpsS,go_sem,recoverD,hu,Tryz.ntmps369,Exit.thenS];apply wpS_seq;apply wpS_region;simp[wpOpsS,go_sem,Exit.thenS];refine wpS_cond (t:=true) (by simp[Act.eval,Array.replicate]) ?_;simp only[if_true];apply wpS_seq;apply wpS_seq;apply wpS_region;simp[wpOpsS,execOp,hTA,go_sem,Exit.thenS];apply wpS_seq;apply wpS_region;simp[wpOpsS,go_sem,Exit.thenS];refine wpS_cond (t:=false) (by simp[Act.eval,Array.replicate]) ?_;simp only[Bool.false_eq_true,if_false];refine wpS_of_wp (wp_skip ?_);simp only[Exit.thenS];have hbl:b<w.heap.size:=(Array.getElem?_eq_some_iff.1 hb).1;have hcl:c<w.heap.size:=(Array.getElem?_eq_some_iff.1 hc).1;have hb2:(w.alloc (.cells #[] 317)).heap[b]? =some (.cells #[.slice ad n cap] 26 (0,0)):=(Below.heap_alloc _ _ _ hbl).trans hb;have hc2:(w.alloc (.cells #[] 317)).heap[c]? =some (.cells #[x] 26 (0,0)):=(Below.heap_alloc _ _ _ hcl).trans hc;have hcb:(w.alloc (.cells #[] 317)).cell? ⟨b,0,none⟩=some (.slice ad n cap):=by rw[World.cell?,hb2];rfl
 have hcc:(w.alloc (.cells #[] 317)).cell? ⟨c,0,none⟩=some x:=by rw[World.cell?,hc2];rfl
 have hfz:(w.alloc (.cells #[] 317)).frozen? ⟨c,0,none⟩=false:=by simp[World.frozen?,hc2]
 apply wpS_region;simp[wpOpsS,go_sem,Exit.thenS,hcb,hcc,hfz,bodyPostS,results,Tryz.results369];rw[setCell_eq hc2];have hsz:c<(w.alloc (.cells #[] 317)).heap.size:=(Array.getElem?_eq_some_iff.1 hc2).1;refine⟨⟨rfl,rfl,rfl,by simp,fun i hi hne=>?_⟩,World.putObj_heap_same hsz⟩;rw[World.putObj_heap_other (fun e=>hne (by rw[e]))];exact Below.heap_alloc _ _ _ hi
theorem step_fin (b:Nat) (v:Value) (w:World) (hb:w.heap[b]? =some (.cells #[v] 26 (0,0))) (tmps:Array Value) (ht:tmps.getD 6 undef=.pointer (some ⟨b,0,none⟩)):(results Tryz.f304 tmps).run Tryz.prog w=.ok v w:=by
 have hc:w.cell? ⟨b,0,none⟩=some v:=by rw[World.cell?,hb];rfl
 have e:results Tryz.f304 tmps=(do let v ←loadVar 26 (←asAddr (tmps.getD 6 undef));pure v):=by simp[results,Tryz.results304]
 rw[e,ht];simp[go_sem,hc]
theorem amC {l id:Value} {ad:Option Addr} {n cap:Nat} {w:World} {Rv:Value→World→Prop} {bad:Prop}
 (hcall:Calls Tryz.prog 370 #[l,.slice ad n cap,id] ((w.alloc (.cells #[.slice ad n cap] 26 (0,0))).alloc (.cells #[.slice none 0 0] 26 (0,0))) fun e w2=>((w.alloc (.cells #[.slice ad n cap] 26 (0,0))).alloc (.cells #[.slice none 0 0] 26 (0,0))).grownBy w2 none∧((∃ad' n' cap',e=.returned (.slice ad' n' cap')∧Rv (.slice ad' n' cap') w2)∨(e=.panicked [{ v:=.iface 317 (.agg #[]),recovered:=false }]∧bad))):
 Calls Tryz.prog 304 #[l,.slice ad n cap,id] w fun e w'=>w.grownBy w' none∧((∃v w2,e=.returned v∧Rv v w2∧w.grownBy w2 none∧w.heap.size+1<w2.heap.size∧w2.grownBy w' (some (w.heap.size+1)))∨(e=.returned (.slice ad n cap)∧bad)):=by
 have hmf:∀(fn:Fn) (first cap:Array Value) (w:World),(Instr.makeFunc fn first cap).run Tryz.prog w=.ok (.func fn first cap) w:=fun _ _ _ _=>rfl;obtain⟨w1,hw1⟩:∃w1,w1=(w.alloc (.cells #[.slice ad n cap] 26 (0,0))).alloc (.cells #[.slice none 0 0] 26 (0,0)):=⟨_,rfl⟩
 have hs1:w1.heap.size=w.heap.size+2:=by rw[hw1];simp
 have h1b:w1.heap[w.heap.size]? =some (.cells #[.slice ad n cap] 26 (0,0)):=by rw[hw1];exact(Below.heap_alloc _ _ _ (by simp)).trans (World.alloc_heap_new w _)
 have h1c:w1.heap[w.heap.size+1]? =some (.cells #[.slice none 0 0] 26 (0,0)):=by
  have:=World.alloc_heap_new (w.alloc (.cells #[.slice ad n cap] 26 (0,0))) (.cells #[.slice none 0 0] 26 (0,0));rw[World.size_alloc]at this;rw[hw1];exact this
 have hg0:w.grownBy w1 none:=by
  rw[hw1];exact⟨rfl,rfl,rfl,by simp;omega,fun i hi _=>(Below.heap_alloc _ _ _ (by simp;omega)).trans (Below.heap_alloc _ _ _ hi)⟩
 have hcb:w1.cell? ⟨w.heap.size,0,none⟩=some (.slice ad n cap):=by rw[World.cell?,h1b];rfl
 rw[←hw1]at hcall
 go_enter_defers Tryz.func304,Tryz.ntmps304
 apply wp_seq;apply wp_region_list;refine .inl ?_;simp[Oper.wp,go_sem,wpList,Exit.then];rw[←hw1];have he:∀(vs:Array Value) (w:World),(callFunc 370 vs).run Tryz.prog w=.ok (.enter 370 vs) w:=fun vs w=>oC (P:=Tryz.prog) (f:=370) (by kernel_rfl) vs w;refine .inl ?_;apply wp_seq;apply wp_region_list;refine .inl ?_;simp[Oper.wp,go_sem,hmf,wpList,Exit.then];refine .inl ?_;apply wp_seq;apply wp_region_list;refine .inl ?_;simp[Oper.wp,go_sem,wpList,Exit.then,hcb,he];refine .inl (.inl (.inl (hcall.mono ?_)));rintro e w2 ⟨hg,h⟩;have hb:w2.heap[w.heap.size]? =some (.cells #[.slice ad n cap] 26 (0,0)):=(hg.block _ (by omega) (by simp)).trans h1b;have hc:w2.heap[w.heap.size+1]? =some (.cells #[.slice none 0 0] 26 (0,0)):=(hg.block _ (by omega) (by simp)).trans h1c;have hcl:w.heap.size+1<w2.heap.size:=(Array.getElem?_eq_some_iff.1 hc).1;have hgw:w.grownBy w2 none:=⟨hg.os.trans hg0.os,hg.tape.trans hg0.tape,hg.output.trans hg0.output,Nat.le_trans hg0.size hg.size,fun i hi hn=>(hg.block i (by omega) hn).trans (hg0.block i hi hn)⟩
 have tail:∀(w3:World),w2.grownBy w3 (some (w.heap.size+1))→w.grownBy w3 none:=fun w3 h3=>⟨h3.os.trans hgw.os,h3.tape.trans hgw.tape,h3.output.trans hgw.output,Nat.le_trans hgw.size h3.size,fun i hi hn=>(h3.block i (by omega) (by simp;omega)).trans (hgw.block i hi hn)⟩
 rcases h with⟨ad',n',cap',rfl,hv⟩|⟨rfl,hbad⟩
 ·have hcc:w2.cell? ⟨w.heap.size+1,0,none⟩=some (.slice none 0 0):=by rw[World.cell?,hc];rfl
  have hfz:w2.frozen? ⟨w.heap.size+1,0,none⟩=false:=by simp[World.frozen?,hc]
  simp[hcc,hfz,go_sem,wpList,Exit.then];refine .inl (wp_ret ?_);rw[setCell_eq hc];refine leaves_cons (f:=369) (args:=#[.pointer (some ⟨w.heap.size,0,none⟩),.pointer (some ⟨w.heap.size+1,0,none⟩)]) (by simp) (by simp[go_sem]) ?_;refine(aok ⟨w.heap.size,0,none⟩ ⟨w.heap.size+1,0,none⟩ _).mono ?_;rintro e u' w'' ⟨rfl,rfl,rfl⟩;have h3:w2.grownBy (w2.putObj (w.heap.size+1) (.cells #[.slice ad' n' cap'] 26 (0,0))) (some (w.heap.size+1)):=⟨rfl,rfl,rfl,by simp,fun i hi hne=>World.putObj_heap_other (fun e=>hne (by rw[e]))⟩
  exact⟨.slice ad' n' cap',step_fin (w.heap.size+1) _ _ (World.putObj_heap_same hcl) _ rfl,tail _ h3,.inl ⟨_,rfl,w2,hv,hgw,hcl,h3⟩⟩
 refine leaves_cons (f:=369) (args:=#[.pointer (some ⟨w.heap.size,0,none⟩),.pointer (some ⟨w.heap.size+1,0,none⟩)]) (by simp) (by simp[go_sem]) ?_;refine(amB w.heap.size (w.heap.size+1) ad n cap (.slice none 0 0) w2 hb hc).mono ?_;rintro e u' w'' ⟨rfl,rfl,h3,h4⟩;exact⟨.slice ad n cap,step_fin (w.heap.size+1) _ _ h4 _ rfl,tail _ h3,.inr ⟨rfl,hbad⟩⟩
def G9 {T:Type} (s:T):Except Value T→Option T
 | .ok x=>some x
 | .error (.iface t (.agg cs))=>bif t==317&&cs.toList.isEmpty then some s else none
 | .error _=>none
theorem ab7 {T:Type} (enc:T→List D) (dl di:D) (s:T) (r:Except Value T) (hr:CX Tryz.prog 370 [.d dl,.d (.sl (enc s)),.d di] r (fun x=>.d (.sl (enc x)))) (out:T) (ho:G9 s r=some out):
 Runs Tryz.prog 304 [.d dl,.d (.sl (enc s)),.d di] [] (.d (.sl (enc out))) []:=by
 intro ok X H w vals hm hs ha;obtain rfl:H=[]:=List.eq_nil_of_length_eq_zero hm.hlen;have hsz:vals.size=3:=hs
 obtain⟨l,sv,id,rfl⟩:∃l sv id,vals= #[l,sv,id]:=⟨vals[0],vals[1],vals[2],by
  apply Array.ext (by simp[hsz]);intro i h1 h2
  match i,h2 with
  |0,_=>rfl
  |1,_=>rfl
  |2,_=>rfl⟩
 have a0:R ok w [] (.d dl) l:=ha 0 (by simp);have a1:R ok w [] (.d (.sl (enc s))) sv:=ha 1 (by simp);have a2:R ok w [] (.d di) id:=ha 2 (by simp)
 have slv:∀{ok:Nat→Prop} {w:World} {H:List Hd} {xs:List D} {v:Value},R ok w H (.d (.sl xs)) v→∃ad n cap,v=.slice ad n cap:=fun h=>by
  cases h with
  |d _ _ h=>cases h with
   |sl0 ad cap=>exact⟨_,_,_,rfl⟩
   |sl=>exact⟨_,_,_,rfl⟩
 obtain⟨ad,n,cap,rfl⟩:=slv a1;obtain⟨w1,hw1⟩:∃w1,w1=(w.alloc (.cells #[.slice ad n cap] 26 (0,0))).alloc (.cells #[.slice none 0 0] 26 (0,0)):=⟨_,rfl⟩
 have hs1:w1.heap.size=w.heap.size+2:=by rw[hw1];simp
 have hg1:Grow ok w ok w1:=fun b hb=>⟨hb,by rw[hw1];exact(Below.heap_alloc _ _ _ (by have h:=hm.jH b hb;rw[World.size_alloc];omega)).trans (Below.heap_alloc _ _ _ (hm.jH b hb))⟩
 have hmc:Mem ⟨w1,ok,[],[]⟩ ok [] [] w1:=
  ⟨.refl _ _,fun _ h=>h,fun _ h=>.inl h,fun b hb=>by have h:=hm.jH b hb;rw[hs1];omega,.refl _,rfl,fun k e h he=>by simp at he,fun k e h b he=>by simp at he,fun k k' e e' h h' b he=>by simp at he⟩
 have hargs:∀i,i<3→R ok w1 [] ([AV.d dl,.d (.sl (enc s)),.d di].getD i .junk) ((#[l,.slice ad n cap,id]:Array Value).getD i undef):=fun i hi=>by
  match i,hi with
  |0,_=>exact a0.mono hg1 (.refl _)
  |1,_=>exact a1.mono hg1 (.refl _)
  |2,_=>exact a2.mono hg1 (.refl _)
 have hgr:∀{ok2:Nat→Prop} {H2:List Hd} {w2:World},Mem ⟨w1,ok,[],[]⟩ ok2 H2 [] w2→w1.grownBy w2 none:=fun hm2=>⟨hm2.fr.os,hm2.fr.tape,hm2.fr.output,hm2.fr.size,fun b hb _=>hm2.fr.block b hb (by simp)⟩
 have hcall:Calls Tryz.prog 370 #[l,.slice ad n cap,id] w1 fun e w2=>w1.grownBy w2 none∧((∃ad' n' cap',e=.returned (.slice ad' n' cap')∧∃x ok2,r=.ok x∧Mem ⟨w1,ok,[],[]⟩ ok2 [] [] w2∧RD ok2 w2 (.sl (enc x)) (.slice ad' n' cap'))∨(e=.panicked [{ v:=.iface 317 (.agg #[]),recovered:=false }]∧out=s)):=by
  cases hrr:r with
  |ok x=>
   refine(hr.1 x hrr ok [] [] w1 _ hmc rfl hargs).mono ?_;rintro e w2 ⟨v,ok2,H2,rfl,hm2,hR⟩;obtain⟨ad',n',cap',rfl⟩:=slv hR;obtain rfl:H2=[]:=List.eq_nil_of_length_eq_zero hm2.hlen;exact⟨hgr hm2,.inl ⟨ad',n',cap',rfl,x,ok2,rfl,hm2,by cases hR with |d _ _ h=>exact h⟩⟩
  |error u=>
   rw[hrr]at ho
   have hu:u=.iface 317 (.agg #[])∧out=s:=by
    unfold G9 at ho;split at ho
    ·rename_i h;cases h
    ·rename_i t cs h;cases h;cases ht:(t==317&&cs.toList.isEmpty)with
     |false=>rw[ht]at ho;cases ho
     |true=>
      rw[ht]at ho;simp only[Bool.and_eq_true]at ht;obtain rfl:t=317:=by simpa using ht.1
      have :cs= #[]:=by rw[←Array.toArray_toList (xs:=cs),List.isEmpty_iff.1 ht.2]
      subst this;exact⟨rfl,(Option.some.inj ho).symm⟩
    cases ho
   refine(hr.2 u hrr ok [] [] w1 _ hmc rfl hargs).mono ?_;rintro e w2 ⟨ok2,H2,rfl,hm2⟩;exact⟨hgr hm2,.inr ⟨by rw[hu.1],hu.2⟩⟩
 rw[hw1]at hcall;refine(amC hcall (Rv:=fun v w2=>∃x ok2,r=.ok x∧Mem ⟨_,ok,[],[]⟩ ok2 [] [] w2∧RD ok2 w2 (.sl (enc x)) v) (bad:=out=s)).mono ?_;rw[←hw1];rintro e w' ⟨hg,h⟩
 have mk:∀(ok2:Nat→Prop),(∀b,ok b→ok2 b)→(∀b,ok2 b→ok b∨(w.heap.size≤b∧b<w'.heap.size))→Mem ⟨w,ok,X,[]⟩ ok2 [] [] w':=fun ok2 h1 h2=>
  (hm.change (ok':=ok2) (H':=[]) (es':=[]) (w':=w') (fun _=>False) hg.os hg.tape hg.output hg.size (fun b hb _=>hg.block b hb (by simp)) (fun _ h=>h.elim) h1 h2 (.refl _) rfl (fun k e h he=>by simp at he)).1
 rcases h with⟨v,w2,rfl,⟨x,ok2,hx,hm2,hD⟩,hg2,hlt,h3⟩|⟨rfl,rfl⟩
 ·rw[hx]at ho;obtain rfl:=Option.some.inj ho
  have hgg:Grow ok2 w2 ok2 w':=fun b hb=>⟨hb,h3.block b (hm2.jH b hb) (fun e=>by
   obtain rfl:=Option.some.inj e;rcases hm2.rQ _ hb with h|h|h
   ·have:=hm.jH _ h;omega
   ·simp only at h;omega
   simp at h)⟩
  refine⟨v,ok2,[],rfl,mk ok2 hm2.rP (fun b hb=>?_),.d _ _ (hD.mono hgg)⟩;rcases hm2.rQ b hb with h|h|h
  ·exact .inl h
  ·simp only at h;exact .inr ⟨by omega,Nat.lt_of_lt_of_le (hm2.jH b hb) h3.size⟩
  simp at h
 have hgg:Grow ok w ok w':=fun b hb=>⟨hb,hg.block b (hm.jH b hb) (by simp)⟩
 exact⟨_,ok,[],rfl,mk ok (fun _ h=>h) (fun _ h=>.inl h),a1.mono hgg (.refl _)⟩
end Go.Proofs.YtolgdkhlelfpoaaGreat
end
section
namespace Go.Proofs
open Go.Shelf
def Tryz.Qq:Go.Shelf.Ren:=⟨fun |6=>421|15=>149|14=>425|28=>204|29=>205|20=>426|21=>427|22=>428|23=>429|24=>430|25=>431|26=>432|27=>433|46=>434|47=>257|48=>258|49=>435|50=>436|57=>437|n=>n,fun |22=>349|24=>351|25=>354|3=>3|39=>89|0=>0|53=>226|55=>228|4=>4|46=>220|45=>219|50=>97|5=>5|9=>9|66=>254|70=>258|76=>300|77=>301|n=>n,fun |n=>n⟩
theorem Tryz.ai6:SlLaysF0.n6 Tryz.prog Tryz.Qq:={
 mixed:=by kernel_rfl
 f6:=⟨Tryz.f421.name,by decide,Tryz.func421.trans (congrArg some (by kernel_rfl))⟩
 f14:=⟨Tryz.f425.name,by decide,Tryz.func425.trans (congrArg some (by kernel_rfl))⟩
 f15:=Tryz.func149.trans (congrArg some (by kernel_rfl))
 f20:=⟨Tryz.f426.name,by decide,Tryz.func426.trans (congrArg some (by kernel_rfl))⟩
 f21:=⟨Tryz.f427.name,by decide,Tryz.func427.trans (congrArg some (by kernel_rfl))⟩
 f22:=⟨Tryz.f428.name,by decide,Tryz.func428.trans (congrArg some (by kernel_rfl))⟩
 f23:=⟨Tryz.f429.name,by decide,Tryz.func429.trans (congrArg some (by kernel_rfl))⟩
 f24:=⟨Tryz.f430.name,by decide,Tryz.func430.trans (congrArg some (by kernel_rfl))⟩
 f25:=⟨Tryz.f431.name,by decide,Tryz.func431.trans (congrArg some (by kernel_rfl))⟩
 f26:=⟨Tryz.f432.name,by decide,Tryz.func432.trans (congrArg some (by kernel_rfl))⟩
 f27:=⟨Tryz.f433.name,by decide,Tryz.func433.trans (congrArg some (by kernel_rfl))⟩
 f28:=Tryz.func204.trans (congrArg some (by kernel_rfl))
 f29:=Tryz.func205.trans (congrArg some (by kernel_rfl))
 f46:=⟨Tryz.f434.name,by decide,Tryz.func434.trans (congrArg some (by kernel_rfl))⟩
 f47:=Tryz.func257.trans (congrArg some (by kernel_rfl))
 f48:=Tryz.func258.trans (congrArg some (by kernel_rfl))
 f49:=⟨Tryz.f435.name,by decide,Tryz.func435.trans (congrArg some (by kernel_rfl))⟩
 f50:=⟨Tryz.f436.name,by decide,Tryz.func436.trans (congrArg some (by kernel_rfl))⟩
 f57:=⟨Tryz.f437.name,by decide,Tryz.func437.trans (congrArg some (by kernel_rfl))⟩
 t0:=Tryz.underlying0
 a0:=Tryz.isAgg0
 z0:=Tryz.sizeOf0
 v0:=Tryz.zeroValue0
 t3:=Tryz.underlying3
 a3:=Tryz.isAgg3
 z3:=Tryz.sizeOf3
 v3:=Tryz.zeroValue3
 t4:=Tryz.underlying4
 a4:=Tryz.isAgg4
 z4:=Tryz.sizeOf4
 v4:=Tryz.zeroValue4
 t5:=Tryz.underlying5
 a5:=Tryz.isAgg5
 z5:=Tryz.sizeOf5
 v5:=Tryz.zeroValue5
 t9:=Tryz.underlying9
 a9:=Tryz.isAgg9
 z9:=Tryz.sizeOf9
 v9:=Tryz.zeroValue9
 t22:=Tryz.underlying349
 a22:=Tryz.isAgg349
 z22:=Tryz.sizeOf349
 v22:=Tryz.zeroValue349
 t25:=Tryz.underlying354
 a25:=Tryz.isAgg354
 z25:=Tryz.sizeOf354
 v25:=Tryz.zeroValue354
 t39:=Tryz.underlying89
 a39:=Tryz.isAgg89
 z39:=Tryz.sizeOf89
 v39:=Tryz.zeroValue89
 t45:=Tryz.underlying219
 a45:=Tryz.isAgg219
 z45:=Tryz.sizeOf219
 v45:=Tryz.zeroValue219
 t46:=Tryz.underlying220
 a46:=Tryz.isAgg220
 z46:=Tryz.sizeOf220
 v46:=Tryz.zeroValue220
 t50:=Tryz.underlying97
 a50:=Tryz.isAgg97
 z50:=Tryz.sizeOf97
 v50:=Tryz.zeroValue97
 t53:=Tryz.underlying226
 a53:=Tryz.isAgg226
 z53:=Tryz.sizeOf226
 v53:=Tryz.zeroValue226
 t55:=Tryz.underlying228
 a55:=Tryz.isAgg228
 z55:=Tryz.sizeOf228
 v55:=Tryz.zeroValue228
 t66:=Tryz.underlying254
 a66:=Tryz.isAgg254
 z66:=Tryz.sizeOf254
 v66:=Tryz.zeroValue254
 t70:=Tryz.underlying258
 a70:=Tryz.isAgg258
 z70:=Tryz.sizeOf258
 v70:=Tryz.zeroValue258
 t76:=Tryz.underlying300
 a76:=Tryz.isAgg300
 z76:=Tryz.sizeOf300
 v76:=Tryz.zeroValue300
 t77:=Tryz.underlying301
 a77:=Tryz.isAgg301
 z77:=Tryz.sizeOf301
 v77:=Tryz.zeroValue301 }
end Go.Proofs
end
