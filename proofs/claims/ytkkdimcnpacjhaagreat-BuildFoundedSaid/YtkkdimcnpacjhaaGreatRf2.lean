/- Part 2 of what the laws' proofs lean on: states of the walk, typed functions of the program and their laws (short forms written by wip/shrink.py; no condition). -/
import Derived.Test.YtkkdimcnpacjhaaGreatRf1
set_option linter.defProp false
set_option linter.unnecessarySimpa false
set_option linter.unusedVariables false
set_option linter.unusedSimpArgs false
section
namespace Go.Proofs.YtkkdimcnpacjhaaGreat
open Go.RowKit
def Aa.Ub (k:Nat) (cs:List D):Aa→Aa
 | .ptr j off=>if j=k then .d (.ref cs off)else .ptr j off
 |x=>x
def Ak.Ub (σ:Ak) (k:Nat) (cs:List D):Ak:=⟨σ.slots.map (Aa.Ub k cs),σ.ents.set k .dead,σ.base⟩
def UF {σ:Ak} (k:Nat) {cs:List Aa} (hk:σ.ents[k]? =some (.box cs)) (hd:cs.all Aa.AO=true):∀C ok H a w,Holds C ok H σ a w→∃ok',Holds C ok' H (σ.Ub k (Iw cs)) a w:=by
 intro C ok H a w q;obtain⟨h,O,hok⟩:=GR q.mem.ent q.mem.hlen hk;have I:k<σ.ents.length:=(FI.1 hk).1;obtain⟨b0,U,hf,hx,hc⟩:=aIL hok hd
 let ok':Nat→Prop:=fun b=>ok b∨D6 h.v=some b
 have M:=fun b u=>q.mem.blk k _ h b hk rfl O u;have hg:EN ok w ok' w:=fun b u=>⟨.inl u,rfl⟩
 refine⟨ok',⟨q.mem.fr,fun b u=>.inl (q.mem.yV b u),?_,?_,q.mem.names,by simp[Ak.Ub,q.mem.hlen],?_,?_,?_⟩,by simp[Ak.Ub,q.size],q.defers.mono hg,q.base,?_⟩
 ·rintro b (u|u)
  ·exact q.mem.yX b u
  exact .inr (M b u).2.2
 ·rintro b (u|u)
  ·exact q.mem.kN b u
  exact(M b u).2.1
 ·intro j e' h' he J;rcases LD I he with⟨rfl,rfl⟩|⟨_,L⟩
  ·trivial
  exact(q.mem.ent j e' h' L J).mono hg (.refl _) (fun _ _ _=>rfl)
 ·intro j e' h' b he hl J u;rcases LD I he with⟨rfl,rfl⟩|⟨hne,L⟩
  ·cases hl
  have h3:=q.mem.blk j e' h' b L hl J u;refine⟨fun z=>?_,h3.2⟩;rcases z with z|z
  ·exact h3.1 z
  exact hne (q.mem.D8 j k e' _ h' h b L hk hl rfl J O u z)
 ·intro i j e1 e2 h1 h2 b he1 he2 Y Z hh1 hh2 hb1 hb2;rcases LD I he1 with⟨rfl,rfl⟩|⟨_,arY⟩
  ·cases Y
  rcases LD I he2 with⟨rfl,rfl⟩|⟨_,alg⟩
  ·cases Z
  exact q.mem.D8 i j e1 e2 h1 h2 b arY alg Y Z hh1 hh2 hb1 hb2
 intro t ht;simp only[Ak.Ub,CB]at ht
 have e1:(σ.Ub k (Iw cs)).slots.getD t .junk=(σ.slots.getD t .junk).Ub k (Iw cs):=by
  simp only[Ak.Ub];exact RN _ _ _ ht
 rw[e1];have hR:=(q.slot t ht).mono hg (Names.refl H);generalize σ.slots.getD t .junk=x at hR ⊢;generalize a.tmps.getD t undef=v at hR ⊢;cases x with
 |ptr j off=>
  simp only[Aa.Ub];split
  ·rename_i hj;subst hj;cases hR with
   |ptr _ _ b s hH=>
    rw[O]at hH;obtain rfl:=CS hH;simp at U;subst U;have :=Dk.ref (ok:=ok') (w:=w) (Iw cs) off b 0 (fun _=>.inr rfl) hf hx (fun j hj=>(hc j hj).mono hg);rw[Ij]at this;exact .d _ _ this
  exact hR
 |_=>exact hR
section
variable {P : Program} {o : Oper} {es : List Az} {α β γ : Type}
def qF {ok:Nat→Prop} {w:World} {H:List BN} {a:Act}:∀{xs:List Operand} {vs:List Aa},xs.length=vs.length→(∀n∈FM xs vs,R ok w H n.2 (a.eval n.1))→∀i,i<vs.length→R ok w H (vs.getD i .junk) ((xs.map a.eval).getD i undef)
 | [],[],_,_,i,hi=>Ot
 | [],_::_,h,_,_,_=>Ig
 |_::_,[],h,_,_,_=>Ig
 |x::xs,v::vs,h,j,0,_=>by simpa using j (x,v) (by simp[FM])
 |x::xs,v::vs,h,j,i+1,hi=>by
  have :=qF J3 (fun n q=>j n (by simp[FM,q])) i G6;simpa using this
def XD {fn:Fn} {j:Array Operand} (q:List D) (hl:j.toList.length=q.length) (I:o.op=.makeFunc fn #[] j):BR P o (FM j.toList (q.map .d)) es (.d (.fn fn [] q)) es:=
 .pure fun ok H a w _ _ J=>by
  refine⟨.func fn #[] (j.map a.eval),by simp[execOp,I,Instr.makeFunc],.d _ _ (.fn fn [] q #[] _ rfl MC (fun i hi=>Ot) (fun i hi=>?_))⟩;have z:=qF (xs:=j.toList) (vs:=q.map .d) MC J i G6;have L:(q.map Aa.d).getD i .junk=.d (q.getD i Dh):=NZ
  have u:i<j.size:=by have :j.size=q.length:=MC
                      omega
  have M:(j.toList.map a.eval).getD i undef=(j.map a.eval).getD i undef:=by simp[List.getD,Array.getD,u]
  rw[L,M]at z;cases z with |d _ _ h=>exact h
def aXh {f:FuncId} {C:EP} {ok:Nat→Prop} {H:List BN} {w:World} (hm:Ce C ok H es w) {z:List D} {u:Aa} (Z:Aq P f (z.map .d) [] u []) (q:Array Value) (hs:q.size=z.length) (O:∀i,i<z.length→Dk ok w (z.getD i Dh) (q.getD i undef)) (J:u.up [] es.length=u):
 Calls P f q w fun e w'=>∃v ok' H',e=.returned v∧EN ok w ok' w'∧Names H H'∧Ce C ok' H' es w'∧R ok' w' H' u v:=by
 have U:Ce ⟨w,ok,[],[]⟩ ok [] [] w:=
  ⟨.refl _ _,fun _ h=>h,fun _ h=>.inl h,hm.kN,.refl _,rfl,fun k e h I _=>by simp at I,fun k e h b I=>by simp at I,fun k k' e e' h h' b I=>by simp at I⟩
 refine(Z ok [] [] w q U nV (fun i hi=>?_)).mono ?_
 ·have L:i<z.length:=G6
  have e1:(z.map Aa.d).getD i .junk=.d (z.getD i Dh):=by simp[List.getD,L]
  rw[e1];exact .d _ _ (O i L)
 rintro e w' ⟨v,ok',H',rfl,j,hR⟩;have Y:H'=[]:=Gh j.hlen
 obtain⟨h1,h2⟩:=hm.change (ok':=ok') (H':=H) (es':=es) (w':=w') (fun _=>False) j.fr.os j.fr.tape j.fr.output j.fr.size (fun b M _=>j.fr.block b M Aw) (fun _ h=>h.elim) j.yV (fun b M=>by
  rcases j.yX b M with h|h|h
  ·exact .inl h
  ·exact .inr ⟨h,j.kN b M⟩
  simp at h) (.refl _) hm.hlen (fun k e h I hh=>.inl ⟨I,hh,fun _ _ _ h=>h⟩)
 refine⟨v,ok',H,rfl,h2,.refl _,h1,?_⟩;have :=aTa (srcs:=[]) (H:=H) (Hc:=[]) (H':=H') rfl (fun i k h=>Ig) (fun k v O=>by simp at O) hR;rw[hm.hlen,J,Y]at this;simpa using this
def aRl {f:FuncId} {x:Operand} {ops:Array Operand} {ats:Array TypeId} (j cs:List D) {q:Aa} (hr:Aq P f ((j++cs).map .d) [] q []) (hf:BA P f=true) (hl:ops.toList.length=j.length) (J:q.up [] es.length=q)
 (ho:o.op=.call { callee:=.value x,args:=ops,argTypes:=ats }):BR P o ((x,.d (.fn (.func f) [] cs))::FM ops.toList (j.map .d)) es q es:=by
 intro C ok H a w Q hm hn;have O:=hn (x,.d (.fn (.func f) [] cs)) Aw;simp only at O;have z:=qF (xs:=ops.toList) (vs:=j.map .d) MC (fun n U=>hn n (F5 _ U));generalize hv:a.eval x=v at O;cases O with
 |d _ _ h=>
  cases h with
  |fn _ _ _ vs us Y Z h1 h2=>
   have hvs:vs= #[]:=W9 Vz;subst hvs;unfold Oper.wp
   have he:(execOp a.eval o).run P w=.ok (.enter f ((ops.map a.eval)++us)) w:=by
    have :=TR hf (ops.map a.eval++us) w;simp[execOp,ho,resolve,hv,Deferred.ofValue,invoke,this]
   rw[he,ZU];have L:(ops.map a.eval).size=j.length:=MC
   refine(aXh hm hr _ (by simp[L,Z]) (fun i hi=>?_) J).mono ?_
   ·by_cases u:i<j.length
    ·have M:=z i TS;have e1:(j.map Aa.d).getD i .junk=.d (j.getD i Dh):=aJh
     have I:i<ops.size:=aVY
     have e2:(ops.toList.map a.eval).getD i undef=(ops.map a.eval++us).getD i undef:=by
      simp[List.getD,Ib,YE,I]
     have e3:(j++cs).getD i Dh=j.getD i Dh:=by simp[List.getD,GZ u]
     rw[e1,e2]at M;rw[e3];cases M with |d _ _ h=>exact h
    have I:i-j.length<cs.length:=aOf
    have e3:(j++cs).getD i Dh=cs.getD (i-j.length) Dh:=by simp[List.getD,Jf (WT u)]
    have e4:(ops.map a.eval++us).getD i undef=us.getD (i-j.length) undef:=by
     simp only[Ib];rw[aPC AA,L]
    rw[e3,e4];exact h2 _ I
   rintro e w' ⟨v,ok',H',rfl,M,h4,h5,h6⟩;exact⟨v,ok',H',rfl,M,h4,h5,h6⟩
def U0 (P:Program) (j:α→D) (q:β→D) (d:D) (g:α→Option β):Prop:=∃f cs,d=.fn (.func f) [] cs∧BA P f=true∧∀a b,g a=some b→Aq P f (([j a]++cs).map .d) [] (.d (q b)) []
def X3 (P:Program) (j:α→D) (q:β→D) (u:γ→D) (d:D) (g:α→β→Option γ):Prop:=∃f cs,d=.fn (.func f) [] cs∧BA P f=true∧∀a b c,g a b=some c→Aq P f (([j a,q b]++cs).map .d) [] (.d (u c)) []
def qh {x y:Operand} {ats:Array TypeId} {j:α→D} {q:β→D} {d:D} {g:α→Option β} {a:α} {b:β} (hd:U0 P j q d g) (h:g a=some b) (u:o.op=.call { callee:=.value x,args:= #[y],argTypes:=ats }):
 BR P o [(x,.d d),(y,.d (j a))] es (.d (q b)) es:=by
 obtain⟨f,cs,rfl,z,I⟩:=hd;exact aRl [j a] cs (I a b h) z rfl rfl u
def YJ {x y z:Operand} {ats:Array TypeId} {j:α→D} {q:β→D} {u:γ→D} {d:D} {g:α→β→Option γ} {a:α} {b:β} {c:γ} (hd:X3 P j q u d g) (h:g a b=some c) (I:o.op=.call { callee:=.value x,args:= #[y,z],argTypes:=ats }):
 BR P o [(x,.d d),(y,.d (j a)),(z,.d (q b))] es (.d (u c)) es:=by
 obtain⟨f,cs,rfl,J,L⟩:=hd;exact aRl [j a,q b] cs (L a b c h) J rfl rfl I
end
section
variable {P : Program} {o : Oper} {es : List Az}
def aDf {ns:List (Operand×Aa)} {v:Aa} {es':List Az} (e:TypeId) (size:Nat) (h:BR P o ((.const (.slice none 0 0),.aY es.length)::ns) (es++[.arr e size []]) v es'):BR P o ns es v es':=by
 intro C ok H a w Q hm z;obtain⟨I,J⟩:=aNd hm e size;refine Oper.wp_mono ?_ (h C ok _ a w Q I (fun n j=>?_))
 ·rintro a' w' ⟨v',ok',H',L,M,q,u,O⟩;exact⟨v',ok',H',L,M,(Names.push _ _).trans q,u,O⟩
 rcases EG.1 j with rfl|j
 ·exact J
 exact(z n j).mono (.refl _ _) (Names.push _ _)
def R.ahk {ok:Nat→Prop} {w:World} {H:List BN} {us:List Value} {v:Value} (h:R ok w H (.d (.agg (us.map .lit))) v):v=.agg us.toArray:=by
 cases h with
 |d _ _ h=>
  cases h with
  |agg _ vs hl _ h=>
   congr 1;apply ZK
   ·simpa using hl
   intro i z L;have hi:i<(us.map D.lit).length:=AA
   have j:=h i hi;have q:i<us.length:=G6
   have I:(us.map D.lit).getD i Dh=.lit (us[i]):=by simp[List.getD,q]
   have J:vs.getD i undef=vs[i]:=by simp[Array.getD,z]
   rw[I,J]at j;generalize vs[i]=u at j;cases j;simp
structure fJ (P:Program) (n:Nat) (t:TypeId) (us vs:List Value) (b:Bool):Prop where
 run:∀(d:Nat) (w:World),(Op.equalIn (d+n) t (.agg us.toArray) (.agg vs.toArray)).run P w=.ok b w
def MV {t:TypeId} {cs:Array Value} {off:Nat} {v:Value} {size:Nat} (j:EI P t false size) (h:cs[off]? =some v) (w:World):(part t cs off).run P w=.ok v w:=by
 simp[part,j.agg,h]
def Vj (d:Nat) (xs ys:Array Value):List (TypeId×Nat)→Sem Bool
 | []=>pure true
 |f::j=>do
  let a ←part f.1 xs f.2
  let b ←part f.1 ys f.2
  let r ←Op.equalIn d f.1 a b
  if(!r)=true then pure false else Vj d xs ys j
def aTy (d:Nat) (xs ys:Array Value):∀(j:List Field),j.all (fun f=>f.name != "_")=true→Op.eqFields d xs ys j=Vj d xs ys (j.map fun f=>(f.type,f.offset))
 | [],_=>rfl
 |f::j,h=>by
  simp only[bY,CZ,Si,ne_eq]at h;simp only[Op.eqFields,Ia,Vj,ne_eq,h.1,not_false_eq_true,JV,aTy d xs ys j h.2]
def aBe {d:Nat} {t:TypeId} {xs ys:Array Value} {l:List (TypeId×Nat)} {b:Bool} {w:World} (ht:P.underlying t=some (.struct (P.fieldsOf t))) (hp:P.stoodInHeld t=false) (j:(P.fieldsOf t).toList.all (fun f=>f.name != "_")=true)
 (hl:(P.fieldsOf t).toList.map (fun f=>(f.type,f.offset))=l) (h:(Vj d xs ys l).run P w=.ok b w):(Op.equalIn (d+1) t (.agg xs) (.agg ys)).run P w=.ok b w:=by
 rw[run_equalIn_struct w d t xs ys ht hp,aTy _ _ _ _ j,hl,h]
def aAD (d:Nat) (xs ys:Array Value) (w:World):(Vj d xs ys []).run P w=.ok true w:=by simp[Vj]
def VX {d:Nat} {xs ys:Array Value} {t:TypeId} {off:Nat} {j:List (TypeId×Nat)} {a b:Value} {r rs:Bool} {w:World} (ha:(part t xs off).run P w=.ok a w) (q:(part t ys off).run P w=.ok b w)
 (u:(Op.equalIn d t a b).run P w=.ok r w) (hs:(Vj d xs ys j).run P w=.ok rs w):(Vj d xs ys ((t,off)::j)).run P w=.ok (r&&rs) w:=by
 unfold Vj;simp only[FD,ha,q,u,FP];cases r<;>simp[hs]
def ahE {t t':TypeId} {x y:Operand} {n:Nat} (us vs:List Value) {b:Bool} (h:fJ P n t us vs b) (hd:n≤10000) (I:P.eqGuardType P.depth t=false) (J:o.op=.binOp .eql t x y t'):
 BR P o [(x,.d (.agg (us.map .lit))),(y,.d (.agg (vs.map .lit)))] es (.d (EC b)) es:=
 .pure fun _ _ a w _ _ q=>⟨.bool b,by
  have u:=(Eh q).1.ahk;have z:=(Eh q).2.ahk;simp only at u z;have j:(eqGuard .eql t x y (.agg us.toArray) (.agg vs.toArray)).run P w=.ok () w:=by simp[eqGuard,I]
  simp only[execOp,J,u,z,FD,j,FP,GI,run_eql_struct,(by have :=h.run (10000-n) w;rwa [Nat.sub_add_cancel hd]at this:(Op.equalIn 10000 t (.agg us.toArray) (.agg vs.toArray)).run P w=.ok b w)],.d _ _ (.lit _)⟩
def aLf {t t':TypeId} {x y:Operand} {n:Nat} (us vs:List Value) {b:Bool} (h:fJ P n t us vs b) (hd:n≤10000) (I:P.eqGuardType P.depth t=false) (J:o.op=.binOp .neq t x y t'):
 BR P o [(x,.d (.agg (us.map .lit))),(y,.d (.agg (vs.map .lit)))] es (.d (EC (!b))) es:=
 .pure fun _ _ a w _ _ q=>⟨.bool (!b),by
  have u:=(Eh q).1.ahk;have z:=(Eh q).2.ahk;simp only at u z;have j:(eqGuard .neq t x y (.agg us.toArray) (.agg vs.toArray)).run P w=.ok () w:=by simp[eqGuard,I]
  simp only[execOp,J,u,z,FD,j,FP,GI,run_neq_struct,(by have :=h.run (10000-n) w;rwa [Nat.sub_add_cancel hd]at this:(Op.equalIn 10000 t (.agg us.toArray) (.agg vs.toArray)).run P w=.ok b w)],.d _ _ (.lit _)⟩
def Qk (l:List Int):ByteArray:=l.foldl (fun r n=>r.push (UInt8.ofNat n.toNat)) ByteArray.empty
def amJ {ok:Nat→Prop} {w:World} {H:List BN} {l:List Int} {j:List Value} (h:F6 ok w H (flat (l.map Cc)) j):j=l.map (.int .u8):=by
 rw[aFW]at h;apply oz
 ·simpa using h.1
 intro i z I;have hi:i<(l.map fun n=>Aa.d (Cc n)).length:=Rf
 have u:=(h.2 i hi).2;have q:i<l.length:=G6
 have J:(l.map fun n=>Aa.d (Cc n)).getD i .junk=.d (Cc l[i]):=by simp[List.getD,q]
 have L:j.getD i undef=j[i]:=by simp[List.getD,z]
 rw[J,L]at u;have :=u.lit;simpa using this
def agq {w:World} {v:Value} {m:Nat} {l:List Int} (h:VQ w v m 1 (l.map (.int .u8))):(Conv.bytesToString v).run P w=.ok (.string (Qk l)) w:=by
 rcases h.at_ with⟨ad,c,rfl,j⟩|⟨c,rfl,hm⟩
 ·refine run_bytesToString w ad m c l ?_;have hl:=h.len;have :=aOL (P:=P) w ad (l.map (Value.int .u8)) j;rw[CB,dF]at hl;rw[CB,hl]at this;exact this
 have hl:=h.len;rw[hm,zV,CB]at hl;rw[Gh hl];simp[Conv.bytesToString,Qk]
def Value.isSlice:Value→Bool
 | .slice _ _ _=>true
 |_=>false
def afW {w:World} {v:Value} {m size:Nat} {j:List Value} (h:VQ w v m size j):Value.isSlice v=true:=by
 rcases h.at_ with⟨_,_,rfl,_⟩|⟨_,rfl,_⟩<;>rfl
def an2 {s t e:TypeId} {v:Value} {w:World} {r:ByteArray} (hs:P.underlying s=some (.slice e)) (j:P.underlying e=some (.int .u8)) (ht:P.underlying t=some .string) (q:Value.isSlice v=true)
 (h:(Conv.bytesToString v).run P w=.ok (.string r) w):(convert s t v).run P w=.ok (.string r) w:=by
 cases v<;>simp[Value.isSlice]at q
 simp[convert,underlying,hs,j,ht,h]
def aky {s t e:TypeId} {x:Operand} {l:List Int} (hs:P.underlying s=some (.slice e)) (J:P.underlying e=some (.int .u8)) (ht:P.underlying t=some .string) (L:o.op=.convert s t x):
 BR P o [(x,.d (BM Cc l))] es (.d (Dw (Qk l))) es:=
 .pure fun ok H a w _ _ M=>by
  have q:=KH M;simp only at q;generalize O:a.eval x=v at q;refine⟨.string (Qk l),?_,.d _ _ (.lit _)⟩;cases q with
  |d _ _ h=>
   obtain⟨I,j,u⟩:=gq H h (size:=1) (fun y U=>by obtain⟨n,_,rfl⟩:=Dp.1 U;rfl);obtain rfl:=amJ u;have z:=afW j;simp[execOp,L,O,an2 hs J ht z (agq j)]
def PV {fn:Fn} {firsts j:Array Operand} {fi ca:List Aa} (hl:firsts.toList.length=fi.length) (hm:j.toList.length=ca.length) (I:o.op=.makeFunc fn firsts j):
 BR P o (FM firsts.toList fi++FM j.toList ca) es (.fn fn fi ca) es:=
 .pure fun ok H a w _ _ q=>by
  have key:∀(xs:Array Operand) (vs:List Aa),xs.toList.length=vs.length→(∀n∈FM xs.toList vs,R ok w H n.2 (a.eval n.1))→∀i,i<vs.length→R ok w H (vs.getD i .junk) ((xs.map a.eval).getD i undef):=by
   intro xs vs hl q i hi;have z:=qF hl q i hi
   have u:i<xs.size:=by have :xs.size=vs.length:=MC
                        omega
   have J:(xs.toList.map a.eval).getD i undef=(xs.map a.eval).getD i undef:=by simp[List.getD,Array.getD,u]
   rw[J]at z;exact z
  refine⟨.func fn (firsts.map a.eval) (j.map a.eval),by simp[execOp,I,Instr.makeFunc],.fn fn fi ca _ _ MC (by simpa using hm) (key _ _ hl fun n h=>q n (by simp[h])) (key _ _ hm fun n h=>q n (by simp[h]))⟩
def aOY :∀{xs:List Operand} {vs:List Aa} {ys:List Operand} {us:List Aa},xs.length=vs.length→FM (xs++ys) (vs++us)=FM xs vs++FM ys us
 | [],[],_,_,_=>rfl
 | [],_::_,_,_,h=>Ig
 |_::_,[],_,_,h=>Ig
 |x::xs,v::vs,ys,us,h=>by simp[FM,aOY (xs:=xs) (vs:=vs) J3]
def aLx {ok:Nat→Prop} {w:World} {H:List BN} {a:Act}:∀{us:List Value} {vs:List Aa},us.length=vs.length→(∀i,i<vs.length→R ok w H (vs.getD i .junk) (us.getD i undef))→∀n∈FM (us.map Operand.const) vs,R ok w H n.2 (a.eval n.1)
 | [],[],_,_,n,j=>by simp[FM]at j
 | [],_::_,h,_,_,_=>Ig
 |_::_,[],h,_,_,_=>Ig
 |u::us,v::vs,hl,h,n,j=>by
  simp only[Ia,FM,EG]at j;rcases j with rfl|j
  ·have :=h 0 Aw;simp at this;exact this
  exact aLx (us:=us) (vs:=vs) MC (fun i hi=>by simpa using h (i+1) G6) n j
def aRw {f:FuncId} {x:Operand} {ops:Array Operand} {ats:Array TypeId} (srcs:List Dj) {fi ca dU fC:List Aa} {E E':List Az} {u:Aa} (L:Aq P f fC E u E') (M:BA P f=true) (O:RZ srcs es E E'=true) (hE:oh srcs es E)
 (ha:MS srcs (fi++dU++ca) fC) (hl:ops.toList.length=dU.length) (U:o.op=.call { callee:=.value x,args:=ops,argTypes:=ats }):
 BR P o ((x,.fn (.func f) fi ca)::FM ops.toList dU) es (u.up srcs es.length) (Lh srcs es E'):=by
 intro C ok H a w Q hm J;have I:=J (x,.fn (.func f) fi ca) Aw;simp only at I;generalize Y:a.eval x=v at I;cases I with
 |fn _ _ _ vs us q z Z h2=>
  unfold Oper.wp
  have he:(execOp a.eval o).run P w=.ok (.enter f ((vs++ops.map a.eval)++us)) w:=by
   have :=TR M (vs++ops.map a.eval++us) w;rw[Array.append_assoc]at this;simp[execOp,U,resolve,Y,Deferred.ofValue,invoke,this]
  rw[he,ZU]
  have e:vs++ops.map a.eval++us=((vs.toList.map Operand.const++ops.toList++us.toList.map Operand.const).map a.eval).toArray:=by
   apply aJr;simp[wo,Act.eval]
  rw[e];have l1:(vs.toList.map Operand.const).length=fi.length:=MN
  refine(aXR hm srcs L O hE ha (by simp at hl;simp[q,z,hl]) (a:=a) ?_).mono ?_
  ·rw[aOY (by simp at hl;simp[q,hl]),aOY l1];intro n j;simp only[Hl]at j;rcases j with(j|j)|j
   ·exact aLx MN (fun i hi=>by have :=Z i hi;simpa[List.getD,Ib]using this) n j
   ·exact J n (F5 _ j)
   exact aLx Le (fun i hi=>by have :=h2 i hi;simpa[List.getD,Ib]using this) n j
  rintro e w' ⟨v,ok',H',rfl,h3,h4,h5,h6⟩;exact⟨v,ok',H',rfl,h3,h4,h5,h6⟩
def R.dfn {ok:Nat→Prop} {w:World} {H:List BN} {f:Fn} {fi ca:List D} {v:Value} (h:R ok w H (.d (.fn f fi ca)) v):R ok w H (.fn f (fi.map .d) (ca.map .d)) v:=by
 cases h with
 |d _ _ h=>
  cases h with
  |fn _ _ _ vs us u z I J=>
   refine .fn f _ _ vs us TS Le (fun i hi=>?_) (fun i hi=>?_)
   ·have j:i<fi.length:=G6
    have q:(fi.map Aa.d).getD i .junk=.d (fi.getD i Dh):=by simp[List.getD,j]
    rw[q];exact .d _ _ (I i j)
   have j:i<ca.length:=G6
   have q:(ca.map Aa.d).getD i .junk=.d (ca.getD i Dh):=by simp[List.getD,j]
   rw[q];exact .d _ _ (J i j)
def abQ {f:FuncId} {x:Operand} {ops:Array Operand} {ats:Array TypeId} (srcs:List Dj) {fi ca:List D} {dU fC:List Aa} {E E':List Az} {q:Aa} (z:Aq P f fC E q E') (I:BA P f=true) (J:RZ srcs es E E'=true) (hE:oh srcs es E)
 (ha:MS srcs (fi.map .d++dU++ca.map .d) fC) (hl:ops.toList.length=dU.length) (L:o.op=.call { callee:=.value x,args:=ops,argTypes:=ats }):
 BR P o ((x,.d (.fn (.func f) fi ca))::FM ops.toList dU) es (q.up srcs es.length) (Lh srcs es E'):=by
 intro C ok H a w Q hm u;refine aRw (fi:=fi.map .d) (ca:=ca.map .d) srcs z I J hE ha hl L C ok H a w Q hm (fun n j=>?_);rcases EG.1 j with rfl|j
 ·exact R.dfn (u (x,.d (.fn (.func f) fi ca)) Aw)
 exact u n (F5 _ j)
def Sv (S:List Dj) (es:List Az):List Dj→List Az→Prop
 |s::srcs,e::E=>(match s with | .ent k=>es[k]? =some (e.up S es.length)| .nil j=>∃t,e=.arr t j [])∧Sv S es srcs E
 | [],_=>True
 |_::_,[]=>False
def P6 {S:List Dj} {es:List Az} {k:Nat} {e:Az} {srcs:List Dj} {E:List Az} (h:es[k]? =some (e.up S es.length)) (hs:Sv S es srcs E):Sv S es (.ent k::srcs) (e::E):=⟨h,hs⟩
def aWW {S:List Dj} {es:List Az}:∀{srcs:List Dj} {E:List Az},Sv S es srcs E→∀(i:Nat) (s:Dj),srcs[i]? =some s→match s with | .ent k=>(E[i]?).map (Az.up S es.length)=es[k]? | .nil j=>∃e,E[i]? =some (.arr e j [])
 | [],_,_,i,s,hs=>by simp at hs
 |_::_,[],h,_,_,_=>h.elim
 |s::srcs,e::E,h,0,q,hs=>by
  simp at hs;subst hs;have u:=h.1;cases s with
  |ent k=>simp only at u;simp[u]
  |nil j=>obtain⟨t,rfl⟩:=u;exact⟨t,rfl⟩
 |s::srcs,e::E,h,i+1,q,hs=>by
  have :=aWW h.2 i q nV;cases q with
  |ent k=>simpa using this
  |nil j=>simpa using this
def aMv {es:List Az} {srcs:List Dj} {E:List Az} (h:Sv srcs es srcs E):oh srcs es E:=aWW h
def ahB {f:FuncId} {ops:Array Operand} {ats:Array TypeId} (srcs:List Dj) {dU fC:List Aa} {E E':List Az} {j res':Aa} (q:Aq P f fC E j E') (u:BA P f=true) (z:RZ srcs es E E'=true) (hE:Sv srcs es srcs E) (ha:MS srcs dU fC) (hl:ops.toList.length=dU.length)
 (I:res'=j.up srcs es.length) (J:o.op=.call { callee:=.value (.func f),args:=ops,argTypes:=ats }):BR P o (FM ops.toList dU) es res' (Lh srcs es E'):=I▸aYG srcs q u z (aMv hE) ha hl J
def aoE {f:FuncId} {x:Operand} {ops:Array Operand} {ats:Array TypeId} (srcs:List Dj) (fi ca:List Aa) {dU fC:List Aa} {E E':List Az} {j res':Aa} (q:Aq P f fC E j E') (u:BA P f=true) (z:RZ srcs es E E'=true) (hE:Sv srcs es srcs E)
 (ha:MS srcs (fi++dU++ca) fC) (hl:ops.toList.length=dU.length) (I:res'=j.up srcs es.length) (J:o.op=.call { callee:=.value x,args:=ops,argTypes:=ats }):
 BR P o ((x,.fn (.func f) fi ca)::FM ops.toList dU) es res' (Lh srcs es E'):=I▸aRw srcs q u z (aMv hE) ha hl J
def aff {f:FuncId} {x:Operand} {ops:Array Operand} {ats:Array TypeId} (srcs:List Dj) (fi ca:List D) {dU fC:List Aa} {E E':List Az} {j res':Aa} (q:Aq P f fC E j E') (u:BA P f=true) (z:RZ srcs es E E'=true) (hE:Sv srcs es srcs E)
 (ha:MS srcs (fi.map .d++dU++ca.map .d) fC) (hl:ops.toList.length=dU.length) (I:res'=j.up srcs es.length) (J:o.op=.call { callee:=.value x,args:=ops,argTypes:=ats }):
 BR P o ((x,.d (.fn (.func f) fi ca))::FM ops.toList dU) es res' (Lh srcs es E'):=I▸abQ srcs q u z (aMv hE) ha hl J
end
structure Turns (v:Value) (w w':World):Prop where
 os:w'.os=w.os
 tape:w'.tape=w.tape
 output:w'.output=w.output
 size:w.heap.size≤w'.heap.size
 block:∀c,c<w.heap.size→D6 v≠some c→w'.heap[c]? =w.heap[c]?
def Turns.refl (v:Value) (w:World):Turns v w w:=⟨rfl,rfl,rfl,Dn _,fun _ _ _=>rfl⟩
def Turns.aAq {g o n c:Nat} {s:Option Nat} {w w':World} (h:w.grownBy w' (some g)):Turns (.slice (some ⟨g,o,s⟩) n c) w w':=
 ⟨h.os,h.tape,h.output,h.size,fun k q j=>h.block k q (fun e=>j (by cases e;rfl))⟩
def Dk.adC {ok:Nat→Prop} {w:World} {u v:Value} (h:Dk ok w (.lit u) v):v=u:=by cases h;rfl
def aLw :∀(l:List Int),flat (l.map Ad)=l.map fun n=>.d (Ad n)
 | []=>rfl
 |n::l=>by rw[Ia,U3,aLw l];rfl
def aEq {ok:Nat→Prop} {w:World} {H:List BN} {h:BN} {e:TypeId} {l:List Int}:En ok w H h (.arr e 1 (List.map Ad l))↔h.size=1∧lH w e 1 h.v l.length (l.map (.int .i64)):=by
 constructor
 ·rintro⟨u,_,xs,q,z,I⟩;refine⟨u,?_⟩;rw[CB]at q
  have :xs=l.map (.int .i64):=by
   rw[aLw]at z I;rw[CB]at z;refine oz (by simp[z]) fun i hi M=>?_;have j:i<l.length:=AA
   have J:=(I i Wi).2;simp only[List.getD,JD,DC j,IV,MF,DC hi]at J;cases J with |d _ _ h=>rw[Dk.adC h];simp
  rw[←this];exact q
 rintro⟨u,q⟩;refine⟨u,fun x L=>?_,l.map (.int .i64),by rw[CB];exact q,?_⟩
 ·obtain⟨n,_,rfl⟩:=Dp.1 L;rfl
 rw[aLw];refine⟨Aw,fun i hi=>?_⟩;have j:i<l.length:=G6
 simp only[List.getD,JD,DC j,IV,MF];exact⟨rfl,.d _ _ (.lit _)⟩
def aUB {j:Array Value} (hs:j.size=1):j= #[j.getD 0 undef]:=by
 refine ZK (by simp[hs]) fun i u q=>?_;simp at q;subst q;simp[Array.getD,hs]
def Aq.aCN {P:Program} {f:FuncId} {e:TypeId} {l r:List Int}
 (h:∀(v:Value) (w:World),lH w e 1 v l.length (l.map (.int .i64))→Calls P f #[v] w fun x w'=>x=.returned (.tuple #[])∧lH w' e 1 v r.length (r.map (.int .i64))∧Turns v w w'):
 Aq P f [.aY 0] [.arr e 1 (List.map Ad l)] (.eF []) [.arr e 1 (List.map Ad r)]:=by
 intro ok X H w Y hm hs ha;have h0:=ha 0 BJ;rw[aUB hs];obtain⟨hd,L,M⟩:=GR hm.ent hm.hlen (k:=0) rfl;obtain hv:=Nq h0 L;rw[hv];obtain⟨hz,O⟩:=aEq.1 M;refine(h hd.v w O).mono ?_;rintro x w' ⟨rfl,z,ht⟩;have q:=fun b I=>hm.blk 0 _ hd b rfl rfl L I
 have hg:=hm.change (ok':=ok) (H':=H) (w':=w') (es':=[.arr e 1 (List.map Ad r)]) (fun c=>D6 hd.v=some c) ht.os ht.tape ht.output ht.size ht.block (fun c Z _=>⟨(q c Z).1,(q c Z).2.2⟩) (fun _ h=>h) (fun _ h=>.inl h) (.refl _) hm.hlen (by
  intro k e' h' j J
  match k,j with
  |0,j=>
   simp at j;subst j;rw[L]at J;obtain rfl:=CS J;refine .inr ⟨aEq.2 ⟨hz,z⟩,fun _ b I=>⟨(q b I).1,Uy (q b I).2.1 ht.size,(q b I).2.2,fun k' e'' h'' U u=>?_⟩⟩
   match k',u with
   |0,_=>exact absurd rfl U
   |k'+1,u=>simp at u
  |k+1,j=>simp at j)
 exact⟨_,ok,H,rfl,hg.1,.eF [] #[] rfl (fun i hi=>Ot)⟩
def Aq.turned {P:Program} {f:FuncId} {e:TypeId} {l r:List Int}
 (h:∀(v:Value) (w:World),lH w e 1 v l.length (l.map (.int .i64))→Calls P f #[v] w fun x w'=>∃v',x=.returned v'∧lH w' e 1 v' r.length (r.map (.int .i64))∧Turns v w w'∧∀g,D6 v'=some g→D6 v=some g∨w.heap.size≤g):
 Aq P f [.aY 0] [.arr e 1 (List.map Ad l)] (.aY 1) [.dead,.arr e 1 (List.map Ad r)]:=by
 intro ok X H w J hm hs ha;have O:=ha 0 BJ;rw[aUB hs];obtain⟨hd,L,z⟩:=GR hm.ent hm.hlen (k:=0) rfl;obtain U:=Nq O L;rw[U];obtain⟨Y,I⟩:=aEq.1 z;refine(h hd.v w I).mono ?_;rintro x w' ⟨v',rfl,j,ht,q⟩;have u:=hm.turn (e:=.arr e 1 (List.map Ad r)) (h':=⟨v',1⟩) (w':=w') (k:=0) rfl rfl L ht.os ht.tape ht.output ht.size ht.block (fun g u=>⟨rV j u,q g u⟩) (fun _=>aEq.2 ⟨rfl,j⟩);refine⟨v',ok,H++[⟨v',1⟩],rfl,u.1,?_⟩;have hl:H.length=1:=hm.hlen;have M:(H++[(⟨v',1⟩:BN)])[1]? =some ⟨v',1⟩:=by rw[←hl];simp
 rcases j.2 with⟨rfl,_⟩|⟨g,cap,cur,rfl,_⟩
 ·exact .aY 1 _ _ _ 1 M
 exact .aY 1 _ _ _ 1 M
def Aq.plain {P:Program} {f:FuncId} {vs:List Value} {j:Aa} {v:Value} (M:∀ok w H,R ok w H j v)
 (h:∀w,Calls P f vs.toArray w fun x w'=>x=.returned v∧Below w.heap.size w w'):Aq P f (vs.map fun u=>.d (.lit u)) [] j []:=by
 intro ok X H w q hm hs ha
 have e:q=vs.toArray:=by
  refine ZK nV fun i O U=>?_;have z:i<vs.length:=aDm
  have L:=ha i Le;simp only[List.getD,JD,DC z,IV,MF]at L;cases L with |d _ _ h=>have :=Dk.adC h;simpa[Array.getD,O]using this
 rw[e];refine(h w).mono ?_;rintro x w' ⟨rfl,I⟩
 have Y:=hm.change (ok':=ok) (H':=H) (w':=w') (es':=[]) (fun _=>False) I.os I.tape I.output I.size (fun c Z _=>I.block c Z) (fun _ h=>h.elim) (fun _ h=>h) (fun _ h=>.inl h) (.refl _) hm.hlen (by
  intro k e' h' J hh'
  simp at J)
 exact⟨v,ok,H,rfl,Y.1,M _ _ _⟩
def Chain.ayO {P:Program} {ops:Array Oper} {l O:List Oper} {σ σ':Ak} (h:Chain P ops l σ σ') {ro:Option Nat} {C:EP} {H0:List BN} {Q:Exit→Act→World→Prop}:
 ∀{ok:Nat→Prop} {H:List BN} {a:Act} {w:World},Holds C ok H σ a w→Names H0 H→(∀ok' H' a' w',Holds C ok' H' σ' a' w'→Names H0 H'→wpListIn (Iz ro) 0 P ops Q O a' w')→wpListIn (Iz ro) 0 P ops Q (l++O) a w:=by
 induction h with
 |nil σ=>intro ok H a w j U z;exact z ok H a w j U
 | @op o rest σ σ' ns x d Y U L hd k M=>
   intro ok H a w j q z;subst hd;rw[Yo];unfold wpListIn;rw[CP (PS j L)];refine RJ ?_ (Y.inR ro C ok H a w Q j.mem (fun n I=>RD U n I▸j.get n.1));rintro a' w' ⟨v,ok',H',rfl,J,u,hm,Z⟩;exact M (j.put o.dst J u hm Z) (q.trans u) z
 | @oe o rest σ σ' ns x es' d E Y he U L hd k M=>
   intro ok H a w j q z;subst hd;subst he;rw[Yo];unfold wpListIn;rw[CP (PS j L)];refine RJ ?_ (Y.inR ro C ok H a w Q j.mem (fun n I=>RD U n I▸j.get n.1));rintro a' w' ⟨v,ok',H',rfl,J,u,hm,Z⟩;exact M (j.put o.dst J u hm Z) (q.trans u) z
 | @skip o rest σ σ' d L hd k M=>
   intro ok H a w j q z;subst hd;rw[Yo];unfold wpListIn;rw[CU lX];exact⟨fun _ _=>trivial,M (j.put o.dst (.refl _ _) (.refl _) j.mem (.d _ _ (.lit _))) q z⟩
 | @any o rest σ σ' x d hs hd k M=>
   intro ok H a w j q z;subst hd;rw[Yo];unfold wpListIn;rcases hs.1 with⟨ns,Y,U,_,L⟩|⟨rfl,_,L⟩
   ·rw[CP (PS j L)];refine RJ ?_ (Y.inR ro C ok H a w Q j.mem (fun n I=>RD U n I▸j.get n.1));rintro a' w' ⟨v,ok',H',rfl,J,u,hm,Z⟩;exact M (j.put o.dst J u hm Z) (q.trans u) z
   rw[CU lX];exact⟨fun _ _=>trivial,M (j.put o.dst (.refl _ _) (.refl _) j.mem (.d _ _ (.lit _))) q z⟩
 | @ahe o rest σ σ' x E bar d hs hd k M=>
   intro ok H a w j q z;subst hd;rw[Yo];unfold wpListIn;rcases hs.1 with⟨ns,Y,U,_,L⟩|⟨rfl,rfl,L⟩
   ·rw[CP (PS j L)];refine RJ ?_ (Y.inR ro C ok H a w Q j.mem (fun n I=>RD U n I▸j.get n.1));rintro a' w' ⟨v,ok',H',rfl,J,u,hm,Z⟩;exact M (j.put o.dst J u hm Z) (q.trans u) z
   rw[CU lX];exact⟨fun _ _=>trivial,M (j.put o.dst (.refl _ _) (.refl _) j.mem (.d _ _ (.lit _))) q z⟩
 |conv σ2 hc k M=>
  intro ok H a w j q z;obtain⟨ok',hh'⟩:=hc C ok H a w j;exact M hh' q z
def AV.aw1 {P:Program} {σ I:Ak} {Q:Exit→Ak→Prop} {id:Nat} {ops:Array Oper} {q:Oper} {x:Operand} {t t' e d:Nat} {es:List D} (k:Nat) (j:ops.toList.drop k=[q]) (h:Chain P ops (ops.toList.take k) σ I)
 (O:q.op=.binOp .eql t x (.const (.slice none 0 0)) t') (hd:q.dst=some d) (U:q.guard=none) (ht:P.underlying t=some (.slice e)) (Y:I.get x=.d (.sl es)) (Z:∀b,(es≠[]→b=false)→Q .normal (I.rQ (some d) (.d (.lit (.bool b))))):AV P (.region id ops false) σ Q:=by
 refine⟨fun ro _ C ok H a w hh=>aPl ?_⟩;rw[←Qn k ops.toList,j];refine h.ayO hh (.refl H) fun ok' H' a' w' J _=>?_;have z:=Y▸J.get x
 obtain⟨b,hb,hr⟩:∃b,(es≠[]→b=false)∧(execOp a'.eval q).run P w'=.ok (.value (.bool b)) w':=by
  cases z with
  |d _ _ z=>
   generalize u:a'.eval x=v at z
   have key:∀(ad:Option Addr) (n c:Nat),v=.slice ad n c→(execOp a'.eval q).run P w'=.ok (.value (.bool ad.isNone)) w':=fun ad n c L=>by
    have M:(eqGuard .eql t x (.const (.slice none 0 0)) (.slice ad n c) (.slice none 0 0)).run P w'=.ok () w':=by simp[eqGuard]
    have e0:a'.eval (.const (.slice none 0 0))=.slice none 0 0:=rfl;rw[L]at u;simp only[execOp,O,u,e0,FD,M,FP,Lib.run_eql_slice_nil w' t e ad n c 0 0 ht,GI]
   cases z with
   |sl0 ad cap=>exact⟨ad.isNone,fun h=>absurd rfl h,key _ _ _ rfl⟩
   |sl es b off cap size=>exact⟨false,fun _=>rfl,key _ _ _ rfl⟩
 unfold wpListIn;rw[CP (by unfold Region.wanted;rw[U])];unfold Oper.wpIn;rw[iE _ _ _ (by rw[O];intro c h;cases h),hr,Oper.uponIn_value];refine⟨fun _ _=>trivial,?_⟩;unfold wpListIn;exact⟨ok',H',_,by rw[hd];exact J.put (some d) (.refl _ _) (.refl _) J.mem (.d _ _ (.lit _)),Z b hb⟩
def vk {P:Program} {σ u:Ak} {Q:Exit→Ak→Prop} {id:Nat} {ops:Array Oper} {y:Code} {q:Oper} {x:Operand} {t t' e d:Nat} {es:List D} (k:Nat) (j:ops.toList.drop k=[q]) (h:Chain P ops (ops.toList.take k) σ u)
 (I:q.op=.binOp .eql t x (.const (.slice none 0 0)) t') (hd:q.dst=some d) (J:q.guard=none) (ht:P.underlying t=some (.slice e)) (L:u.get x=.d (.sl es)) (M:∀b,(es≠[]→b=false)→AV P y (u.rQ (some d) (.d (.lit (.bool b)))) Q):AV P (.seq (.region id ops false) y) σ Q:=
 AV.seq (fun s=>∃b,(es≠[]→b=false)∧s=u.rQ (some d) (.d (.lit (.bool b)))) (AV.aw1 k j h I hd J ht L fun b z=>⟨b,z,rfl⟩) (by rintro _ ⟨b,z,rfl⟩;exact M b z)
def mW {α:Type} {l:List α} {e:α→D} (h:List.map e l≠[]→true=false):l=[]:=by
 cases l with
 |nil=>rfl
 |cons a l=>exact absurd (h Aw) BJ
def pieces :List Nat→Nat→List Value→List Value
 | [],_,_=>[]
 |n::r,o,cs=>(cs.drop o).take n++pieces r (o+n) cs
def pieces_eq :∀(ns:List Nat) (o:Nat) (cs:List Value),cs.length=o+ns.sum→pieces ns o cs=cs.drop o
 | [],o,cs,h=>by simp at h;simp[pieces,h]
 |n::r,o,cs,h=>by
  simp only[List.sum_cons]at h;unfold pieces;rw[pieces_eq r (o+n) cs AA,←aIF,Qn]
def Kt (w:World) (q:List D) (cs:List Value):Prop:=cs.length=q.length∧∀j,j<q.length→(q.getD j Dh).leaf=true∧Dk (fun b=>b<w.heap.size) w (q.getD j Dh) (cs.getD j undef)
def Kt.nil (w:World):Kt w [] []:=⟨rfl,fun j h=>Ig⟩
def Kt.append {w:World} {q es:List D} {cs us:List Value} (h:Kt w q cs) (k:Kt w es us):Kt w (q++es) (cs++us):=by
 refine⟨by simp[h.1,k.1],fun j J=>?_⟩;by_cases e:j<q.length
 ·have u:(q++es).getD j Dh=q.getD j Dh:=aPW
  have z:(cs++us).getD j undef=cs.getD j undef:=by simp[List.getD,GZ (show j<cs.length by rw[h.1];exact e)]
  rw[u,z];exact h.2 j e
 have I:j-q.length<es.length:=jr
 have u:(q++es).getD j Dh=es.getD (j-q.length) Dh:=by simp[List.getD,Jf (WT e)]
 have z:(cs++us).getD j undef=us.getD (j-q.length) undef:=by
  have L:=h.1;simp only[List.getD,Jf (show cs.length≤j by omega),L]
 rw[u,z];exact k.2 _ I
section
variable {H : Type} {enc : TypeId × Value → H} {w : World} {base : Nat} {spare : Nat → Bool} {held : Bool} {P : Program} {t : TypeId}
def aCQ {α:Type} (enc:TypeId×Value→H) (P:Program) (w:World) (base:Nat) (spare:Nat→Bool) (held:Bool) (t:TypeId) (e:α→D) (V:α→Prop):Prop:=
 ∀Aj cs x,DataW.trod enc P w base spare held Aj t cs=some x→∃a:α,V a∧Kt w (e a).cells cs
def Kt.one {w:World} {x:D} {v:Value} (q:x.cells=[x]) (hl:x.leaf=true) (h:Dk (fun b=>b<w.heap.size) w x v):Kt w x.cells [v]:=by
 rw[q];refine⟨rfl,fun j u=>?_⟩
 match j,u with
 |0,_=>exact⟨hl,h⟩
def aIV {k:IntKind} (ht:P.underlying t=some (.int k)):aCQ enc P w base spare held t (fun n=>D.lit (.int k n)) (fun n:Int=>k.min≤n∧n≤k.max):=by
 intro Aj cs x h;obtain⟨n,rfl, -,j⟩:=DataW.trod_int ht h;exact⟨n,by simpa[Lit.wf]using j,.one rfl rfl (.lit _)⟩
def aUJ (ht:P.underlying t=some .string):aCQ enc P w base spare held t Dw (fun s=>s.size≤maxLen):=by
 intro Aj cs x h;obtain⟨n,rfl, -,j⟩:=DataW.trod_string ht h;exact⟨n,j,.one rfl rfl (.lit _)⟩
def wX {α:Type} {I:Array Field} {Aj:Nat} {cs:List Value} {x:DataW H×List MemPlace} (ht:P.underlying t=some (.struct I)) (h:DataW.trod enc P w base spare held Aj t cs=some x) (i:Nat) (u o n:Nat) (q:(I[i]?).map (fun f=>(f.type,f.offset,P.cellsOf f.type))=some (u,o,n))
 {J:α→D} {V:α→Prop} (M:aCQ enc P w base spare held u J V):∃a:α,V a∧Kt w (J a).cells ((cs.drop o).take n):=by
 obtain⟨xs,k, -, -, -,hlen,z⟩:=DataW.trod_struct ht h;cases j:I[i]? with
 |none=>rw[j]at q;simp at q
 |some f=>
  rw[j]at q;simp only[IV,LU,QH]at q;obtain⟨rfl,rfl,rfl⟩:=q;have L:=z i f j;have hi:i<I.size:=(GX.1 j).1;rw[DC AA]at L;exact M _ _ _ L
def abq {j:Array Field} {Aj:Nat} {cs:List Value} {x:DataW H×List MemPlace} (ht:P.underlying t=some (.struct j)) (h:DataW.trod enc P w base spare held Aj t cs=some x) (n:Nat) (q:P.cellsOf t=n):cs.length=n:=by
 obtain⟨xs,k, -, -,hlen, -⟩:=DataW.trod_struct ht h;rw[hlen,q]
def amA {cs:List Value} {j:List D} (ns:List Nat) (hl:cs.length=ns.sum) (h:Kt w j (pieces ns 0 cs)):Kt w j cs:=by
 rw[pieces_eq ns 0 cs AA]at h;simpa using h
end
def ahY {w:World} {x:D} {j:List D} {cs:Array Value} (q:x=.agg j) (h:Kt w x.cells (Value.agg cs).cells.toList):Dk (fun b=>b<w.heap.size) w x (.agg cs):=by
 subst q;have h':Kt w j cs.toList:=h
 exact .agg j cs (by simpa using h'.1) (fun i hi=>(h'.2 i hi).1) fun i hi=>by
  have :=(h'.2 i hi).2;simpa[Ib,List.getD]using this
def Aq.start {P:Program} {f:FuncId} {xs:List D} {j:Array Value} {W:World} {x:D} (h:Aq P f (xs.map .d) [] (.d x) []) (hs:j.size=xs.length) (ha:∀i,i<xs.length→Dk (fun b=>b<W.heap.size) W (xs.getD i Dh) (j.getD i undef)):
 Calls P f j W fun e W'=>∃v ok,e=.returned v∧Dk ok W' x v∧Below W.heap.size W W':=by
 refine(h (fun b=>b<W.heap.size) [] [] W j ⟨.refl _ _,fun _ h=>h,fun _ h=>.inl h,fun _ h=>h,.refl _,rfl,fun k e h q=>xE,fun k e h b q=>xE,fun k k' e e' h h' b q=>xE⟩ nV (fun i hi=>?_)).mono ?_
 ·have u:i<xs.length:=G6
  have :(xs.map Aa.d).getD i .junk=.d (xs.getD i Dh):=aJh
  rw[this];exact .d _ _ (ha i u)
 rintro e W' ⟨v,ok',H',rfl,hm,z⟩;cases z with
 |d _ _ z=>exact⟨v,ok',rfl,z,hm.fr.below⟩
def Aq.law {P:Program} {f:FuncId} {xs:List D} {j:Array Value} {W:World} (h:Aq P f (xs.map .d) [] (.d (EC true)) []) (hs:j.size=xs.length) (ha:∀i,i<xs.length→Dk (fun b=>b<W.heap.size) W (xs.getD i Dh) (j.getD i undef)):
 Calls P f j W fun e W'=>e=.returned (.bool true)∧Below W.heap.size W W':=by
 refine(h.start hs ha).mono ?_;rintro e W' ⟨v,ok,rfl,q,u⟩;exact⟨by rw[Dk.adC q],u⟩
end Go.Proofs.YtkkdimcnpacjhaaGreat
end
section
namespace Go.Proofs.YtkkdimcnpacjhaaGreat
def DL (l:List Int) (x:Int):Bool:=l.contains x
def Iu {l:List Int} {x:Int}:DL l x=true↔x∈l:=by unfold DL;simp
def OE {l:List Int} {x:Int}:DL l x=false↔x∉l:=by unfold DL;simp
def put (l:List Int) (x:Int):List Int:=if DL l x then l else l.takeWhile (decide<| · <x)++x::l.dropWhile (decide<| · <x)
def EF (l:List Int):List Int:=l.foldl put []
def Hq (a b:List Int):List Int:=b.foldl put (EF a)
def OQ (a b:List Int):List Int:=(EF a).filter (fun x=> !DL b x)
abbrev Inc (l:List Int):Prop:=l.Pairwise (· < ·)
def abT {l:List Int} {x:Int}:∀y∈l.takeWhile (decide<| · <x),y<x:=by
 intro y j;have :=List.all_takeWhile (l:=l) (p:=(decide<| · <x));rw[Di]at this;simpa using this y j
def aaV :∀{l:List Int} {x:Int},Inc l→∀y∈l.dropWhile (decide<| · <x),x≤y
 | [],x,_,y,j=>yF
 |a::l,x,h,y,j=>by
  have h':=Nr.1 h;by_cases ha:a<x
  ·rw[aa0 (by simpa using ha)]at j;exact aaV h'.2 y j
  rw[aXf (by simpa using ha)]at j;rcases EG.1 j with rfl|j
  ·omega
  have :=h'.1 y j;omega
def WL {l:List Int} {x y:Int}:y∈put l x↔y∈l∨y=x:=by
 unfold put;split
 ·rename_i h;have j:x∈l:=Iu.1 h;constructor
  ·exact .inl
  rintro(h|rfl)
  ·exact h
  exact j
 have e:l.takeWhile (decide<| · <x)++l.dropWhile (decide<| · <x)=l:=wV
 have :y∈l↔y∈l.takeWhile (decide<| · <x)∨y∈l.dropWhile (decide<| · <x):=by
  conv=>lhs;rw[←e]
  exact Hl
 rw[this,Hl,EG];constructor
 ·rintro(h|h|h)
  ·exact .inl (.inl h)
  ·exact .inr h
  exact .inl (.inr h)
 rintro((h|h)|h)
 ·exact .inl h
 ·exact .inr (.inr h)
 exact .inr (.inl h)
def SV {l:List Int} {x:Int} (h:Inc l):Inc (put l x):=by
 unfold put;split
 ·exact h
 rename_i I;have j:x∉l:=fun h=>I (Iu.2 h)
 have hd:∀y∈l.dropWhile (decide<| · <x),x<y:=by
  intro y u;have z:=aaV h y u;have J:y∈l:=(aMj _).mem u;have :y≠x:=fun e=>j (e▸J);omega
 refine UG.2 ⟨h.sublist (List.takeWhile_sublist _),Nr.2 ⟨hd,h.sublist (aMj _)⟩,?_⟩;intro a ha b q;have z:=abT a ha;rcases EG.1 q with rfl|q
 ·exact z
 have :=hd b q;omega
def aNP {l:List Int}:∀{acc:List Int} {y:Int},y∈l.foldl put acc↔y∈acc∨y∈l:=by
 induction l with
 |nil=>intro acc y;simp
 |cons a l j=>intro acc y;rw[Ey,j,WL,EG,or_assoc]
def aBS {l:List Int}:∀{acc:List Int},Inc acc→Inc (l.foldl put acc):=by
 induction l with
 |nil=>intro acc h;exact h
 |cons a l j=>intro acc h;exact j (SV h)
def IY {l:List Int} {y:Int}:y∈EF l↔y∈l:=by unfold EF;rw[aNP];simp
def Jk (l:List Int):Inc (EF l):=aBS List.Pairwise.nil
def xH :∀{a b:List Int},Inc a→Inc b→(∀x,x∈a↔x∈b)→a=b
 | [],[],_,_,_=>rfl
 | [],b::bs,_,_,h=>by have :=(h b).2 Aw;simp at this
 |a::aKb,[],_,_,h=>by have :=(h a).1 Aw;simp at this
 |a::aKb,b::bs,ha,J,h=>by
  have q:=Nr.1 ha;have u:=Nr.1 J
  have e:a=b:=by
   rcases EG.1 ((h a).1 Aw)with j|j
   ·exact j
   rcases EG.1 ((h b).2 Aw)with z|z
   ·exact z.symm
   have :=q.1 b z;have :=u.1 a j;omega
  subst e;congr 1;refine xH q.2 u.2 fun x=>?_;have I:=h x;rw[EG,EG]at I;constructor
  ·intro j;rcases I.1 (.inr j)with rfl|z
   ·exact absurd (q.1 x j) AA
   exact z
  intro j;rcases I.2 (.inr j)with rfl|z
  ·exact absurd (u.1 x j) AA
  exact z
def acG {l:List Int} (h:Inc l):EF l=l:=xH (Jk l) h fun _=>IY
def tV (a b:List Int):Hq a b=EF (a++b):=by unfold Hq EF;rw[TQ]
def Tq {a b:List Int} {x:Int}:x∈Hq a b↔x∈a∨x∈b:=by rw[tV,IY,Hl]
def uQ (a b:List Int):Inc (Hq a b):=by rw[tV];exact Jk _
def aGc {a b:List Int} {x:Int}:x∈OQ a b↔x∈a∧x∉b:=by unfold OQ;rw[FN,IY];simp[DL]
def aHO (a b:List Int):Inc (OQ a b):=(Jk a).sublist QM
def ahb (Cb:List Int):∀m,m≤Cb.length→∀x,x∈Lib.compactUpTo Cb.toArray m↔x∈Cb.take m:=by
 intro m
 induction m with
 |zero=>intro _ x;simp[Lib.compactUpTo]
 |succ m u=>
  intro hm x;rw[Lib.compactUpTo_succ,Hl,u AA,Nc AA,Hl];have z:Cb.toArray[m]! =Cb[m]' AA:=by simp[show m<Cb.length by omega]
  by_cases q:Lib.keeps Cb.toArray m=true
  ·rw[CP q,z]
  rw[CU q];have j:Lib.keeps Cb.toArray m=false:=MN
  have I:m≠0:=by intro e;subst e;simp[Lib.keeps]at j
  have J:Cb[m]' AA=Cb[m-1]' AA:=by
   simp[Lib.keeps,I]at j;simpa[show m<Cb.length by omega,show m-1<Cb.length by omega]using j
  constructor
  ·intro h;rcases h with h|h
   ·exact .inl h
   simp at h
  rintro(h|h)
  ·exact .inl h
  refine .inl ?_;simp at h;subst h;rw[J];rw[aUi];exact⟨m-1,AA,rfl⟩
def akU (Cb:List Int) (hs:Cb.Pairwise (· ≤ ·)):∀m,m≤Cb.length→Inc (Lib.compactUpTo Cb.toArray m)∧∀x∈Lib.compactUpTo Cb.toArray m,∃i,∃_:i<m,∃u:i<Cb.length,x=Cb[i]:=by
 intro m
 induction m with
 |zero=>intro _;refine⟨by simp[Lib.compactUpTo],fun x q=>by simp[Lib.compactUpTo]at q⟩
 |succ m O=>
  intro hm;obtain⟨L,u⟩:=O AA;have U:Cb.toArray[m]! =Cb[m]' AA:=by simp[show m<Cb.length by omega]
  rw[Lib.compactUpTo_succ];by_cases z:Lib.keeps Cb.toArray m=true
  ·rw[CP z,U];refine⟨UG.2 ⟨L,Aw,?_⟩,?_⟩
   ·intro a ha b M;simp at M;subst M;obtain⟨i,hi,Y,rfl⟩:=u a ha
    have I:∀j,(Z:j<m)→Cb[j]' AA≤Cb[m-1]' AA:=by
     intro j Z;by_cases e:j=m-1
     ·subst e;omega
     exact IZ.1 hs j (m-1) AA AA AA
    have h3:=I i hi;have h4:=IZ.1 hs (m-1) m AA AA AA
    have h5:Cb[m]' AA≠Cb[m-1]' AA:=by
     have J:m≠0:=AA
     simp[Lib.keeps,J]at z;simpa[show m<Cb.length by omega,show m-1<Cb.length by omega]using z
    omega
   intro x q;rcases Hl.1 q with q|q
   ·obtain⟨i,a,b,c⟩:=u x q;exact⟨i,AA,b,c⟩
   simp at q;exact⟨m,AA,AA,q⟩
  rw[CU z,Oc];refine⟨L,fun x q=>?_⟩;obtain⟨i,a,b,c⟩:=u x q;exact⟨i,AA,b,c⟩
def aPh (l:List Int):Lib.compact (l.mergeSort fun x y=>decide (x≤y))=EF l:=by
 have hs:(l.mergeSort fun x y=>decide (x≤y)).Pairwise (· ≤ ·):=by
  have :=List.pairwise_mergeSort (le:=fun x y:Int=>decide (x≤y)) (by intro a b c;simp;omega) (by intro a b;simp;omega) l;exact this.imp (by intro a b h;simpa using h)
 refine xH (akU _ hs _ (Dn _)).1 (Jk l) fun x=>?_;rw[IY];unfold Lib.compact;rw[ahb _ _ (Dn _),FW];exact List.mem_mergeSort
def dX {R:Type} (o:Option R) (Q:R→Prop):Prop:=∃r,o=some r∧Q r
section
variable {R A B α : Type} {Q : R → Prop}
def dX.ret {r:R} (h:Q r):dX (some r) Q:=⟨r,rfl,h⟩
def dX.bind {o:Option A} {f:A→Option R} {P:A→Prop} (h:dX o P) (k:∀x,P x→dX (f x) Q):dX (o.bind f) Q:=by
 obtain⟨x,rfl,j⟩:=h;exact k x j
def dX.mono {o:Option R} {P:R→Prop} (h:dX o P) (k:∀r,P r→Q r):dX o Q:=by
 obtain⟨x,rfl,j⟩:=h;exact⟨x,rfl,k x j⟩
def dX.bif {b:Bool} {x y:Option R} (j:b=true→dX x Q) (q:b=false→dX y Q):dX (bif b then x else y) Q:=by
 cases b with
 |true=>exact j rfl
 |false=>exact q rfl
def dX.eq {o:Option R} {r:R} (h:dX o (· =r)):o=some r:=by obtain⟨x,rfl,rfl⟩:=h;rfl
def dX.of {o:Option R} {r:R} (h:o=some r):dX o (· =r):=⟨r,h,rfl⟩
def aEu (l:List α) (i:Nat):Ag l (i:Int)=l[i]? :=by unfold Ag;rw[CP (aLA i)];simp
def BZ {l:List α} {i:Nat} (h:i<l.length):Ag l (i:Int)=some l[i]:=by rw[aEu];simp[h]
def Cx {b:Nat} {l m:List α} (h:(l.length+m.length)*b≤140737488355328):Bo b l m=some (l++m):=by unfold Bo;rw[CP h]
def mF {l:List α} {lo hi:Nat} (j:lo≤hi) (q:hi≤l.length):Hg l (lo:Int) (hi:Int)=some ((l.drop lo).take (hi-lo)):=by
 unfold Hg;rw[CP ⟨AA,AA,AA⟩];simp
def wrap_succ (i:Nat) (h:i<9223372036854775807):Ai ((i:Int)+1)=((i+1:Nat):Int):=by
 rw[Yt];omega
def MH {x:Int} (j: -9223372036854775808≤x) (q:x≤9223372036854775807):Ai x=x:=by
 rw[Yt];omega
def aXj {body:(A→Option R)→A→Option R} (I:Nat→A→Prop) (hs:∀m a k,I m a→(∀j a',j<m→I j a'→dX (k a') Q)→dX (body k a) Q):
 ∀n m a,m<n→I m a→dX (bI body n a) Q
 |0,m,a,h,_=>AA
 |n+1,m,a,h,hi=>hs m a _ hi fun j a' h' q=>aXj I hs n j a' AA q
def Xh {body:(A→B→Option R)→A→B→Option R} (I:Nat→A→B→Prop) (hs:∀m a b k,I m a b→(∀j a' q,j<m→I j a' q→dX (k a' q) Q)→dX (body k a b) Q):
 ∀n m a b,m<n→I m a b→dX (aT body n a b) Q
 |0,m,a,b,h,_=>AA
 |n+1,m,a,b,h,hi=>hs m a b _ hi fun j a' q h' u=>Xh I hs n j a' q AA u
def aA7 {body:(Int→Option R)→Int→Option R} (N:Nat) (j:N<Aj) (I:Nat→Prop) (q:I 0)
 (hs:∀i k,i<N→I i→(I (i+1)→dX (k ((i+1:Nat):Int)) Q)→dX (body k (i:Int)) Q) (u:∀k,I N→dX (body k (N:Int)) Q):dX (bI body Aj 0) Q:=by
 refine aXj (body:=body) (Q:=Q) (fun m a=>∃i:Nat,a=i∧i+m=N∧I i) ?_ Aj N 0 j ⟨0,rfl,AA,q⟩;rintro m a k ⟨i,rfl,hm,hi⟩ z;by_cases e:i<N
 ·exact hs i k e hi fun h=>z (m-1) _ AA ⟨i+1,rfl,AA,h⟩
 have :i=N:=AA
 subst this;exact u k hi
def Iq {body:(A→Int→Option R)→A→Int→Option R} (N:Nat) (j:N<Aj) (I:Nat→A→Prop) {a0:A} (q:I 0 a0)
 (hs:∀i a k,i<N→I i a→(∀a',I (i+1) a'→dX (k a' ((i+1:Nat):Int)) Q)→dX (body k a (i:Int)) Q) (u:∀a k,I N a→dX (body k a (N:Int)) Q):dX (aT body Aj a0 0) Q:=by
 refine Xh (body:=body) (Q:=Q) (fun m a b=>∃i:Nat,b=i∧i+m=N∧I i a) ?_ Aj N a0 0 j ⟨0,rfl,AA,q⟩;rintro m a b k ⟨i,rfl,hm,hi⟩ z;by_cases e:i<N
 ·exact hs i a k e hi fun a' h=>z (m-1) _ _ AA ⟨i+1,rfl,AA,h⟩
 have :i=N:=AA
 subst this;exact u a k hi
end
end Go.Proofs.YtkkdimcnpacjhaaGreat
end
section
namespace Go.Proofs
open Go.Proofs.YtkkdimcnpacjhaaGreat
open Go.Shelf
def Tryz.auE:Go.Shelf.Ren:=⟨fun |137=>140|217=>231|266=>316|n=>n,fun |9=>9|5=>5|3=>3|n=>n,fun |n=>n⟩
def Tryz.lays137:Go.Proofs.Lays.n137 Tryz.prog Tryz.auE:={
 mixed:=A8
 f137:=Tryz.func140.trans (Ap some A8)
 f217:=Tryz.func231.trans (Ap some A8)
 f266:=Tryz.func316.trans (Ap some A8)
 t3:=XB
 a3:=mO
 z3:=fU
 v3:=jq
 t5:=o7
 a5:=pJ
 z5:=xq
 v5:=yO
 t9:=dR
 a9:=uh
 z9:=oW
 v9:=uF }
open Go.RowKit in
def Tryz.strings_IndexByte (s:ByteArray) (c:Int) (w:World):
 Calls Tryz.prog 140 #[.string s,.int .u8 c] w fun e w'=>e=.returned (.int .i64 (Lib.indexByte s.data.toList c.toNat.toUInt8))∧w'=w:=Any.strings_IndexByte Tryz.lays137 s c w
def Tryz.auF:Go.Shelf.Ren:=⟨fun |219=>317|217=>231|225=>370|224=>371|267=>372|266=>316|314=>399|n=>n,fun |9=>9|3=>3|4=>4|5=>5|46=>148|146=>328|51=>212|n=>n,fun |1=>0|n=>n⟩
def Tryz.lays219:Go.Proofs.Lays.n219 Tryz.prog Tryz.auF:={
 mixed:=A8
 f217:=Tryz.func231.trans (Ap some A8)
 f219:=Tryz.func317.trans (Ap some A8)
 f224:=Tryz.func371.trans (Ap some A8)
 f225:=Tryz.func370.trans (Ap some A8)
 f266:=Tryz.func316.trans (Ap some A8)
 f267:=Tryz.func372.trans (Ap some A8)
 f314:=Tryz.func399.trans (Ap some A8)
 t3:=XB
 a3:=mO
 z3:=fU
 v3:=jq
 t4:=fO
 a4:=qG
 z4:=yu
 v4:=yY
 t5:=o7
 a5:=pJ
 z5:=xq
 v5:=yO
 t9:=dR
 a9:=uh
 z9:=oW
 v9:=uF
 t46:=aAJ
 a46:=Tryz.isAgg148
 z46:=zJ
 v46:=aEv
 t51:=yw
 a51:=Tryz.isAgg212
 z51:=aAL
 v51:=aED
 t146:=Tryz.underlying328
 a146:=Tryz.isAgg328
 z146:=Tryz.sizeOf328
 v146:=Tryz.zeroValue328
 g1:=by kernel_rfl }
open Go.RowKit Go.Lib in
def Tryz.stringslite_Index_one (s:ByteArray) (c:UInt8) (w:World):
 Calls Tryz.prog 317 #[.string s,.string ⟨#[c]⟩] w fun e w'=>e=.returned (.int .i64 (Lib.indexByte s.data.toList c))∧w'=w:=Any.stringslite_Index_one Tryz.lays219 s c w
def Tryz.auG:Go.Shelf.Ren:=⟨fun |189=>61|125=>124|257=>123|128=>215|129=>216|294=>207|295=>208|296=>209|297=>210|298=>211|299=>212|216=>205|300=>213|301=>214|328=>306|329=>307|330=>308|331=>309|332=>310|215=>270|343=>362|n=>n,fun |28=>35|3=>3|46=>148|0=>0|51=>212|53=>214|4=>4|183=>206|182=>205|131=>47|5=>5|9=>9|218=>279|222=>283|228=>305|229=>306|n=>n,fun |n=>n⟩
def Tryz.lays189:Go.Proofs.Lays.n189 Tryz.prog Tryz.auG:={
 mixed:=A8
 f125:=Tryz.func124.trans (Ap some A8)
 f128:=Tryz.func215.trans (Ap some A8)
 f129:=Tryz.func216.trans (Ap some A8)
 f189:=Tryz.func61.trans (Ap some A8)
 f215:=Tryz.func270.trans (Ap some A8)
 f216:=Tryz.func205.trans (Ap some A8)
 f257:=Tryz.func123.trans (Ap some A8)
 f294:=Tryz.func207.trans (Ap some A8)
 f295:=Tryz.func208.trans (Ap some A8)
 f296:=Tryz.func209.trans (Ap some A8)
 f297:=Tryz.func210.trans (Ap some A8)
 f298:=Tryz.func211.trans (Ap some A8)
 f299:=Tryz.func212.trans (Ap some A8)
 f300:=Tryz.func213.trans (Ap some A8)
 f301:=Tryz.func214.trans (Ap some A8)
 f328:=Tryz.func306.trans (Ap some A8)
 f329:=Tryz.func307.trans (Ap some A8)
 f330:=Tryz.func308.trans (Ap some A8)
 f331:=Tryz.func309.trans (Ap some A8)
 f332:=Tryz.func310.trans (Ap some A8)
 f343:=Tryz.func362.trans (Ap some A8)
 t0:=aDl
 a0:=Tryz.isAgg0
 z0:=Tryz.sizeOf0
 v0:=aCU
 t3:=XB
 a3:=mO
 z3:=fU
 v3:=jq
 t4:=fO
 a4:=qG
 z4:=yu
 v4:=yY
 t5:=o7
 a5:=pJ
 z5:=xq
 v5:=yO
 t9:=dR
 a9:=uh
 z9:=oW
 v9:=uF
 t28:=Tryz.underlying35
 a28:=Tryz.isAgg35
 z28:=Tryz.sizeOf35
 v28:=Tryz.zeroValue35
 t46:=aAJ
 a46:=Tryz.isAgg148
 z46:=zJ
 v46:=aEv
 t51:=yw
 a51:=Tryz.isAgg212
 z51:=aAL
 v51:=aED
 t53:=Tryz.underlying214
 a53:=Tryz.isAgg214
 z53:=Tryz.sizeOf214
 v53:=Tryz.zeroValue214
 t131:=Tryz.underlying47
 a131:=Tryz.isAgg47
 z131:=Tryz.sizeOf47
 v131:=Tryz.zeroValue47
 t182:=Tryz.underlying205
 a182:=Tryz.isAgg205
 z182:=Tryz.sizeOf205
 v182:=Tryz.zeroValue205
 t183:=Tryz.underlying206
 a183:=Tryz.isAgg206
 z183:=Tryz.sizeOf206
 v183:=Tryz.zeroValue206
 t218:=Tryz.underlying279
 a218:=Tryz.isAgg279
 z218:=Tryz.sizeOf279
 v218:=Tryz.zeroValue279
 t222:=Tryz.underlying283
 a222:=Tryz.isAgg283
 z222:=Tryz.sizeOf283
 v222:=Tryz.zeroValue283
 t228:=Tryz.underlying305
 a228:=Tryz.isAgg305
 z228:=Tryz.sizeOf305
 v228:=Tryz.zeroValue305
 t229:=Tryz.underlying306
 a229:=Tryz.isAgg306
 z229:=Tryz.sizeOf306
 v229:=Tryz.zeroValue306 }
open Go.Sort Go.RowKit in
def Tryz.slices_Sort_int (blk off cap:Nat) (Cb:List Int) (w:World) (hH:Holds CY w blk off Cb.toArray) (hblk:blk<w.heap.size) (hsz:Cb.length<4611686018427387904):
 Calls Tryz.prog 61 #[.slice (some ⟨blk,off,none⟩) Cb.length cap] w fun e w'=>
  e=.returned (.tuple #[])∧∃n os,w'=grow (putRow CY (Sort.ahead w n) blk off (Cb.mergeSort fun x y=>decide (x≤y)).toArray) os:=Any.slices_Sort_int Tryz.lays189 blk off cap Cb w hH hblk hsz
def Tryz.aqy:Go.Shelf.Ren:=⟨fun |20=>62|n=>n,fun |22=>35|3=>3|4=>4|0=>0|n=>n,fun |n=>n⟩
def Tryz.apD:Go.Proofs.Lays2.n20 Tryz.prog Tryz.aqy:={
 mixed:=A8
 f20:=Tryz.func62.trans (Ap some A8)
 t0:=aDl
 a0:=Tryz.isAgg0
 z0:=Tryz.sizeOf0
 v0:=aCU
 t3:=XB
 a3:=mO
 z3:=fU
 v3:=jq
 t4:=fO
 a4:=qG
 z4:=yu
 v4:=yY
 t22:=Tryz.underlying35
 a22:=Tryz.isAgg35
 z22:=Tryz.sizeOf35
 v22:=Tryz.zeroValue35
 i3:=by kernel_rfl }
open Go.RowKit Go.Lib Go.Sort in
def Tryz.slices_Compact_int (blk off cap:Nat) (Cb:List Int) (w:World) (hH:Holds CY w blk off Cb.toArray) (hsz:Cb.length≤9223372036854775807) (hcap:Cb.length≤cap):
 Calls Tryz.prog 62 #[.slice (some ⟨blk,off,none⟩) Cb.length cap] w fun e w'=>e=.returned (.slice (some ⟨blk,off,none⟩) (Lib.compact Cb).length cap)∧∃q,w'=putRow CY (Sort.ahead w q) blk off (Lib.compact Cb++List.replicate (Cb.length-(Lib.compact Cb).length) 0).toArray:=Any.slices_Compact_int Tryz.apD blk off cap Cb w hH hsz hcap
open Go.RowKit Go.Lib Go.Sort in
def Tryz.slices_Compact_int_empty (a:Option Addr) (cap:Nat) (w:World):
 Calls Tryz.prog 62 #[.slice a 0 cap] w fun e w'=>e=.returned (.slice a 0 cap)∧w'=w:=Any.slices_Compact_int_empty Tryz.apD a cap w
open Go.RowKit Go.Sort in
def Tryz.slices_Sort_int_none (p:Option Addr) (cap:Nat) (w:World):
 Calls Tryz.prog 61 #[.slice p 0 cap] w fun e w'=>e=.returned (.tuple #[])∧w'=w:=Any.slices_Sort_int_none Tryz.lays189 p cap w
end Go.Proofs
end
section
namespace Go.Proofs.YtkkdimcnpacjhaaGreat
open Go.RowKit
def Zn (x:Int):List Int→List Int
 | []=>[x]
 |y::l=>bif decide (x≤y)then x::y::l else y::Zn x l
def Q8 (l:List Int):List Int:=l.foldr Zn []
def aOa (x:Int):∀l,(Zn x l).Perm (x::l)
 | []=>.refl _
 |y::l=>by
  unfold Zn;cases h:decide (x≤y)with
  |true=>exact .refl _
  |false=>exact((aOa x l).cons y).trans (.swap x y l)
def UA :∀l,(Q8 l).Perm l
 | []=>.refl _
 |x::l=>(aOa x (Q8 l)).trans ((UA l).cons x)
def aa1 (x:Int):∀l,l.Pairwise (· ≤ ·)→(Zn x l).Pairwise (· ≤ ·)
 | [],_=>by simp[Zn]
 |y::l,h=>by
  have h':=Nr.1 h;unfold Zn;cases u:decide (x≤y)with
  |true=>
   have q:x≤y:=YR u;refine Nr.2 ⟨fun z j=>?_,h⟩;rcases EG.1 j with rfl|j
   ·exact q
   have :=h'.1 z j;omega
  |false=>
   have q:¬x≤y:=KT u;refine Nr.2 ⟨fun z j=>?_,aa1 x l h'.2⟩;rcases EG.1 ((aOa x l).mem_iff.1 j)with rfl|j
   ·omega
   exact h'.1 z j
def qP :∀l,(Q8 l).Pairwise (· ≤ ·)
 | []=>.nil
 |x::l=>aa1 x _ (qP l)
def aI2 (l:List Int):Q8 l=l.mergeSort fun x y=>decide (x≤y):=by
 have hs:(l.mergeSort fun x y=>decide (x≤y)).Pairwise (· ≤ ·):=by
  have :=List.pairwise_mergeSort (le:=fun x y:Int=>decide (x≤y)) (by intro a b c;simp;omega) (by intro a b;simp;omega) l;exact this.imp (by intro a b h;simpa using h)
 exact((UA l).trans (List.mergeSort_perm l _).symm).eq_of_pairwise (fun a b _ _ h k=>AA) (qP l) hs
abbrev AL:=List Int
def LK (l:List Int):Option AL:=if l.length≤1099511627776 then some (Q8 l)else none
def Wv (l:List Int):Option AL:=if l.length≤1099511627776 then some (Lib.compact l)else none
def lH.nil (w:World) (e size:Nat):lH w e size (.slice none 0 0) 0 []:=.of (aAr w 0 e size)
def ag3 {w:World} {g cap n:Nat} {e:TypeId} {os:Array Obj} {cur:Array Value} {j q:List Int} (hl:q.length=j.length) (u:w.heap[g]? =some (.cells cur e (0,0)))
 (z:j.length≤cap) (I:cap≤maxLen) (J:cap*1≤cur.size):
 lH (Go.Sort.grow (Go.Sort.putRow CY (Go.Sort.ahead w n) g 0 q.toArray) os) e 1 (.slice (some ⟨g,0,none⟩) j.length cap) j.length (q.map CY):=
 ⟨ZJ,.inr ⟨g,cap,_,rfl,Ci _,heap_sortedI _ u,z,I,by simpa[Go.Sort.putCells]using J,by rw[dF,←hl];exact take_putCellsI cur q AA⟩⟩
def ah6 {w:World} {e:TypeId} {g n cap q k:Nat} {Cb ys:List Int} (h:lH w e 1 (.slice (some ⟨g,0,none⟩) n cap) n (Cb.map CY)) (J:ys.length=n) (L:k≤n):
 lH (Go.Sort.putRow CY (Go.Sort.ahead w q) g 0 ys.toArray) e 1 (.slice (some ⟨g,0,none⟩) k cap) k ((ys.take k).map CY):=by
 rcases h.2 with⟨j,_⟩|⟨M,u,cur,j,z,I,O,hm,hs,ht⟩
 ·cases j
 injection j with e1 _ e3
 injection e1 with e1
 injection e1 with e1
 subst e1;subst e3;refine⟨DW,.inr ⟨g,cap,Go.Sort.putCells CY 0 ys.toArray cur,rfl,z,?_,AA,hm,by simpa[Go.Sort.putCells]using hs,?_⟩⟩
 ·simp[Go.Sort.putRow,Go.Sort.mapBlock,Go.Sort.ahead,NY,I,Go.Sort.onCells]
 have :=take_putCellsI cur ys AA;rw[dF,XR,←this,aQ8,iQ AA]
def acH {l m:List Int} (h:l.Perm m):Q8 l=Q8 m:=by
 have hs:∀(l:List Int),(Q8 l).Pairwise (· ≤ ·):=qP;exact((UA l).trans (h.trans (UA m).symm)).eq_of_pairwise (fun a b _ _ j q=>AA) (hs l) (hs m)
def ah2 {l m:List Int} (h:l.Perm m):LK l=LK m:=by
 unfold LK;rw[h.length_eq,acH h]
abbrev BI:=Aq Tryz.prog
def nN (l r:List Int) (h:LK l=some r):BI 61 [.aY 0] [.arr 3 1 (List.map Ad l)] (.eF []) [.arr 3 1 (List.map Ad r)]:=by
 unfold LK at h;split at h
 ·rename_i O;obtain rfl:=CS h;refine Aq.aCN fun v w q=>?_;rcases q.2 with⟨rfl,M⟩|⟨g,cap,cur,rfl,u,z,I,J,L,j⟩
  ·have hl:l=[]:=Gh M;subst hl;refine(Tryz.slices_Sort_int_none _ _ _).mono ?_;rintro e w' ⟨rfl,h⟩;subst h;exact⟨rfl,lH.nil _ _ _,Turns.refl _ _⟩
  have hs:(l.mergeSort fun x y=>decide (x≤y)).length=l.length:=List.length_mergeSort _;refine(Tryz.slices_Sort_int g 0 cap l w (holds_of_blockI z Wi) (GX.1 z).1 AA).mono ?_;rintro e w' ⟨rfl,n,os,rfl⟩;rw[aI2];refine⟨rfl,?_,Turns.aAq (grownBy_sortedI _)⟩;rw[hs];exact ag3 (os:=os) (n:=n) hs z I J L
 cases h
def aO0 (l r:List Int) (h:Wv l=some r):BI 62 [.aY 0] [.arr 3 1 (List.map Ad l)] (.aY 1) [.dead,.arr 3 1 (List.map Ad r)]:=by
 unfold Wv at h;split at h
 ·rename_i hn;obtain rfl:=CS h;refine Aq.turned fun v w u=>?_;rcases u.2 with⟨rfl,O⟩|⟨g,cap,cur,rfl,I,z,J,U,Y,j⟩
  ·have hl:l=[]:=Gh O;subst hl;refine(Tryz.slices_Compact_int_empty _ _ _).mono ?_;rintro e w' ⟨rfl,h⟩;subst h;exact⟨_,rfl,lH.nil _ _ _,Turns.refl _ _,fun g z=>by simp[D6]at z⟩
  refine(Tryz.slices_Compact_int g 0 cap l w (holds_of_blockI z Wi) AA J).mono ?_;rintro e w' ⟨rfl,q,rfl⟩;have L:=Lib.compact_length_le l;have Z:(Lib.compact l++List.replicate (l.length-(Lib.compact l).length) 0).length=l.length:=DW
  refine⟨_,rfl,?_,?_,fun g z=>.inl z⟩
  ·have :=ah6 (q:=q) u Z L;rw[rX rfl]at this;exact this
  exact⟨rfl,rfl,rfl,by simp[Sort.putRow,Sort.mapBlock,Sort.ahead],fun k hk M=>by
   have :g≠k:=fun e=>M iH
   simp[Sort.putRow,Sort.mapBlock,Sort.ahead,NY,this]⟩
 cases h
def strings_IndexByte (s:ByteArray) (c:Int):Option Int:=some (Lib.indexByte s.data.toList c.toNat.toUInt8)
def ajp (s:ByteArray) (c:Int) (r:Int) (h:strings_IndexByte s c=some r):BI 140 [.d (Dw s),.d (Cc c)] [] (.d (Ad r)) []:=by
 rw[←CS h];exact Aq.plain (vs:=[.string s,.int .u8 c]) (v:=.int .i64 (Lib.indexByte s.data.toList c.toNat.toUInt8)) (fun _ _ _=>.d _ _ (.lit _)) fun w=>(Tryz.strings_IndexByte s c w).mono fun e w' ⟨j,q⟩=>⟨j,by rw[q];exact⟨rfl,rfl,rfl,Dn _,fun _ _=>rfl⟩⟩
def aFZ (s t:ByteArray):Option Int:=match t.data.toList with
 | [c]=>some (Lib.indexByte s.data.toList c)
 |_=>none
def afM (s t:ByteArray) (r:Int) (h:aFZ s t=some r):BI 317 [.d (Dw s),.d (Dw t)] [] (.d (Ad r)) []:=by
 unfold aFZ at h;split at h
 ·rename_i c j;rw[←CS h];obtain⟨⟨l⟩⟩:=t;simp only at j;subst j;exact Aq.plain (vs:=[.string s,.string ⟨#[c]⟩]) (v:=.int .i64 (Lib.indexByte s.data.toList c)) (fun _ _ _=>.d _ _ (.lit _)) fun w=>(Tryz.stringslite_Index_one s c w).mono fun e w' ⟨q,u⟩=>⟨q,by rw[u];exact⟨rfl,rfl,rfl,Dn _,fun _ _=>rfl⟩⟩
 cases h
structure Y4 (P:Program) (t:TypeId) (s:Nat) (z:Value):Prop where
 und:∃n e,P.underlying t=some (.array n e)∧∃i,P.info? e=some i∧i.size=s
 zero:(P.info? t).bind (·.zero)=some z
 one:z.cells.all (·.oneCell')=true
def aSs (P:Program) (t:TypeId) (s:Nat):Bool:=
 match P.underlying t with
 |some (.array _ e)=>match P.info? e with
  |some i=>decide (i.size=s)
  |none=>false
 |_=>false
def sD {P:Program} {t:TypeId} {s:Nat} {z:Value} (h:aSs P t s=true) (j:(P.info? t).bind (·.zero)=some z) (q:z.cells.all (·.oneCell')=true):Y4 P t s z:=by
 unfold aSs at h;split at h
 ·rename_i n e u;split at h
  ·rename_i i hi;exact⟨⟨n,e,u,i,hi,YR h⟩,j,q⟩
  cases h
 cases h
section
variable {P : Program} {o : Oper} {es : List Az} {α : Type}
def alM {t:TypeId} {j:Array (Nat×Operand)} {s:Nat} {z:Value} (hA:Y4 P t s z) (vs:List Aa) (hp:NK (fun i=>some (i*s,s)) (FU z).length j.toList vs=true)
 (hd:(Jz (fun i=>some (i*s,s)) (FU z) j.toList vs).all Aa.AO=true) (ho:o.op=.build t j):
 BR P o (Nl j.toList vs) es (.d (.agg (Iw (Jz (fun i=>some (i*s,s)) (FU z) j.toList vs)))) es:=
 .pure fun ok H a w _ _ hn=>by
  obtain⟨⟨n,e,hu,i,hi,hs⟩,hz,h1⟩:=hA;have u:=aE7 (P:=P) hz w;have I:(underlying t).run P w=.ok (.array n e) w:=aG4
  have J:(sizeOf e).run P w=.ok s w:=aJj
  obtain⟨q,hc,L⟩:=nU (place:=fun i=>some (i*s,s)) j.toList vs (FU z) z.cells (aPm (ok:=ok) (w:=w) (H:=H) h1) hp hn;refine⟨.agg q,?_,.d _ _ ?_⟩
  ·have e:(j.map fun(i,x)=>(i,a.eval x)).toList=j.toList.map fun p=>(p.1,a.eval p.2):=Aw
   simp only[execOp,ho,Instr.build,FD,u,I,J,FP];rw[e,hc];rfl
  rw[aTb hd]at L;generalize Iw (Jz (fun i=>some (i*s,s)) (FU z) j.toList vs)=xs at L ⊢;obtain⟨Z,M⟩:=L;simp only[CB]at Z M
  have hg:∀i,i<xs.length→(xs.map Aa.d).getD i .junk=.d (xs.getD i Dh):=by
   intro i hi;simp[List.getD,hi]
  have O:q.size=xs.length:=by simpa using Z
  refine .agg xs q O ?_ ?_<;>intro i hi
  ·have :=(M i hi).1;rw[hg i hi]at this;exact this
  have U:=(M i hi).2;rw[hg i hi]at U;have Y:i<q.size:=AA
  have e:q.toList.getD i undef=q.getD i undef:=by simp[List.getD,Array.getD,Y]
  rw[e]at U;cases U with |d _ _ h=>exact h
def MP (enc:α→D) (l:List α):D:=.agg (l.map enc)
def aBC {x y:Operand} {t e:TypeId} {n:Nat} {k:IntKind} {i:Int} (enc:α→D) {l:List α} {a:α} (h:Ag l i=some a) (ht:P.underlying t=some (.array n e)) (I:EI P e false 1) (hl:l.length=n) (U:o.op=.index t x y):
 BR P o [(x,.d (MP enc l)),(y,.d (.lit (.int k i)))] es (.d (enc a)) es:=
 .pure fun ok H Y w _ _ J=>by
  obtain⟨Z,L⟩:=JW h;have q:=(Eh J).1;have M:=(Eh J).2.lit;simp only at q M;have u:=(FI.1 L).1;have hu:(underlying t).run P w=.ok (.array n e) w:=ND
  generalize hv:Y.eval x=v at q;cases q with
  |d _ _ q=>
   cases q with
   |agg _ vs z hf O=>
    rw[CB]at z hf O;have j:i.toNat<vs.size:=AA
    refine⟨vs[i.toNat],?_,?_⟩
    ·have hb:0≤i∧i<n:=⟨Z,AA⟩
     simp only[execOp,U,hv,M,Instr.index,asIntOf,FD,GI,hu,FP,hb,and_self,JV,I.size w,part,I.agg w];simp[j]
    have :=O i.toNat u;simp only[Array.getD,j,dif_pos]at this;have e2:(l.map enc).getD i.toNat Dh=enc a:=by simp[List.getD,L]
    rw[e2]at this;exact .d _ _ this
def amE {x:Operand} {k off:Nat} (q:o.op=.nilCheck x):BR P o [(x,.ptr k off)] es (.ptr k off) es:=
 .pure fun ok H a w _ _ z=>by
  have j:=KH z;simp only at j;generalize I:a.eval x=u at j;cases j with
  |ptr _ _ b s h=>exact⟨_,by simp[execOp,q,I],.ptr _ _ b s h⟩
def aiG {x:Operand} {k i off:Nat} (q:o.op=.nilCheck x):BR P o [(x,.lq k i off)] es (.lq k i off) es:=
 .pure fun ok H a w _ _ z=>by
  have j:=KH z;simp only at j;generalize I:a.eval x=u at j;cases j with
  |lq _ _ _ b n cap s h=>exact⟨_,by simp[execOp,q,I],.lq _ _ _ b n cap s h⟩
def alA {x:Operand} {cs:List D} {off:Nat} (z:o.op=.nilCheck x):BR P o [(x,.d (.ref cs off))] es (.d (.ref cs off)) es:=
 .pure fun ok H a w _ _ I=>by
  have j:=KH I;simp only at j;generalize J:a.eval x=u at j;cases j with
  |d _ _ h=>cases h with
   |ref _ _ b p q L M O=>exact⟨_,by simp[execOp,z,J],.d _ _ (.ref _ _ b p q L M O)⟩
def aSa (n:Nat):D:=.fn (.func n) [] []
end
def QI {α:Type} (p:α→Prop):List α→Prop
 | []=>True
 |x::l=>p x∧QI p l
def QI.mem {α:Type} {p:α→Prop}:∀{l:List α},QI p l→∀x∈l,p x
 | [],_,x,h=>Ig
 |y::l,hl,x,h=>by
  rcases EG.1 h with rfl|h
  ·exact hl.1
  exact hl.2.mem x h
class Kn (P:Program) where
 und:List (Nat×TypeDesc)
 aln:QI (fun p:Nat×TypeDesc=>P.underlying p.1=some p.2) und
 ty:List (Nat×Bool×Nat)
 hty:QI (fun p:Nat×Bool×Nat=>EI P p.1 p.2.1 p.2.2) ty
 fld:List ((Nat×Nat)×Nat)
 hfld:QI (fun p:(Nat×Nat)×Nat=>DN P p.1.1 p.1.2 p.2) fld
 part:List ((Nat×Nat)×Nat×Bool×Nat)
 hpart:QI (fun p:(Nat×Nat)×Nat×Bool×Nat=>lF P p.1.1 p.1.2 p.2.1 p.2.2.1 p.2.2.2=true) part
 zero:List (Nat×Value)
 hzero:QI (fun p:Nat×Value=>(P.info? p.1).bind (·.zero)=some p.2∧p.2.cells.all (·.oneCell')=true) zero
 st:List (Nat×List (Nat×Nat)×Value)
 hst:QI (fun p:Nat×List (Nat×Nat)×Value=>JB P p.1 p.2.1 p.2.2) st
 arr:List (Nat×Nat×Value)
 harr:QI (fun p:Nat×Nat×Value=>Y4 P p.1 p.2.1 p.2.2) arr
def QK {β:Type} (t:Nat):List (Nat×β)→Option β
 | []=>none
 |(u,b)::l=>match Nat.beq t u with |true=>some b|false=>QK t l
def Nv {β:Type} {t:Nat} {b:β}:∀{l:List (Nat×β)},QK t l=some b→(t,b)∈l
 | [],h=>Ie
 |(u,c)::l,h=>by
  unfold QK at h;split at h
  ·rename_i e;cases h;rw[aPU e];exact EO
  exact F5 _ (Nv h)
def qy {β:Type} (t f:Nat):List ((Nat×Nat)×β)→Option β
 | []=>none
 |((u,g),b)::l=>match Nat.beq t u&&Nat.beq f g with |true=>some b|false=>qy t f l
def yK {β:Type} {t f:Nat} {b:β}:∀{l:List ((Nat×Nat)×β)},qy t f l=some b→((t,f),b)∈l
 | [],h=>Ie
 |((u,g),c)::l,h=>by
  unfold qy at h;split at h
  ·rename_i e;cases h;rw[CZ]at e;rw[aPU e.1,aPU e.2];exact EO
  exact F5 _ (yK h)
structure Q7 where
 ns:List (Operand×Aa)
 x:Aa
 E:List Az
 bar:Bool
def aIw (op:BinOp) (k:IntKind) (a b:Int):Option Value:=
 match op with
 | .add=>some (.int k (k.wrap (a+b)))
 | .sub=>some (.int k (k.wrap (a-b)))
 | .mul=>some (.int k (k.wrap (a*b)))
 | .eql=>some (.bool (a==b))
 | .neq=>some (.bool (a != b))
 | .lss=>some (.bool (decide (a<b)))
 | .leq=>some (.bool (decide (a≤b)))
 | .gtr=>some (.bool (decide (a>b)))
 | .geq=>some (.bool (decide (a≥b)))
 |_=>none
def aek {op:BinOp} {k:IntKind} {a b:Int} {r:Value} {t:TypeId} {P:Program} (h:aIw op k a b=some r) (w:World):(binOp op t (.int k a) (.int k b)).run P w=.ok r w:=by
 unfold aIw at h;cases op<;>first|(cases h;done)|(cases h;simp[binOp,Op.intArith,Op.intCmp];done)|(cases h;cases k<;>rfl)
def aLu (op:BinOp) (a b:ByteArray):Option Value:=
 match op with
 | .eql=>some (.bool (a.toList==b.toList))
 | .neq=>some (.bool (!(a.toList==b.toList)))
 | .lss=>some (.bool (Op.bytesLess a.toList b.toList))
 | .leq=>some (.bool (Op.bytesLess a.toList b.toList||a.toList==b.toList))
 | .gtr=>some (.bool (!(Op.bytesLess a.toList b.toList||a.toList==b.toList)))
 | .geq=>some (.bool (!Op.bytesLess a.toList b.toList))
 |_=>none
def abt {op:BinOp} {a b:ByteArray} {r:Value} {t:TypeId} {P:Program} (h:aLu op a b=some r) (w:World):(binOp op t (.string a) (.string b)).run P w=.ok r w:=by
 unfold aLu at h;cases op<;>first|(cases h;done)|(cases h;rfl)
def BR.aEf {P:Program} {o:Oper} {ns j:List (Operand×Aa)} {es es':List Az} {x:Aa} (h:BR P o ns es x es') (q:∀n∈ns,n∈j∨n=(.const (.slice none 0 0),.d (.sl []))):BR P o j es x es':=by
 intro C ok H a w Q hm z;refine h C ok H a w Q hm (fun n u=>?_);rcases q n u with I|rfl
 ·exact z n I
 exact .d _ _ (.sl0 none 0)
def Aa.aJ7:Aa→Option Value
 | .d (.lit v)=>some v
 |_=>none
def aKy {P:Program} (K:Kn P) (σ:Ak) (o:Oper):Option Q7:=
 match o.op with
 | .move x=>match x with
   | .const (.slice none 0 0)=>some ⟨[],.d (.sl []),σ.ents,false⟩
   |x=>some ⟨[(x,σ.get x)],σ.get x,σ.ents,false⟩
 | .assign x=>match x with
   | .const (.slice none 0 0)=>some ⟨[],.d (.sl []),σ.ents,false⟩
   |x=>some ⟨[(x,σ.get x)],σ.get x,σ.ents,false⟩
 | .pick c x y=>match σ.get c with
   | .d (.lit (.bool true))=>some ⟨[(c,.d (.lit (.bool true))),(x,σ.get x)],σ.get x,σ.ents,false⟩
   | .d (.lit (.bool false))=>some ⟨[(c,.d (.lit (.bool false))),(y,σ.get y)],σ.get y,σ.ents,false⟩
   |_=>none
 | .binOp op t x y _=>match σ.get x,σ.get y with
   | .d (.lit (.int k a)),.d (.lit (.int k' b))=>if k=k' then(aIw op k a b).map fun r=>⟨[(x,.d (.lit (.int k a))),(y,.d (.lit (.int k b)))],.d (.lit r),σ.ents,false⟩else none
   | .d (.lit (.string a)),.d (.lit (.string b))=>(aLu op a b).map fun r=>⟨[(x,.d (.lit (.string a))),(y,.d (.lit (.string b)))],.d (.lit r),σ.ents,false⟩
   | .d (.lit (.bool a)),.d (.lit (.bool b))=>match QK t K.und with
     |some .bool=>match op with
      | .eql=>some ⟨[(x,.d (EC a)),(y,.d (EC b))],.d (EC (a==b)),σ.ents,false⟩
      | .neq=>some ⟨[(x,.d (EC a)),(y,.d (EC b))],.d (EC (!(a==b))),σ.ents,false⟩
      |_=>none
     |_=>none
   |_,_=>none
 | .unOp op _ x=>match σ.get x with
   | .d (.lit (.bool b))=>match op with
     | .not=>some ⟨[(x,.d (.lit (.bool b)))],.d (.lit (.bool !b)),σ.ents,false⟩
     |_=>none
   | .d (.lit (.int k n))=>match op with
     | .neg=>some ⟨[(x,.d (.lit (.int k n)))],.d (.lit (.int k (k.wrap (0-n)))),σ.ents,false⟩
     |_=>none
   |_=>none
 | .convert s t x=>match QK s K.und,QK t K.und,σ.get x with
   |some (.int J),some (.int k),.d (.lit (.int L n))=>if J=L then some ⟨[(x,.d (.lit (.int J n)))],.d (.lit (.int k (k.wrap n))),σ.ents,false⟩else none
   |some .string,some .string,.d (.lit (.string u))=>some ⟨[(x,.d (Dw u))],.d (Dw u),σ.ents,false⟩
   |_,_,_=>none
 | .extract x i=>match σ.get x with
   | .eF xs=>match xs[i]? with
     |some v=>some ⟨[(x,.eF xs)],v,σ.ents,false⟩
     |none=>none
   |_=>none
 | .fieldAddr t x f=>match qy t f K.fld,σ.get x with
   |some off,.ptr k I=>some ⟨[(x,.ptr k I)],.ptr k (I+off),σ.ents,false⟩
   |some off,.lq k i I=>some ⟨[(x,.lq k i I)],.lq k i (I+off),σ.ents,false⟩
   |some off,.d (.ref cs I)=>some ⟨[(x,.d (.ref cs I))],.d (.ref cs (I+off)),σ.ents,false⟩
   |_,_=>none
 | .nilCheck x=>match σ.get x with
   | .ptr k I=>some ⟨[(x,.ptr k I)],.ptr k I,σ.ents,false⟩
   | .lq k i I=>some ⟨[(x,.lq k i I)],.lq k i I,σ.ents,false⟩
   | .d (.ref cs I)=>some ⟨[(x,.d (.ref cs I))],.d (.ref cs I),σ.ents,false⟩
   |_=>none
 | .field t x f=>match qy t f K.part,σ.get x with
   |some (off,agg,n),.d (.agg cs)=>if off+n≤cs.length∧(agg=false→n=1)then some ⟨[(x,.d (.agg cs))],.d (QC agg cs off n),σ.ents,false⟩else none
   |_,_=>none
 | .load t x=>match QK t K.ty,σ.get x with
   |some (agg,n),.d (.ref cs off)=>if off+n≤cs.length∧(agg=false→n=1)then some ⟨[(x,.d (.ref cs off))],.d (QC agg cs off n),σ.ents,false⟩else none
   |some (agg,n),.ptr k off=>match σ.ents[k]? with
    |some (.box cs)=>if(off+n≤cs.length∧(agg=false→n=1))∧cs.all Aa.AO=true then some ⟨[(x,.ptr k off)],.d (QC agg (Iw cs) off n),σ.ents,false⟩else match agg,n,cs[off]? with
     |false,1,some v=>some ⟨[(x,.ptr k off)],v,σ.ents,false⟩
     |_,_,_=>none
    |_=>none
   |_,_=>none
 | .box _ x=>if(σ.get x).cells.all Aa.leaf=true then some ⟨[(x,σ.get x)],.ptr σ.ents.length 0,σ.ents++[.box (σ.get x).cells],true⟩else none
 | .alloc t=>match QK t K.zero with
   |some z=>some ⟨[],.ptr σ.ents.length 0,σ.ents++[.box (FU z)],true⟩
   |none=>none
 | .store t x y=>match QK t K.ty,σ.get x with
   |some (_,n),.ptr k off=>match σ.ents[k]? with
    |some (.box cs)=>match y with
     | .const (.slice none 0 0)=>if n=1∧off+1≤cs.length then some ⟨[(x,.ptr k off)],.junk,σ.ents.set k (.box (setAt cs off [.d (.sl [])])),true⟩else none
     |y=>if((σ.get y).cells.all Aa.leaf=true∧(σ.get y).cells.length=n)∧off+n≤cs.length then some ⟨[(x,.ptr k off),(y,σ.get y)],.junk,σ.ents.set k (.box (setAt cs off (σ.get y).cells)),true⟩else none
    |_=>none
   |_,_=>none
 | .build t j=>match QK t K.st with
   |some (q,z)=>
    if NK (fun(i:Nat)=>q[i]?) (FU z).length j.toList (j.toList.map fun p=>σ.get p.2)=true∧(Jz (fun(i:Nat)=>q[i]?) (FU z) j.toList (j.toList.map fun p=>σ.get p.2)).all Aa.AO=true
    then some ⟨Nl j.toList (j.toList.map fun p=>σ.get p.2),.d (.agg (Iw (Jz (fun(i:Nat)=>q[i]?) (FU z) j.toList (j.toList.map fun p=>σ.get p.2)))),σ.ents,false⟩
    else none
   |none=>match QK t K.arr with
    |some (s,z)=>
     if NK (fun i=>some (i*s,s)) (FU z).length j.toList (j.toList.map fun p=>σ.get p.2)=true∧(Jz (fun i=>some (i*s,s)) (FU z) j.toList (j.toList.map fun p=>σ.get p.2)).all Aa.AO=true
     then some ⟨Nl j.toList (j.toList.map fun p=>σ.get p.2),.d (.agg (Iw (Jz (fun i=>some (i*s,s)) (FU z) j.toList (j.toList.map fun p=>σ.get p.2)))),σ.ents,false⟩
     else none
    |none=>none
 | .call c=>match c.callee,c.args.toList,c.argTypes.toList with
   | .builtin .len,[x],[t]=>match QK t K.und,σ.get x with
     |some .string,.d (.lit (.string s))=>some ⟨[(x,.d (Dw s))],.d (Ad s.size),σ.ents,false⟩
     |_,_=>none
   |_,_,_=>none
 |_=>none
def aKh (σ:Ak):∀(l:List (Nat×Operand)),needs σ (Nl l (l.map fun p=>σ.get p.2))
 | []=>trivial
 |(_,x)::l=>⟨rfl,aKh σ l⟩
def agW {P:Program} (K:Kn P) {σ:Ak} {o:Oper} {r:Q7} (h:aKy K σ o=some r):BR P o r.ns σ.ents r.x r.E∧needs σ r.ns∧(r.bar=false→r.E=σ.ents):=by
 unfold aKy at h;split at h
 ·rename_i x j;split at h
  ·cases h;exact⟨ae4 j,trivial,fun _=>rfl⟩
  cases h;exact⟨ajO j,⟨rfl,trivial⟩,fun _=>rfl⟩
 ·rename_i x j;split at h
  ·cases h;exact⟨ae0 j,trivial,fun _=>rfl⟩
  cases h;exact⟨aow j,⟨rfl,trivial⟩,fun _=>rfl⟩
 ·rename_i c x y j;split at h
  ·rename_i e;cases h;exact⟨ahI true rfl j,⟨e,rfl,trivial⟩,fun _=>rfl⟩
  ·rename_i e;cases h;exact⟨amc false rfl j,⟨e,rfl,trivial⟩,fun _=>rfl⟩
  cases h
 ·rename_i op t x y t' j;split at h
  ·rename_i k a k' b U Y;split at h
   ·rename_i J;subst J;rw[SI]at h;obtain⟨v,M,rfl⟩:=h;exact⟨Gq j (aek M) ⟨rfl,rfl⟩,⟨U,Y,trivial⟩,fun _=>rfl⟩
   cases h
  ·rename_i a b U Y;rw[SI]at h;obtain⟨v,M,rfl⟩:=h;exact⟨Gq j (abt M) ⟨rfl,rfl⟩,⟨U,Y,trivial⟩,fun _=>rfl⟩
  ·rename_i a b U Y;split at h
   ·rename_i Z;have Z:=K.aln.mem _ (Nv Z);split at h
    ·cases h;exact⟨aoA Z j,⟨U,Y,trivial⟩,fun _=>rfl⟩
    ·cases h;exact⟨ajf Z j,⟨U,Y,trivial⟩,fun _=>rfl⟩
    cases h
   cases h
  cases h
 ·rename_i op t x j;split at h
  ·rename_i b e;split at h
   ·cases h;exact⟨aLe j (fun _=>rfl),⟨e,trivial⟩,fun _=>rfl⟩
   cases h
  ·rename_i k n e;split at h
   ·cases h;exact⟨aLe j (fun _=>rfl),⟨e,trivial⟩,fun _=>rfl⟩
   cases h
  cases h
 ·rename_i s t x j;split at h
  ·rename_i k0 k k1 n I h2 e;split at h
   ·rename_i J;subst J;cases h;exact⟨ag8 (K.aln.mem _ (Nv I)) (K.aln.mem _ (Nv h2)) j,⟨e,trivial⟩,fun _=>rfl⟩
   cases h
  ·rename_i u I h2 e;cases h;exact⟨aoS (K.aln.mem _ (Nv I)) (K.aln.mem _ (Nv h2)) j,⟨e,trivial⟩,fun _=>rfl⟩
  cases h
 ·rename_i x i j;split at h
  ·rename_i xs e;split at h
   ·rename_i v M;cases h;exact⟨apy j M,⟨e,trivial⟩,fun _=>rfl⟩
   cases h
  cases h
 ·rename_i t x f j;split at h
  ·rename_i off k o' I e;cases h;exact⟨aei (K.hfld.mem _ (yK I)) j,⟨e,trivial⟩,fun _=>rfl⟩
  ·rename_i off k i o' I e;cases h;exact⟨ake (K.hfld.mem _ (yK I)) j,⟨e,trivial⟩,fun _=>rfl⟩
  ·rename_i off cs o' I e;cases h;exact⟨ajm (K.hfld.mem _ (yK I)) j,⟨e,trivial⟩,fun _=>rfl⟩
  cases h
 ·rename_i x j;split at h
  ·rename_i e;cases h;exact⟨amE j,⟨e,trivial⟩,fun _=>rfl⟩
  ·rename_i e;cases h;exact⟨aiG j,⟨e,trivial⟩,fun _=>rfl⟩
  ·rename_i e;cases h;exact⟨alA j,⟨e,trivial⟩,fun _=>rfl⟩
  cases h
 ·rename_i t x f j;split at h
  ·rename_i off agg n cs I e;split at h
   ·rename_i q;cases h;exact⟨aji rfl (K.hpart.mem _ (yK I)) q.1 q.2 j,⟨e,trivial⟩,fun _=>rfl⟩
   cases h
  cases h
 ·rename_i t x j;split at h
  ·rename_i agg n cs off I e;split at h
   ·rename_i q;cases h;exact⟨ain rfl (K.hty.mem _ (Nv I)) q.1 q.2 j,⟨e,trivial⟩,fun _=>rfl⟩
   cases h
  ·rename_i agg n k off I e;split at h
   ·rename_i cs J;split at h
    ·rename_i q;cases h;exact⟨agY rfl J q.2 (K.hty.mem _ (Nv I)) q.1.1 q.1.2 j,⟨e,trivial⟩,fun _=>rfl⟩
    split at h
    ·rename_i v M _;cases h;exact⟨aW6 J M (K.hty.mem _ (Nv I)) j,⟨e,trivial⟩,fun _=>rfl⟩
    cases h
   cases h
  cases h
 ·rename_i t x j;split at h
  ·rename_i q;cases h;exact⟨akd q j,⟨rfl,trivial⟩,fun O=>by cases O⟩
  cases h
 ·rename_i t j;split at h
  ·rename_i z hz;cases h;exact⟨ai5 (K.hzero.mem _ (Nv hz)).1 (K.hzero.mem _ (Nv hz)).2 j,trivial,fun O=>by cases O⟩
  cases h
 ·rename_i t x y j;split at h
  ·rename_i agg n k off I e;split at h
   ·rename_i cs J;split at h
    ·split at h
     ·rename_i q;cases h;refine⟨BR.aEf (aRf (v:=.d (.sl [])) J rfl (by have h9:=(K.hty.mem _ (Nv I)).size;rw[q.1]at h9;exact h9) rfl q.2 j) (fun n hn=>?_),⟨e,trivial⟩,fun O=>by cases O⟩;simp only[EG,EM,ZL]at hn;rcases hn with rfl|rfl
      ·exact .inl Aw
      exact .inr rfl
     cases h
    split at h
    ·rename_i q;cases h;exact⟨aRf J q.1.1 (K.hty.mem _ (Nv I)).size q.1.2 q.2 j,⟨e,rfl,trivial⟩,fun O=>by cases O⟩
    cases h
   cases h
  cases h
 ·rename_i t parts j;split at h
  ·rename_i places z hs;split at h
   ·rename_i q;cases h;exact⟨adr (K.hst.mem _ (Nv hs)) _ j rfl q.1 q.2,aKh σ _,fun _=>rfl⟩
   cases h
  split at h
  ·rename_i s z hs;split at h
   ·rename_i q;cases h;exact⟨alM (K.harr.mem _ (Nv hs)) _ q.1 q.2 j,aKh σ _,fun _=>rfl⟩
   cases h
  cases h
 ·rename_i c j;split at h
  ·rename_i x t L ha ht
   have j:o.op=.call { callee:=.builtin .len,args:= #[x],argTypes:= #[t] }:=by
    obtain⟨cal,aKb,ts⟩:=c;simp only at L ha ht;rw[j,L,show aKb= #[x]from by rw[←cO (xs:=aKb),ha],show ts= #[t]from by rw[←cO (xs:=ts),ht]]
   split at h
   ·rename_i s I e;cases h;exact⟨acN s (K.aln.mem _ (Nv I)) j,⟨e,trivial⟩,fun _=>rfl⟩
   cases h
  cases h
 cases h
def Ja (ops:Array Oper) (σ:Ak):Option (Nat×Bool)→Option Bool
 |none=>some true
 |some (j,q)=>match(ops[j]?).bind (·.dst)with
  |some d=>match σ.slots.getD d .junk with
   | .d (.lit (.bool b))=>some (b==q)
   | .d (.lit (.tuple a))=>match a.toList with
     | []=>some false
     |_=>none
   |_=>none
  |none=>none
def MR {ops:Array Oper} {σ:Ak} {g:Option (Nat×Bool)} (h:Ja ops σ g=some true):WS ops σ g:=by
 unfold Ja at h;split at h
 ·exact .inl rfl
 rename_i j q;split at h
 ·rename_i d hd;split at h
  ·rename_i b hs;refine .inr ⟨j,q,d,b,rfl,hd,hs,?_⟩;simpa using h
  ·split at h<;>cases h
  cases h
 cases h
def ai0 {ops:Array Oper} {σ:Ak} {g:Option (Nat×Bool)} (h:Ja ops σ g=some false):YQ ops σ g:=by
 unfold Ja at h;split at h
 ·cases h
 rename_i j q;split at h
 ·rename_i d hd;split at h
  ·rename_i b hs;refine aos j q d b rfl hd hs ?_;have :(b==q)=false:=CS h;cases b<;>cases q<;>first|rfl|cases this
  ·rename_i a hs;split at h
   ·rename_i ha;have ha:a= #[]:=by rw[←cO (xs:=a),ha]
    subst ha;exact ao2 j q d rfl hd hs
   cases h
  cases h
 cases h
def XA {P:Program} (K:Kn P) (ops:Array Oper) (σ:Ak) (o:Oper):Option Q7:=
 match Ja ops σ o.guard with
 |some true=>match aKy K σ o with
  |some r=>if(NM r.ns).all (tmpsOf o).contains=true then some r else none
  |none=>none
 |some false=>some ⟨[],.d (.lit undef),σ.ents,false⟩
 |none=>none
def Ye {P:Program} (K:Kn P) {ops:Array Oper} {σ:Ak} {o:Oper} {r:Q7} (h:XA K ops σ o=some r):Rh P ops σ r.x r.E r.bar o:=by
 unfold XA at h;split at h
 ·rename_i j;split at h
  ·rename_i J q;split at h
   ·rename_i ht;cases h;obtain⟨u,z,I⟩:=agW K q;exact⟨.inl ⟨_,u,z,ht,MR j⟩,I⟩
   cases h
  cases h
 ·rename_i j;cases h;exact⟨.inr ⟨rfl,rfl,ai0 j⟩,fun _=>rfl⟩
 cases h
def I7 {P:Program} (K:Kn P) (ops:Array Oper):Nat→List Oper→Ak→Option (Ak×List Q7)
 |0,_,σ=>some (σ,[])
 |n+1,l,σ=>match l with
  |o::l=>match XA K ops σ o with
   |some r=>match I7 K ops n l (σ.put o.dst r.x r.E)with
    |some (σ',rs)=>some (σ',r::rs)
    |none=>none
   |none=>none
  | []=>none
def SK :Option (Ak×List Q7)→Ak
 |some (σ,_)=>σ
 |none=>⟨[],[],0⟩
def aF :Option (Ak×List Q7)→List Q7
 |some (_,rs)=>rs
 |none=>[]
def Chain.auto {P:Program} (K:Kn P) {ops:Array Oper}:∀(n:Nat) {l:List Oper} {σ σ':Ak},(I7 K ops n l σ).isSome=true→Chain P ops (l.drop n) (SK (I7 K ops n l σ)) σ'→Chain P ops l σ σ'
 |0,l,σ,σ',_,k=>by simpa[I7,SK]using k
 |n+1,l,σ,σ',h,k=>by
  unfold I7 at h k;split at h
  ·rename_i o l';split at h
   ·rename_i r q;split at h
    ·rename_i u rs j;simp only[q,j]at k;refine .ahe o.dst (Ye K q) rfl (Chain.auto K n (by rw[j];rfl) ?_);rw[j];exact k
    cases h
   cases h
  cases h
def Et.auto {P:Program} (K:Kn P) {ops:Array Oper}:∀(n:Nat) {l:List Oper} {σ σ':Ak} {rs:List Aa} {ess:List (List Az)} {bs:List Bool},(I7 K ops n l σ).isSome=true→Et P ops (l.drop n) (SK (I7 K ops n l σ)) rs ess bs σ'→
 Et P ops l σ ((aF (I7 K ops n l σ)).map Q7.x++rs) ((aF (I7 K ops n l σ)).map Q7.E++ess) ((aF (I7 K ops n l σ)).map Q7.bar++bs) σ'
 |0,l,σ,σ',rs,ess,bs,_,k=>by simpa[I7,SK,aF]using k
 |n+1,l,σ,σ',rs,ess,bs,h,k=>by
  unfold I7 at h k ⊢;split at h
  ·rename_i o l';split at h
   ·rename_i r q;split at h
    ·rename_i z u j;simp only[q,j]at k ⊢;refine .ahe o.dst (Ye K q) rfl ?_;have :=Et.auto K n (l:=l') (σ:=σ.put o.dst r.x r.E) (σ':=σ') (rs:=rs) (ess:=ess) (bs:=bs) (by rw[j];rfl) (by rw[j];exact k);rw[j]at this;exact this
    cases h
   cases h
  cases h
def Chain.a {P:Program} [T:Kn P] {ops:Array Oper} {l:List Oper} {σ σ':Ak} (n:Nat) (k:Chain P ops (l.drop n) (SK (I7 T ops n l σ)) σ') (h:(I7 T ops n l σ).isSome=true:=by kernel_rfl):Chain P ops l σ σ':=Chain.auto T n h k
def Et.a {P:Program} [T:Kn P] {ops:Array Oper} {l:List Oper} {σ σ':Ak} {rs:List Aa} {ess:List (List Az)} {bs:List Bool} (n:Nat) (k:Et P ops (l.drop n) (SK (I7 T ops n l σ)) rs ess bs σ') (h:(I7 T ops n l σ).isSome=true:=by kernel_rfl):
 Et P ops l σ ((aF (I7 T ops n l σ)).map Q7.x++rs) ((aF (I7 T ops n l σ)).map Q7.E++ess) ((aF (I7 T ops n l σ)).map Q7.bar++bs) σ':=Et.auto T n h k
def Chain.c {P:Program} [T:Kn P] {ops:Array Oper} {o:Oper} {rest:List Oper} {σ σ':Ak} {e c:Bool} (h:some e=some c) (k:Chain P ops rest (σ.rQ o.dst (.d (.lit (.bool c)))) σ') (hs:(XA T ops σ o).map (fun r=>(r.x,r.E,r.bar))=some (.d (.lit (.bool e)),σ.ents,false):=by kernel_rfl):Chain P ops (o::rest) σ σ':=by
 rw[SI]at hs;obtain⟨r,u,j⟩:=hs;have q:=Ye T u;simp only[QH]at j;rw[j.1,j.2.1,j.2.2,CS h]at q;exact .ahe o.dst q rfl k
def Et.c {P:Program} [T:Kn P] {ops:Array Oper} {o:Oper} {rest:List Oper} {σ σ':Ak} {rs:List Aa} {ess:List (List Az)} {bs:List Bool} {e c:Bool} (h:some e=some c) (k:Et P ops rest (σ.rQ o.dst (.d (.lit (.bool c)))) rs ess bs σ') (hs:(XA T ops σ o).map (fun r=>(r.x,r.E,r.bar))=some (.d (.lit (.bool e)),σ.ents,false):=by kernel_rfl):
 Et P ops (o::rest) σ (.d (.lit (.bool c))::rs) (σ.ents::ess) (false::bs) σ':=by
 rw[SI]at hs;obtain⟨r,u,j⟩:=hs;have q:=Ye T u;simp only[QH]at j;rw[j.1,j.2.1,j.2.2,CS h]at q;exact .ahe o.dst q rfl k
def aYL (σ:Ak) (ns:List (Operand×Aa)):Prop:=(ns.map fun n=>σ.get n.1)=ns.map (·.2)
def UO {σ:Ak}:∀{ns:List (Operand×Aa)},aYL σ ns→needs σ ns
 | [],_=>trivial
 |n::ns,h=>by
  simp only[aYL,Ia,aMM]at h;exact⟨h.1,UO h.2⟩
def Chain.p {P:Program} {ops:Array Oper} {o:Oper} {rest:List Oper} {σ σ':Ak} {ns:List (Operand×Aa)} {x:Aa} (h:BR P o ns σ.ents x σ.ents) (k:Chain P ops rest (σ.rQ o.dst x) σ') (j:(ns.map fun n=>σ.get n.1)=ns.map (·.2):=by kernel_rfl) (q:Ja ops σ o.guard=some true:=by kernel_rfl):Chain P ops (o::rest) σ σ':=
 .op o.dst h (UO j) (MR q) rfl k
def Et.p {P:Program} {ops:Array Oper} {o:Oper} {rest:List Oper} {σ σ':Ak} {ns:List (Operand×Aa)} {x:Aa} {rs:List Aa} {ess:List (List Az)} {bs:List Bool} (h:BR P o ns σ.ents x σ.ents) (k:Et P ops rest (σ.rQ o.dst x) rs ess bs σ') (j:(ns.map fun n=>σ.get n.1)=ns.map (·.2):=by kernel_rfl) (q:Ja ops σ o.guard=some true:=by kernel_rfl)
 (ht:(NM ns).all (tmpsOf o).contains=true:=by kernel_rfl):Et P ops (o::rest) σ (x::rs) (σ.ents::ess) (false::bs) σ':=
 .op o.dst h (UO j) (MR q) rfl ht k
def Chain.e {P:Program} {ops:Array Oper} {o:Oper} {rest:List Oper} {σ σ':Ak} {ns:List (Operand×Aa)} {x:Aa} {es':List Az} (E:List Az) (h:BR P o ns σ.ents x es') (k:Chain P ops rest (σ.put o.dst x E) σ') (j:es'=E:=by kernel_rfl) (q:(ns.map fun n=>σ.get n.1)=ns.map (·.2):=by kernel_rfl) (u:Ja ops σ o.guard=some true:=by kernel_rfl):Chain P ops (o::rest) σ σ':=
 .oe o.dst E h j (UO q) (MR u) rfl k
def Et.e {P:Program} {ops:Array Oper} {o:Oper} {rest:List Oper} {σ σ':Ak} {ns:List (Operand×Aa)} {x:Aa} {es':List Az} {rs:List Aa} {ess:List (List Az)} {bs:List Bool} (E:List Az) (h:BR P o ns σ.ents x es') (k:Et P ops rest (σ.put o.dst x E) rs ess bs σ') (j:es'=E:=by kernel_rfl) (q:(ns.map fun n=>σ.get n.1)=ns.map (·.2):=by kernel_rfl) (u:Ja ops σ o.guard=some true:=by kernel_rfl)
 (ht:(NM ns).all (tmpsOf o).contains=true:=by kernel_rfl):Et P ops (o::rest) σ (x::rs) (E::ess) (true::bs) σ':=
 .oe o.dst E h j (UO q) (MR u) rfl ht k
def UJ (σ:Ak) (o:Oper):Option (FuncId×List Aa):=
 match o.op with
 | .call c=>match c.callee with
   | .value (.func f)=>some (f,c.args.toList.map σ.get)
   |_=>none
 |_=>none
def aUV {srcs:List Dj}:∀{l:List Aa},l.all Aa.AO=true→MS srcs l l
 | [],_=>trivial
 |x::l,h=>by
  simp only[bY,CZ]at h;refine⟨?_,aUV h.2⟩;cases x with
  |d x=>exact .inl rfl
  |_=>cases h.1
def aSp (σ:Ak):∀(l:List Operand),needs σ (FM l (l.map σ.get))
 | []=>trivial
 |_::l=>⟨rfl,aSp σ l⟩
def aCa {P:Program} {σ:Ak} {o:Oper} {f:FuncId} {dU:List Aa} {u:Aa} (L:Aq P f dU [] u []) (M:BA P f=true) (q:UJ σ o=some (f,dU)) (hd:dU.all Aa.AO=true):∃ns,BR P o ns σ.ents (u.up [] σ.ents.length) σ.ents∧needs σ ns∧(NM ns).all (tmpsOf o).contains=true:=by
 unfold UJ at q;split at q
 ·rename_i c J;split at q
  ·rename_i Y j;cases q;obtain⟨callee,args,ats⟩:=c;simp only at j;subst j;refine⟨_,aQv L M (aUV hd) Aw rfl J,aSp σ _,?_⟩;rw[Di];intro t ht;unfold NM at ht;rw[Sl]at ht;obtain⟨n,O,I⟩:=ht
   have z:n.1∈args.toList:=by
    have :∀(l:List Operand) (vs:List Aa),n∈FM l vs→n.1∈l:=by
     intro l
     induction l with
     |nil=>intro vs h;cases vs<;>simp[FM]at h
     |cons x l U=>
      intro vs h;cases vs with
      |nil=>simp[FM]at h
      |cons v vs=>
       simp only[FM,EG]at h;rcases h with rfl|h
       ·exact EO
       exact F5 _ (U vs h)
    exact this _ _ O
   unfold tmpsOf;simp only[List.contains_iff_mem,Sl];refine⟨n.1,?_,I⟩;rw[J];show n.1∈(#[Operand.func f]++args).toList;simp[z]
  cases q
 cases q
def Chain.call {P:Program} {ops:Array Oper} {o:Oper} {rest:List Oper} {σ σ':Ak} {f:FuncId} {dU:List Aa} {j:Aa} (q:Aq P f dU [] j []) (u:BA P f=true) (k:Chain P ops rest (σ.rQ o.dst (j.up [] σ.ents.length)) σ') (z:UJ σ o=some (f,dU):=by kernel_rfl)
 (hd:dU.all Aa.AO=true:=by kernel_rfl) (I:Ja ops σ o.guard=some true:=by kernel_rfl):Chain P ops (o::rest) σ σ':=by
 obtain⟨ns,J,L,_⟩:=aCa q u z hd;exact .op o.dst J L (MR I) rfl k
def Et.call {P:Program} {ops:Array Oper} {o:Oper} {rest:List Oper} {σ σ':Ak} {f:FuncId} {dU:List Aa} {j:Aa} {rs:List Aa} {ess:List (List Az)} {bs:List Bool} (q:Aq P f dU [] j []) (u:BA P f=true) (k:Et P ops rest (σ.rQ o.dst (j.up [] σ.ents.length)) rs ess bs σ') (z:UJ σ o=some (f,dU):=by kernel_rfl)
 (hd:dU.all Aa.AO=true:=by kernel_rfl) (I:Ja ops σ o.guard=some true:=by kernel_rfl):Et P ops (o::rest) σ (j.up [] σ.ents.length::rs) (σ.ents::ess) (false::bs) σ':=by
 obtain⟨ns,J,L,M⟩:=aCa q u z hd;exact .op o.dst J L (MR I) rfl M k
def uj (v:Value):Exit:=.panic [{ v,recovered:=false }]
structure Ch (P:Program) (ops:Array Oper) (l:List Oper) (σ:Ak) (K:Exit→Ak→Prop):Prop where
 run:∀(ro:Option Nat) (l2:List Oper) (Q:Exit→Act→World→Prop) (C:EP) (ok:Nat→Prop) (H:List BN) (a:Act) (w:World),Holds C ok H σ a w→
  ((∀σ' ok' H' a' w',K .normal σ'→Holds C ok' H' σ' a' w'→wpListIn (Iz ro) 0 P ops Q l2 a' w')∧(∀v σ' ok' H' a' w',K (uj v) σ'→Holds C ok' H' σ' a' w'→Q (uj v) a' w'))→wpListIn (Iz ro) 0 P ops Q (l++l2) a w
section
variable {P : Program} {ops : Array Oper} {o : Oper} {rest l : List Oper} {σ : Ak} {K : Exit → Ak → Prop}
def Ch.nil (h:K .normal σ):Ch P ops [] σ K:=⟨fun _ _ _ _ _ _ _ _ j q=>q.1 _ _ _ _ _ h j⟩
def Ch.bT {M:Ak→Prop} (h:M σ):Ch P ops [] σ (Kw M K):=.nil h
def Ch.step {x:Aa} {E:List Az} {bar:Bool} (hs:Rh P ops σ x E bar o) (k:Ch P ops rest (σ.put o.dst x E) K):Ch P ops (o::rest) σ K:=by
 refine⟨fun ro q Q C ok H a w j L=>?_⟩;show wpListIn (Iz ro) 0 P ops Q (o::(rest++q)) a w;unfold wpListIn;rcases hs.1 with⟨ns,M,O,_,u⟩|⟨rfl,rfl,u⟩
 ·rw[CP (PS j u)];refine RJ ?_ (M.inR ro C ok H a w Q j.mem (fun n z=>RD O n z▸j.get n.1));rintro a' w' ⟨v,ok',H',rfl,I,J,hm,U⟩;exact k.run ro q Q C _ _ _ _ (j.put o.dst I J hm U) L
 rw[CU (by rw[aN8 j u];simp)];exact⟨fun _ _=>trivial,k.run ro q Q C _ _ _ _ (j.put o.dst (.refl _ _) (.refl _) j.mem (.d _ _ (.lit _))) L⟩
def Ch.conv (q:Ak) (h:∀C ok H a w,Holds C ok H σ a w→∃ok',Holds C ok' H q a w) (k:Ch P ops l q K):Ch P ops l σ K:=⟨fun ro u Q C ok H a w z I=>by
 obtain⟨ok',j⟩:=h C ok H a w z
 exact k.run ro u Q C _ _ _ _ j I⟩
def Ch.auto (T:Kn P):∀(n:Nat) {l:List Oper} {σ:Ak},(I7 T ops n l σ).isSome=true→Ch P ops (l.drop n) (SK (I7 T ops n l σ)) K→Ch P ops l σ K
 |0,l,σ,_,k=>by simpa[I7,SK]using k
 |n+1,l,σ,h,k=>by
  unfold I7 at h k;split at h
  ·rename_i o l';split at h
   ·rename_i r q;split at h
    ·rename_i u rs j;simp only[q,j]at k;refine .step (Ye T q) (Ch.auto T n (by rw[j];rfl) ?_);rw[j];exact k
    cases h
   cases h
  cases h
def Ch.a [T:Kn P] (n:Nat) (k:Ch P ops (l.drop n) (SK (I7 T ops n l σ)) K) (h:(I7 T ops n l σ).isSome=true:=by kernel_rfl):Ch P ops l σ K:=Ch.auto T n h k
def Ch.p {ns:List (Operand×Aa)} {x:Aa} (h:BR P o ns σ.ents x σ.ents) (k:Ch P ops rest (σ.rQ o.dst x) K) (j:(ns.map fun n=>σ.get n.1)=ns.map (·.2):=by kernel_rfl) (q:Ja ops σ o.guard=some true:=by kernel_rfl) (ht:(NM ns).all (tmpsOf o).contains=true:=by kernel_rfl):Ch P ops (o::rest) σ K:=
 .step (aTS h (UO j) (MR q) ht) k
def Ch.e {ns:List (Operand×Aa)} {x:Aa} {es':List Az} (E:List Az) (h:BR P o ns σ.ents x es') (k:Ch P ops rest (σ.put o.dst x E) K) (j:es'=E:=by kernel_rfl) (q:(ns.map fun n=>σ.get n.1)=ns.map (·.2):=by kernel_rfl) (u:Ja ops σ o.guard=some true:=by kernel_rfl) (ht:(NM ns).all (tmpsOf o).contains=true:=by kernel_rfl):Ch P ops (o::rest) σ K:=
 .step (bar:=true) ⟨.inl ⟨ns,j▸h,UO q,ht,MR u⟩,fun h=>Ie⟩ k
def Ch.call {f:FuncId} {dU:List Aa} {j:Aa} (q:Aq P f dU [] j []) (u:BA P f=true) (k:Ch P ops rest (σ.rQ o.dst (j.up [] σ.ents.length)) K) (z:UJ σ o=some (f,dU):=by kernel_rfl)
 (hd:dU.all Aa.AO=true:=by kernel_rfl) (I:Ja ops σ o.guard=some true:=by kernel_rfl):Ch P ops (o::rest) σ K:=by
 obtain⟨ns,J,L,M⟩:=aCa q u z hd;exact .step (aTS J L (MR I) M) k
def Ch.c [T:Kn P] {e c:Bool} (h:some e=some c) (k:Ch P ops rest (σ.rQ o.dst (.d (.lit (.bool c)))) K) (hs:(XA T ops σ o).map (fun r=>(r.x,r.E,r.bar))=some (.d (.lit (.bool e)),σ.ents,false):=by kernel_rfl):Ch P ops (o::rest) σ K:=by
 rw[SI]at hs;obtain⟨r,u,j⟩:=hs;have q:=Ye T u;simp only[QH]at j;rw[j.1,j.2.1,j.2.2,CS h]at q;exact .step q k
def Ak.wipe (j:List Nat) (σ:Ak):Ak:=⟨j.foldl (fun l d=>l.set d .junk) σ.slots,σ.ents,σ.base⟩
def Holds.wipe {C:EP} {ok:Nat→Prop} {H:List BN} {a:Act} {w:World}:∀(j:List Nat) {σ:Ak},Holds C ok H σ a w→Holds C ok H (σ.wipe j) a w
 | [],σ,h=>h
 |d::j,σ,h=>by
  refine Holds.wipe j (σ:=⟨σ.slots.set d .junk,σ.ents,σ.base⟩) ⟨h.mem,by simpa using h.size,h.defers,h.base,fun t ht=>?_⟩;simp only[Zi]at ht;by_cases e:d=t
  ·subst e;have q:(σ.slots.set d .junk).getD d .junk=.junk:=aLd
   rw[q];exact .junk _
  have q:(σ.slots.set d .junk).getD t .junk=σ.slots.getD t .junk:=aNk
  rw[q];exact h.slot t ht
def ac8 (n:Nat) (l j:List Oper):l++j=l.take n++(l.drop n++j):=by
 rw[←HY,Qn]
def Ch.join (n:Nat) (M:Ak→Prop) (z:∀s,M s→Ch P ops (l.drop n) s K) (I:Ch P ops (l.take n) σ (Kw M K)):Ch P ops l σ K:=⟨fun ro q Q C ok H a w J u=>by
 rw[ac8 n l q]
 exact I.run ro _ Q C ok H a w J ⟨fun σ' ok' H' a' w' L j=>(z σ' L).run ro q Q C ok' H' a' w' j u,u.2⟩⟩
def Ch.merge (n:Nat) (j:List Nat) (d:Nat) (x:Aa) (u:Ch P ops (l.take n) σ (Kw (fun s=>s.wipe j=(σ.wipe j).rQ (some d) x) K)) (z:Ch P ops (l.drop n) ((σ.wipe j).rQ (some d) x) K):Ch P ops l σ K:=
 .join n _ (fun s hs=>⟨fun ro I Q C ok H a w J L=>by
  have e:s.wipe j=(σ.wipe j).rQ (some d) x:=hs;have q:=J.wipe j;rw[e]at q
  exact z.run ro I Q C ok H a w q L⟩) u
def BH {id:Nat} {Q:Exit→Ak→Prop} (h:Ch P ops ops.toList σ Q):AV P (.region id ops false) σ Q:=⟨fun ro _ C ok H a w u=>by
 refine aPl ?_;have :=h.run ro [] (fun e a' w'=>∃ok' H' σ',Holds C ok' H' σ' a' w'∧Q e σ') C ok H a w u ⟨fun σ' ok' H' a' w' q j=>⟨ok',H',σ',j,q⟩,fun v σ' ok' H' a' w' q j=>⟨ok',H',σ',j,q⟩⟩
 rwa [Oc]at this⟩
def AQ {id:Nat} {y:Code} {Q:Exit→Ak→Prop} (h:Ch P ops ops.toList σ (Kw (fun s=>AV P y s Q) Q)):AV P (.seq (.region id ops false) y) σ Q:=
 AV.seq (fun s=>AV P y s Q) (BH h) (fun _ h=>h)
end
def BL (n:Nat) (l:List (Nat×Aa)):List Aa:=(List.range n).map fun i=>(QK i l).getD .junk
def mk (n w:Nat):List Bool:=(List.range n).map fun i=>Nat.testBit w i
def anv {σ S:Ak} (m:List Bool) (π:List (Nat×Bool)) (j:Ug σ.base σ.ents π=true:=by kernel_rfl) (q:S=⟨Kr π m σ.slots,SB σ.ents π,σ.base⟩:=by kernel_rfl):CW σ S:=aDO.sub ⟨m,π,j,q⟩
inductive Lc (P:Program) where
 |call (i:Nat) (f:FuncId) (dU:List Aa) (res:Aa) (run:Aq P f dU [] res []) (ent:BA P f=true) (dat:dU.all Aa.AO=true)
 |dat (i:Nat) (op:Op) (ns:List (Operand×Aa)) (x:Aa) (h:∀(o:Oper) (es:List Az),o.op=op→BR P o ns es x es)
 |at_ (i:Nat) (op:Op) (ns:List (Operand×Aa)) (k:Nat) (e:Az) (x:Aa) (h:∀(o:Oper) (es:List Az),es[k]? =some e→o.op=op→BR P o ns es x es)
 |fix (i:Nat) (op:Op) (ns:List (Operand×Aa)) (es:List Az) (x:Aa) (E:List Az) (h:∀(o:Oper),o.op=op→BR P o ns es x E)
def Lc.ix {P:Program}:Lc P→Nat
 | .call i .. =>i
 | .dat i .. =>i
 | .at_ i .. =>i
 | .fix i .. =>i
inductive Xm where
 |call (c:Option (FuncId×List Aa))
 |dat (op:Op) (vs:List Aa)
 |at_ (op:Op) (vs:List Aa) (e:Option Az)
 |fix (op:Op) (vs:List Aa) (es:List Az)
def aIf {P:Program} (i:Nat):List (Lc P)→Option (Lc P)
 | []=>none
 |c::l=>match Nat.beq i c.ix with |true=>some c|false=>aIf i l
section
variable {P : Program}
def um (σ:Ak) (o:Oper):Lc P→Ak×Option Xm
 | .call _ _ _ j _ _ _=>(σ.rQ o.dst (j.up [] σ.ents.length),some (.call (UJ σ o)))
 | .dat _ _ ns x _=>(σ.rQ o.dst x,some (.dat o.op (ns.map fun n=>σ.get n.1)))
 | .at_ _ _ ns k _ x _=>(σ.rQ o.dst x,some (.at_ o.op (ns.map fun n=>σ.get n.1) σ.ents[k]?))
 | .fix _ _ ns _ x E _=>(σ.put o.dst x E,some (.fix o.op (ns.map fun n=>σ.get n.1) σ.ents))
def uq :Lc P→Xm
 | .call _ f dU _ _ _ _=>.call (some (f,dU))
 | .dat _ op ns _ _=>.dat op (ns.map (·.2))
 | .at_ _ op ns _ e _ _=>.at_ op (ns.map (·.2)) (some e)
 | .fix _ op ns es _ _ _=>.fix op (ns.map (·.2)) es
def WB (T:Kn P) (L:List (Lc P)) (ops:Array Oper) (σ:Ak) (i:Nat):Option (Ak×Option Xm):=
 match ops[i]? with
 |none=>none
 |some o=>match aIf i L with
  |some c=>match Ja ops σ o.guard with
   |some true=>some (um σ o c)
   |_=>none
  |none=>match XA T ops σ o with
   |some r=>some (σ.put o.dst r.x r.E,none)
   |none=>none
def N8 (T:Kn P) (L:List (Lc P)) (ops:Array Oper) (σ:Ak):List Nat→Ak
 | []=>σ
 |i::l=>match WB T L ops (N8 T L ops σ l) i with
  |some (σ',_)=>σ'
  |none=>σ
def Zt (ops:Array Oper) (m:List Nat) (i:Nat):Bool:=match ops[i]? with
 |some o=>o.after.toList.all fun e=> !Region.binds .any e||(m.contains e.on&&decide (e.on<ops.size))
 |none=>false
def aOs (ops:Array Oper) (N:List (List Nat)) (F:List Nat) (k:Nat) (m:List Nat) (T:List (Nat×Nat×Nat)):Bool:=
 ((List.range ops.size).all fun i=>m.contains i|| !Zt ops m i||
   T.any fun t=>t.2.1==i&&decide (t.2.2<N.length)&&(fun q=>(List.range ops.size).all fun j=>q.contains j==(m.contains j||j==i)) (N.getD t.2.2 []))&&
 (F.contains k||(List.range ops.size).any fun i=> !m.contains i&&Zt ops m i)
def aBf (ops:Array Oper) (N:List (List Nat)) (F:List Nat):Nat→List (List Nat)→List (Nat×Nat×Nat)→Bool
 |_,[],_=>true
 |k,m::M,Tr=>aOs ops N F k m (Tr.takeWhile fun t=>t.1==k)&&aBf ops N F (k+1) M (Tr.dropWhile fun t=>t.1==k)
def ng (ops:Array Oper) (N:List (List Nat)) (Tr:List (Nat×Nat×Nat)) (F:List Nat):Bool:=aBf ops N F 0 N Tr
def aUx {α:Type} {p:α→Bool}:∀{l:List α} {x:α},x∈l.takeWhile p→p x=true
 | [],_,h=>Ig
 |y::l,x,h=>by
  rw[List.takeWhile_cons]at h;cases j:p y with
  |true=>
   rw[j]at h;rcases EG.1 h with rfl|h
   ·exact j
   exact aUx h
  |false=>rw[j]at h;simp at h
def aTl {ops:Array Oper} {N:List (List Nat)} {F:List Nat}:∀(M:List (List Nat)) (k:Nat) (Tr:List (Nat×Nat×Nat)),aBf ops N F k M Tr=true→∀j,j<M.length→
 ∃T,aOs ops N F (k+j) (M.getD j []) T=true∧∀t∈T,t∈Tr∧t.1=k+j
 | [],_,_,_,j,q=>xE
 |m::M,k,Tr,h,j,q=>by
  unfold aBf at h;rw[CZ]at h;cases j with
  |zero=>exact⟨_,h.1,fun t ht=>⟨(List.takeWhile_sublist _).subset ht,by have :=aUx ht;simpa using this⟩⟩
  |succ j=>
   obtain⟨T,z,u⟩:=aTl M (k+1) _ h.2 j MN;refine⟨T,?_,fun t ht=>⟨(aMj _).subset (u t ht).1,?_⟩⟩
   ·rw[show k+(j+1)=k+1+j by omega];simpa using z
   rw[(u t ht).2];omega
def Yg (L:List (Lc P)) (i:Nat):Option Xm:=(aIf i L).map uq
def anH (T:Kn P) {L:List (Lc P)} {ops:Array Oper} {σ σ':Ak} {i:Nat} {o:Oper} (I:ops[i]? =some o) (h:WB T L ops σ i=some (σ',Yg L i)):
 ∃x E,((∃ns,BR P o ns σ.ents x E∧needs σ ns∧WS ops σ o.guard)∨(x=.d (.lit undef)∧E=σ.ents∧YQ ops σ o.guard))∧σ'=σ.put o.dst x E:=by
 unfold WB Yg at h;rw[I]at h;simp only at h;split at h
 ·rename_i c J;split at h
  ·rename_i q;simp only[J,IV,LU]at h;cases c with
   |call i f dU M run ent dat=>
    simp only[um,uq,QH,LU,Xm.call.injEq]at h;obtain⟨ns,u,z,U⟩:=aCa run ent h.2 dat;exact⟨_,_,.inl ⟨ns,u,z,MR q⟩,h.1.symm⟩
   |dat i op ns x j=>
    simp only[um,uq,QH,LU,Xm.dat.injEq]at h;exact⟨_,_,.inl ⟨ns,j o _ h.2.1,UO h.2.2,MR q⟩,h.1.symm⟩
   |at_ i op ns k e x j=>
    simp only[um,uq,QH,LU,Xm.at_.injEq]at h;exact⟨_,_,.inl ⟨ns,j o _ h.2.2.2 h.2.1,UO h.2.2.1,MR q⟩,h.1.symm⟩
   |fix i op ns es x E j=>
    simp only[um,uq,QH,LU,Xm.fix.injEq]at h;exact⟨_,_,.inl ⟨ns,h.2.2.2▸j o h.2.1,UO h.2.2.1,MR q⟩,h.1.symm⟩
  cases h
 split at h
 ·rename_i r O;simp only[LU,QH]at h;obtain⟨u,z⟩:=Ye T O;refine⟨_,_,?_,h.1.symm⟩;rcases u with⟨ns,a,b,_,c⟩|⟨a,b,c⟩
  ·exact .inl ⟨ns,a,b,c⟩
  exact .inr ⟨a,b,c⟩
 cases h
def qW (s t:Ak):Prop:=∀C ok H a w,Holds C ok H s a w→∃ok' H',Holds C ok' H' t a w
def ag9 (s:Ak):qW s s:=fun _ ok H _ _ h=>⟨ok,H,h⟩
def jI {s t:Ak} (h:CW s t):qW s t:=h
def AV.nodes (T:Kn P) {id:Nat} {ops:Array Oper} {σ:Ak} {Q:Exit→Ak→Prop} (L:List (Lc P)) (N:List (List Nat)) (Tr:List (Nat×Nat×Nat)) (F:List Nat) (fin:Ak) (hm:P.follows .mixedOrders=true) (hN:ng ops N Tr F=true) (h0:N.getD 0 [0]=[])
 (hT:(Tr.map fun t=>WB T L ops (N8 T L ops σ (N.getD t.1 [])) t.2.1)=Tr.map fun t=>some (N8 T L ops σ (N.getD t.2.2 []),Yg L t.2.1))
 (hF:QI (fun k=>qW (N8 T L ops σ (N.getD k [])) fin) F) (hQ:Q .normal fin):AV P (.region id ops true) σ Q:=by
 refine⟨fun ro _ C ok H a w q=>?_⟩;refine wpIn_region_any hm ?_
 let S:Nat→Ak:=fun k=>N8 T L ops σ (N.getD k [])
 let I:Array Bool→Act→World→Prop:=fun l a w=>l.size=ops.size∧∃k ok H,k<N.length∧(∀i,i<ops.size→l.getD i false=(N.getD k []).contains i)∧Holds C ok H (S k) a w
 have hNN:∀k,k<N.length→(((List.range ops.size).all fun i=>(N.getD k []).contains i|| !Zt ops (N.getD k []) i||
  Tr.any fun t=>t.1==k&&t.2.1==i&&decide (t.2.2<N.length)&&(List.range ops.size).all fun j=>(N.getD t.2.2 []).contains j==((N.getD k []).contains j||j==i))&&
  (F.contains k||(List.range ops.size).any fun i=> !(N.getD k []).contains i&&Zt ops (N.getD k []) i))=true:=fun k hk=>by
  obtain⟨T,J,O⟩:=aTl N 0 Tr hN k hk;unfold aOs at J;rw[Ij,CZ,Di]at J;rw[CZ,Di];refine⟨fun i hi=>?_,J.2⟩;have u:=J.1 i hi;rw[Vb]at u ⊢;rcases u with u|u
  ·exact .inl u
  obtain⟨t,ht,h4⟩:=Gl.1 u;obtain⟨Z,U⟩:=O t ht;rw[Ij]at U;refine .inr (Gl.2 ⟨t,Z,?_⟩);rw[show(t.1==k)=true by simpa using U,GL];exact h4
 refine aNo I (fun l a w h=>h.1) ?_ ?_ ops.size _ _ _ ?_ ?_
 ·rintro l a w ⟨J,k,ok,H,hk,hl,q⟩ i hi;unfold Region.ready at hi;rw[FN]at hi;obtain⟨hi1,hi2⟩:=hi;have hi':i<ops.size:=by simpa using hi1
  have ho:ops[i]? =some ops[i]:=by simp[hi']
  simp only[CZ]at hi2;have z:=hi2.2;rw[ho]at z;simp only[IV,MF]at z;have Y:=fun e he=>(Sr.1 z) e he
  have hself:l.getD i false=false:=by
   have h8:=hi2.1;have hil:i<l.size:=AA
   simp[Array.getD,hil]at h8 ⊢;exact h8
  have hnc:(N.getD k []).contains i=false:=by rw[←hl i hi'];exact hself
  have hrd:Zt ops (N.getD k []) i=true:=by
   unfold Zt;rw[ho];simp only[Di];intro e he;have h9:=Y e aF2;cases hb:Region.binds .any e with
   |false=>simp
   |true=>
    simp only[hb,EW,NH]at h9 ⊢;by_cases hon:e.on<ops.size
    ·rw[←hl e.on hon,h9];simp[hon]
    have :l.getD e.on false=false:=by simp[Array.getD,show ¬e.on<l.size by omega]
    rw[this]at h9;cases h9
  have O:=hNN k hk;simp only[CZ,Di]at O;have u:=O.1 i (by simpa using hi');rw[hnc,hrd]at u;simp only[EW,Bool.or_self,NH,Gl]at u;obtain⟨⟨k',M,t⟩,htm,h4⟩:=u;simp only[CZ,OL,GN,Di]at h4;obtain⟨⟨⟨rfl,rfl⟩,ht⟩,Z⟩:=h4;have U:WB T L ops (S k') M=some (S t,Yg L M):=List.map_inj_left.1 hT (k',M,t) htm;obtain⟨x,E,hs,he⟩:=anH T ho U
  have hnew:∀(a':Act) (w':World) (ok':Nat→Prop) (H':List BN),Holds C ok' H' ((S k').put ops[M].dst x E) a' w'→I (l.setIfInBounds M true) a' w':=by
   intro a' w' ok' H' hp;refine⟨by simp[J],t,ok',H',ht,fun j hj=>?_,he▸hp⟩;have h7:=Z j aCE;rw[h7,←hl j hj];by_cases hij:M=j
   ·subst hij;simp[Array.getD,J,hj]
   have :(j==M)=false:=DW
   rw[this,Ku];simp only[Ib,OZ hij]
  unfold wpOpIn;rw[ho];show if Region.wanted ops[M] (yielded ops a.tmps)=true then _ else _
  rcases hs with⟨ns,hop,amC,hg⟩|⟨rfl,rfl,hg⟩
  ·rw[CP (PS q hg)];refine RJ ?_ (hop.inR ro C ok H a w _ q.mem (fun n hn'=>RD amC n hn'▸q.get n.1));rintro a' w' ⟨v,ok',H',rfl,hgr,hnn,hm',hx⟩;exact hnew _ _ _ _ (q.put ops[M].dst hgr hnn hm' hx)
  rw[CU (by rw[aN8 q hg];simp)];exact⟨fun _ _=>trivial,hnew _ _ _ _ (q.put ops[M].dst (.refl _ _) (.refl _) q.mem (.d _ _ (.lit _)))⟩
 ·rintro l a w ⟨J,k,ok,H,hk,hl,q⟩ hr;have O:=hNN k hk;simp only[CZ,Vb]at O
  have hFk:k∈F:=by
   rcases O.2 with h|h
   ·simpa using h
   rw[Gl]at h;obtain⟨i,hi,u⟩:=h;simp only[o8]at hi;simp only[CZ,Ls]at u;obtain⟨h4,Z⟩:=u;have ho:ops[i]? =some ops[i]:=Tt
   have hmem:i∈Region.ready .any ops l:=by
    unfold Region.ready;rw[FN];refine⟨G6,?_⟩;have hf:l.getD i false=false:=by rw[hl i hi];exact h4
    have hil:i<l.size:=AA
    have hf':l.getD i true=false:=aJm
    rw[hf',ho];simp only[Il,GL,IV,MF];rw[Sr];intro e he;unfold Zt at Z;rw[ho]at Z;simp only[Di]at Z;have U:=Z e aF2;cases hb:Region.binds .any e with
    |false=>simp
    |true=>
     simp only[hb,EW,NH]at U ⊢;rw[CZ,GN]at U;rw[hl e.on U.2];exact U.1
   rw[hr]at hmem;simp at hmem
  obtain⟨ok',H',u⟩:=hF.mem k hFk C ok H a w q;exact⟨ok',H',fin,u,hQ⟩
 ·unfold toCome;simp
 refine⟨Aw,0,ok,H,?_,fun i hi=>?_,?_⟩
 ·cases N with
  |nil=>cases h0
  |cons x l=>simp
 ·have e:N.getD 0 []=[]:=by
   cases N with
   |nil=>rfl
   |cons x l=>simpa using h0
  rw[e];simp[Array.getD]
 have e:S 0=σ:=by
  show N8 T L ops σ (N.getD 0 [])=σ;cases N with
  |nil=>rfl
  |cons x l=>have :x=[]:=by simpa using h0
             subst this;rfl
 rw[e];refine⟨⟨⟨q.mem.fr.os,q.mem.fr.tape,q.mem.fr.output,q.mem.fr.size,q.mem.fr.block⟩,q.mem.yV,q.mem.yX,q.mem.kN,q.mem.names,q.mem.hlen,fun k e h J O=>(q.mem.ent k e h J O).drew,q.mem.blk,q.mem.D8⟩,q.size,q.defers.mono (fun b hb=>⟨hb,rfl⟩),q.base,fun t ht=>R.mono (w:=w) (ok:=ok) (w':={ w with drawn:=w.drawn+1 }) (fun b hb=>⟨hb,rfl⟩) (.refl _) (q.slot t ht)⟩
def aRi {f:FuncId} {dU:List Aa} {j:Aa} (i:Nat) (run:Aq P f dU [] j []) (ent:BA P f=true) (dat:dU.all Aa.AO=true:=by kernel_rfl):Lc P:=.call i f dU j run ent dat
def apv {ns:List (Operand×Aa)} {x:Aa} (i:Nat) (op:Op) (h:∀(o:Oper) (es:List Az),o.op=op→BR P o ns es x es):Lc P:=.dat i op ns x h
def aFE {ns:List (Operand×Aa)} {x:Aa} (i:Nat) (op:Op) (k:Nat) (e:Az) (h:∀(o:Oper) (es:List Az),es[k]? =some e→o.op=op→BR P o ns es x es):Lc P:=.at_ i op ns k e x h
def aHk {ns:List (Operand×Aa)} {x:Aa} (i:Nat) (op:Op) (es E:List Az) (h:∀(o:Oper),o.op=op→BR P o ns es x E):Lc P:=.fix i op ns es x E h
section
variable [T : Kn P] {id : Nat} {ops : Array Oper} {σ : Ak} {Q : Exit → Ak → Prop} {y : Code}
def AV.aFp (L:List (Lc P)) (N:List (List Nat)) (Tr:List (Nat×Nat×Nat)) (j:Nat) (q:AV P y (N8 T L ops σ (N.getD j [])) Q) (hm:P.follows .mixedOrders=true:=by kernel_rfl) (u:ng ops N Tr [j]=true:=by kernel_rfl) (z:N.getD 0 [0]=[]:=by kernel_rfl)
 (I:(Tr.map fun t=>WB T L ops (N8 T L ops σ (N.getD t.1 [])) t.2.1)=Tr.map fun t=>some (N8 T L ops σ (N.getD t.2.2 []),Yg L t.2.1):=by kernel_rfl):AV P (.seq (.region id ops true) y) σ Q:=
 AV.seq1 _ (AV.nodes T L N Tr [j] _ hm u z I ⟨ag9 _,trivial⟩ rfl) q
def AV.aFq (L:List (Lc P)) (N:List (List Nat)) (Tr:List (Nat×Nat×Nat)) (F:List Nat) (j:Ak) (q:QI (fun k=>qW (N8 T L ops σ (N.getD k [])) j) F) (u:AV P y j Q) (hm:P.follows .mixedOrders=true:=by kernel_rfl) (z:ng ops N Tr F=true:=by kernel_rfl) (I:N.getD 0 [0]=[]:=by kernel_rfl)
 (J:(Tr.map fun t=>WB T L ops (N8 T L ops σ (N.getD t.1 [])) t.2.1)=Tr.map fun t=>some (N8 T L ops σ (N.getD t.2.2 []),Yg L t.2.1):=by kernel_rfl):AV P (.seq (.region id ops true) y) σ Q:=
 AV.seq1 j (AV.nodes T L N Tr F j hm z I J q rfl) u
end
end
section
variable {P : Program} {ops : Array Oper} {es : List Az}
def Yc (n:Nat) (sl:List Nat):List (Nat×Nat):=sl.flatMap fun i=>((List.range (n+1)).filter fun m=>decide (i≤m)).map fun m=>(i,m)
def rF (ops:Array Oper) (σ:Ak) (rs:List Aa) (ess:List (List Az)) (i:Nat):Ak:=FX ops σ (fun i=>rs.getD i .junk) (fun i=>ess.getD i []) i
def aFc (T:Kn P) (ops:Array Oper) (σ:Ak) (rs:List Aa) (ess:List (List Az)) (p:Nat×Nat):Option (Aa×List Az×Bool):=
 match ops[p.1]? with
 |some o=>(XA T ops ⟨(rF ops σ rs ess p.1).slots,(rF ops σ rs ess p.2).ents,σ.base⟩ o).map fun r=>(r.x,r.E,r.bar)
 |none=>none
def aWK (T:Kn P) {σ:Ak} {rs:List Aa} {ess:List (List Az)} {bs:List Bool} {sl:List Nat} (u:(sl.all fun i=> !(bs.getD i false))=true)
 (z:(Yc ops.size sl).map (aFc T ops σ rs ess)=(Yc ops.size sl).map fun p=>some (rs.getD p.1 .junk,(rF ops σ rs ess p.2).ents,false)):
 ∀i,i∈sl→bs.getD i false=false∧∀m,i≤m→m≤ops.size→∀o,ops[i]? =some o→Rh P ops ⟨(FX ops σ (fun i=>rs.getD i .junk) (fun i=>ess.getD i []) i).slots,(FX ops σ (fun i=>rs.getD i .junk) (fun i=>ess.getD i []) m).ents,σ.base⟩ (rs.getD i .junk) (FX ops σ (fun i=>rs.getD i .junk) (fun i=>ess.getD i []) m).ents false o:=by
 intro i hi;refine⟨by have :=Di.1 u i hi;simpa using this,fun m J O o L=>?_⟩
 have hp:(i,m)∈Yc ops.size sl:=by
  unfold Yc;rw[Rl];exact⟨i,hi,Dp.2 ⟨m,FN.2 ⟨DW,SL⟩,rfl⟩⟩
 have j:=List.map_inj_left.1 z (i,m) hp;unfold aFc at j;rw[L]at j;simp only[SI]at j;obtain⟨r,M,q⟩:=j;have I:=Ye T M;simp only[QH]at q;rw[q.1,q.2.1,q.2.2]at I;exact I
def AV.aFr [T:Kn P] {id:Nat} {σ σ':Ak} {Q:Exit→Ak→Prop} {rs:List Aa} {ess:List (List Az)} {bs:List Bool} (sl:List Nat) (h:Et P ops ops.toList σ rs ess bs σ') (I:Q .normal σ') (hm:P.follows .mixedOrders=true:=by kernel_rfl)
 (j:(VP ops&&WI ops&&WZ ops σ.slots.length&&Vs ops)=true:=by kernel_rfl) (q:Tm ops bs sl=true:=by kernel_rfl) (u:(sl.all fun i=> !(bs.getD i false))=true:=by kernel_rfl)
 (z:(Yc ops.size sl).map (aFc T ops σ rs ess)=(Yc ops.size sl).map fun p=>some (rs.getD p.1 .junk,(rF ops σ rs ess p.2).ents,false):=by kernel_rfl):AV P (.region id ops true) σ Q:=
 AV.awN hm j sl q h (aWK T u z) I
def AV.aCk [T:Kn P] {id:Nat} {y:Code} {σ σ':Ak} {Q:Exit→Ak→Prop} {rs:List Aa} {ess:List (List Az)} {bs:List Bool} (sl:List Nat) (h:Et P ops ops.toList σ rs ess bs σ') (I:AV P y σ' Q) (hm:P.follows .mixedOrders=true:=by kernel_rfl)
 (j:(VP ops&&WI ops&&WZ ops σ.slots.length&&Vs ops)=true:=by kernel_rfl) (q:Tm ops bs sl=true:=by kernel_rfl) (u:(sl.all fun i=> !(bs.getD i false))=true:=by kernel_rfl)
 (z:(Yc ops.size sl).map (aFc T ops σ rs ess)=(Yc ops.size sl).map fun p=>some (rs.getD p.1 .junk,(rF ops σ rs ess p.2).ents,false):=by kernel_rfl):AV P (.seq (.region id ops true) y) σ Q:=
 AV.seq1 σ' (AV.awN hm j sl q h (aWK T u z) rfl) I
def Ak.ajF (σ:Ak) (k j:Nat) (xs:List D) (cs:List Aa):Ak:=⟨σ.slots.map (Aa.thaw k xs),(σ.ents.set k .dead).set j (.box (cs.map (Aa.thaw k xs))),σ.base⟩
def ajy {σ:Ak} (k j:Nat) {e s:Nat} {xs:List D} {cs:List Aa} (hk:σ.ents[k]? =some (.arr e s xs)) (hj:σ.ents[j]? =some (.box cs)) (hl:(cs.map (Aa.thaw k xs)).all Aa.leaf=true):∀C ok H a w,Holds C ok H σ a w→∃ok',Holds C ok' H (σ.ajF k j xs cs) a w:=by
 intro C ok H a w u;have hkj:k≠j:=fun e=>by subst e;rw[hk]at hj;cases hj
 obtain⟨hd,Z,hok⟩:=GR u.mem.ent u.mem.hlen hk;have hkl:k<σ.ents.length:=(FI.1 hk).1;have hjl:j<(σ.ents.set k .dead).length:=by rw[Zi];exact(FI.1 hj).1
 let ok':Nat→Prop:=fun b=>ok b∨D6 hd.v=some b
 have O:=fun b q=>u.mem.blk k _ hd b hk rfl Z q;have hg:EN ok w ok' w:=fun b q=>⟨.inl q,rfl⟩
 have z:∀{x:Aa} {v:Value},R ok w H x v→R ok' w H (x.thaw k xs) v:=by
  intro x v hR0;have hR:=hR0.mono hg (Names.refl H);cases x with
  |aY i=>
   simp only[Aa.thaw];split
   ·rename_i hi;subst hi;obtain rfl:=Nq hR Z;exact .d _ _ (dz hok (fun b q=>.inl q) (fun b q=>.inr q))
   exact hR
  |lq i i2 off=>
   simp only[Aa.thaw];split
   ·exact .junk _
   exact hR
  |_=>exact hR
 have U:∀(i:Nat) (e':Az),((σ.ents.set k .dead).set j (.box (cs.map (Aa.thaw k xs))))[i]? =some e'→(i=j∧e'=.box (cs.map (Aa.thaw k xs)))∨(i≠j∧((i=k∧e'=.dead)∨(i≠k∧σ.ents[i]? =some e'))):=by
  intro i e' he;rcases LD hjl he with⟨rfl,rfl⟩|⟨h1,h2⟩
  ·exact .inl ⟨rfl,rfl⟩
  refine .inr ⟨h1,?_⟩;rcases LD hkl h2 with⟨rfl,rfl⟩|⟨Y,h4⟩
  ·exact .inl ⟨rfl,rfl⟩
  exact .inr ⟨Y,h4⟩
 have I:∀(i:Nat) (e':Az),((σ.ents.set k .dead).set j (.box (cs.map (Aa.thaw k xs))))[i]? =some e'→e'.live=true→i≠k∧∃e0,σ.ents[i]? =some e0∧e0.live=true:=by
  intro i e' he M;rcases U i e' he with⟨rfl,rfl⟩|⟨h1,⟨rfl,rfl⟩|⟨h2,Y⟩⟩
  ·exact⟨aj hkj,_,hj,rfl⟩
  ·cases M
  exact⟨h2,_,Y,M⟩
 refine⟨ok',⟨u.mem.fr,fun b q=>.inl (u.mem.yV b q),?_,?_,u.mem.names,by simp[Ak.ajF,u.mem.hlen],?_,?_,?_⟩,by simp[Ak.ajF,u.size],u.defers.mono hg,u.base,?_⟩
 ·rintro b (q|q)
  ·exact u.mem.yX b q
  exact .inr (O b q).2.2
 ·rintro b (q|q)
  ·exact u.mem.kN b q
  exact(O b q).2.1
 ·intro i e' h' he J;rcases U i e' he with⟨rfl,rfl⟩|⟨_,⟨rfl,rfl⟩|⟨_,he'⟩⟩
  ·obtain⟨b,vs,T,h1,h2,Y,h4⟩:=u.mem.ent i _ h' hj J;refine⟨b,vs,T,h1,h2,Vz,fun n hn=>?_⟩;rw[CB]at hn;rw[RN _ _ _ hn];refine⟨?_,z (h4 n hn).2⟩;rw[Di]at hl;exact hl _ (Dp.2 ⟨_,by simp[List.getD,hn],rfl⟩)
  ·trivial
  exact(u.mem.ent i e' h' he' J).mono hg (.refl _) (fun _ _ _=>rfl)
 ·intro i e' h' b he M J q;obtain⟨hik,e0,he0,hl0⟩:=I i e' he M;have Y:=u.mem.blk i e0 h' b he0 hl0 J q;refine⟨fun L=>?_,Y.2⟩;rcases L with L|L
  ·exact Y.1 L
  exact hik (u.mem.D8 i k e0 _ h' hd b he0 hk hl0 rfl J Z q L)
 ·intro i i' e1 e2 h1 h2 b he1 he2 hl1 hl2 hh1 hh2 hb1 hb2;obtain⟨_,e1',arY,aGs⟩:=I i e1 he1 hl1;obtain⟨_,e2',alg,aGt⟩:=I i' e2 he2 hl2;exact u.mem.D8 i i' e1' e2' h1 h2 b arY alg aGs aGt hh1 hh2 hb1 hb2
 intro t ht;simp only[Ak.ajF,CB]at ht
 have e1:(σ.ajF k j xs cs).slots.getD t .junk=(σ.slots.getD t .junk).thaw k xs:=by
  simp only[Ak.ajF];exact RN _ _ _ ht
 rw[e1];exact z (u.slot t ht)
def AV.conv {c:Code} {σ q:Ak} {Q:Exit→Ak→Prop} (h:∀C ok H a w,Holds C ok H σ a w→∃ok',Holds C ok' H q a w) (k:AV P c q Q):AV P c σ Q:=⟨fun ro u C ok H a w z=>by
 obtain⟨ok',j⟩:=h C ok H a w z
 exact k.run ro u C ok' H a w j⟩
end
def aDY (es:List Az) (H:List BN):List Nat:=(es.zip H).filterMap fun p=>if p.1.live then D6 p.2.v else none
def aTw {es:List Az} {H:List BN} {b:Nat}:b∈aDY es H↔∃(k:Nat) (e:Az) (h:BN),es[k]? =some e∧e.live=true∧H[k]? =some h∧D6 h.v=some b:=by
 unfold aDY;rw[Sl];constructor
 ·rintro⟨⟨e,h⟩,hm,j⟩;obtain⟨k,q⟩:=List.mem_iff_getElem?.1 hm;rw[aS8]at q;split at j
  ·rename_i hl;exact⟨k,e,h,q.1,hl,q.2,j⟩
  cases j
 rintro⟨k,e,h,u,z,I,J⟩;exact⟨(e,h),List.mem_iff_getElem?.2 ⟨k,aS8.2 ⟨u,I⟩⟩,by simp[z,J]⟩
def EP.now (w:World) (ok:Nat→Prop) (es:List Az) (H:List BN):EP:=⟨w,ok,aDY es H,H⟩
section
variable {C : EP} {ok ok' : Nat → Prop} {H H' : List BN} {es es' : List Az} {w w' : World}
def Ce.inner (hm:Ce C ok H es w):Ce (EP.now w ok es H) ok H es w:=
 ⟨.refl _ _,fun _ h=>h,fun _ h=>.inl h,hm.kN,.refl _,hm.hlen,hm.ent,
  fun k e h b j hl q u=>⟨(hm.blk k e h b j hl q u).1,(hm.blk k e h b j hl q u).2.1,.inr (aTw.2 ⟨k,e,h,j,hl,q,u⟩)⟩,hm.D8⟩
def Ce.outer (hm:Ce C ok H es w) (h:Ce (EP.now w ok es H) ok' H' es' w'):EN ok w ok' w'∧Names H H'∧Ce C ok' H' es' w':=by
 have z:∀b,b∈aDY es H→¬ok b∧b<w.heap.size∧(C.w0.heap.size≤b∨b∈C.X):=fun b q=>by
  obtain⟨k,e,hd,j,J,u,U⟩:=aTw.1 q;exact hm.blk k e hd b j J u U
 refine⟨fun b q=>⟨h.yV b q,h.fr.block b (hm.kN b q) fun I=>(z b I).1 q⟩,h.names,⟨h.fr.os.trans hm.fr.os,h.fr.tape.trans hm.fr.tape,h.fr.output.trans hm.fr.output,Ed hm.fr.size h.fr.size,fun k O I=>?_⟩,fun b q=>h.yV b (hm.yV b q),fun b q=>?_,h.kN,hm.names.trans h.names,h.hlen,h.ent,fun k e hd b Y hl Z q=>?_,h.D8⟩
 ·have L:k<w.heap.size:=Uy O hm.fr.size;refine(h.fr.block k L fun M=>?_).trans (hm.fr.block k O I);rcases(z k M).2.2 with j|j
  ·omega
  exact I j
 ·rcases h.yX b q with j|j|j
  ·exact hm.yX b j
  ·exact .inr (.inl (Ed hm.fr.size j))
  exact .inr ((z b j).2.2)
 obtain⟨j,J,u⟩:=h.blk k e hd b Y hl Z q;refine⟨j,J,?_⟩;rcases u with u|u
 ·exact .inl (Ed hm.fr.size u)
 exact(z b u).2.2
def Ce.ajG (hm:Ce C ok H es w) {n:Nat} {e e':Az} {h:BN} {b:Nat} {o:Obj} (J:es[n]? =some e) (hl:e.live=true) (L:H[n]? =some h) (M:D6 h.v=some b) (he:EN ok w ok (w.putObj b o)→En ok (w.putObj b o) H h e'):
 Ce C ok H (es.set n e') (w.putObj b o)∧EN ok w ok (w.putObj b o):=by
 obtain⟨O,h2,h3⟩:=hm.blk n e h b J hl L M;have hg:EN ok w ok (w.putObj b o):=fun c j=>⟨j,Xr fun e=>O (e▸j)⟩
 have z:=(FI.1 J).1;refine hm.change (fun c=>c=b) rfl rfl rfl Aw (fun c _ j=>Xr j) (fun c j _=>by subst j;exact⟨O,h3⟩) (fun _ h=>h) (fun _ h=>.inl h) (.refl _) (by simpa using hm.hlen) fun k e2 h4 hk q=>?_;rcases LD z hk with⟨rfl,rfl⟩|⟨u,I⟩
 ·right;rw[L]at q;obtain rfl:=CS q;refine⟨he hg,fun _ c j=>?_⟩;rw[M]at j;obtain rfl:=CS j;refine⟨O,yD,h3,fun k' e3 h5 u U Y Z hb3=>?_⟩;rcases LD z U with⟨rfl,_⟩|⟨_,hk4⟩
  ·exact u rfl
  exact u (hm.D8 k' _ e3 e h5 h _ hk4 J Y hl Z L hb3 M)
 left;exact⟨I,q,fun hl2 c j hcb=>u (hm.D8 k n e2 e h4 h c I J hl2 hl q L j (by rw[hcb];exact M))⟩
def cV :List Tmp→List Aa→List Aa→List Aa
 |p::j,x::xs,sl=>cV j xs (sl.set p x)
 |_,_,sl=>sl
def aWM :∀(j:List Tmp) (xs:List Aa) (vs:List Value) (sl:List Aa) (tm:Array Value),xs.length=j.length→vs.length=j.length→(∀i,i<xs.length→R ok w H (xs.getD i .junk) (vs.getD i undef))→
 tm.size=sl.length→(∀t,t<sl.length→R ok w H (sl.getD t .junk) (tm.getD t undef))→
 ((j.zip vs).foldl (fun t p=>t.setIfInBounds p.1 p.2) tm).size=(cV j xs sl).length∧∀t,t<(cV j xs sl).length→R ok w H ((cV j xs sl).getD t .junk) (((j.zip vs).foldl (fun t p=>t.setIfInBounds p.1 p.2) tm).getD t undef)
 | [],xs,vs,sl,tm,_,_,_,hs,q=>by
   have e:cV [] xs sl=sl:=by cases xs<;>rfl
   rw[e];exact⟨hs,q⟩
 |p::j,[],vs,sl,tm,h,_,_,_,_=>Ig
 |p::j,x::xs,[],sl,tm,_,h,_,_,_=>Ig
 |p::j,x::xs,v::vs,sl,tm,J,L,I,hs,q=>by
  refine aWM j xs vs (sl.set p x) (tm.setIfInBounds p v) SL Wu (fun i hi=>by simpa using I (i+1) G6) nV (fun t ht=>?_);rw[Zi]at ht;by_cases e:p=t
  ·subst e;have u:(sl.set p x).getD p .junk=x:=aLd
   have z:(tm.setIfInBounds p v).getD p undef=v:=by simp[Array.getD,hs,ht]
   rw[u,z];simpa using I 0 Aw
  have u:(sl.set p x).getD t .junk=sl.getD t .junk:=aNk
  have z:(tm.setIfInBounds p v).getD t undef=tm.getD t undef:=by simp[Ib,OZ e]
  rw[u,z];exact q t ht
end
def XZ :Exit→Option (LoopState×Option Code)
 | .normal=>some (.ready,none)
 | .ret=>some (.done,some .ret)
 | .exit i=>some (.done,some (.exit i))
 |_=>none
section
variable {P : Program} {ops : Array Oper} {o : Oper} {rest l : List Oper} {σ : Ak} {K : Exit → Ak → Prop}
def zn {h:BN} {l:Nat} (e:h.v=.func (.yield l) #[] #[]):D6 h.v=some l:=iH
def Ch.yield {f:Operand} {xs:Array Operand} {ts:Array TypeId} {tm:Array Value} {slots:List Aa} {rc:Array Tmp×Code×Code} (k:Nat) (dU:List Aa)
 (ho:o.op=.call { callee:=.value f,args:=xs,argTypes:=ts }) (hf:σ.get f=.mp k) (hk:σ.ents[k]? =some (.loop tm slots rc .ready none)) (hx:xs.toList.map σ.get=dU) (I:rc.1.size=xs.size)
 (hg:Ja ops σ o.guard=some true) (J:(Pv rc.2.1&&Pv rc.2.2)=true)
 (h:AV P rc.2.1 ⟨cV rc.1.toList dU slots,σ.ents,σ.ents.length⟩ fun e s=>e=.normal∧∃sl,s.ents[k]? =some (.loop tm sl rc .ready none)∧
  AV P rc.2.2 ⟨s.slots,s.ents.set k (.loop tm sl rc .busy none),s.base⟩ fun e s2=>∃z j,s2.ents[k]? =some (.loop tm z rc .busy none)∧XZ e=some j∧
   Ch P ops rest (Ak.rQ ⟨σ.slots,s2.ents.set k (.loop tm z rc j.1 j.2),σ.base⟩ o.dst (.d (.lit (.bool j.2.isNone)))) K):Ch P ops (o::rest) σ K:=by
 rw[CZ]at J;refine⟨fun ro l2 Q C ok H a w u L=>?_⟩;show wpListIn (Iz ro) 0 P ops Q (o::(rest++l2)) a w;unfold wpListIn;rw[CP (PS u (MR hg))];have hv:=hf▸u.get f;obtain⟨hd,M,Y⟩:=GR u.mem.ent u.mem.hlen hk;obtain⟨l,fn,D,e1,e2,e3,e4⟩:=Y
 have Z:a.eval f=.func (.yield l) #[] #[]:=by
  cases hv with
  |mp _ v s hl hH=>
   rw[M]at hH;obtain rfl:=CS hH;exact e1
 have hrun:(execOp a.eval o).run P w=.ok (.round l fn ((rc.1.zip (xs.map a.eval)).foldl (fun tmps (t,a)=>tmps.setIfInBounds t a) tm) rc.2.1 rc.2.2) w:=by
  have :=run_yield (P:=P) e2 (args:=xs.map a.eval) (by simp[I]);simp[execOp,ho,resolve,Z,Deferred.ofValue,invoke,this]
 unfold Oper.wpIn;rw[iE _ _ _ (by rw[ho];intro c h;cases h),hrun,Oper.uponIn_round];refine⟨fun _ _=>trivial,fun h=>Ie,roundIn_of_wpIn trivial ?_⟩
 have hT:(rc.1.zip (xs.map a.eval)).foldl (fun tmps (t,a)=>tmps.setIfInBounds t a) tm=(rc.1.toList.zip (xs.toList.map a.eval)).foldl (fun t p=>t.setIfInBounds p.1 p.2) tm:=by
  rw[←Array.foldl_toList,Array.toList_zip,Array.toList_map]
 rw[hT];have hpl:dU.length=rc.1.toList.length:=by rw[←hx];simp[I]
 obtain⟨p1,p2⟩:=aWM (ok:=ok) (w:=w) (H:=H) rc.1.toList dU (xs.toList.map a.eval) slots tm hpl (by simp[I]) (fun i hi=>by
  have hi':i<xs.toList.length:=by rw[←hx]at hi;simpa using hi
  have hi2:i<xs.size:=by simpa using hi'
  have U:dU.getD i .junk=σ.get xs.toList[i]:=by rw[←hx];simp[List.getD,hi2]
  have q2:(xs.toList.map a.eval).getD i undef=a.eval xs.toList[i]:=by simp[List.getD,hi2]
  rw[U,q2];exact u.get _) e3 e4
 have hin:Holds (EP.now w ok σ.ents H) ok H ⟨cV rc.1.toList dU slots,σ.ents,σ.ents.length⟩ { tmps:=(rc.1.toList.zip (xs.toList.map a.eval)).foldl (fun t p=>t.setIfInBounds p.1 p.2) tm,defers:=[] } w:=
  ⟨u.mem.inner,p1,.nil _ _ _,u.mem.hlen,p2⟩
 show Code.wpIn (Iz (some l)) 0 P _ _ _ _;refine Ur (h.run (some l) (.inr J.1) _ _ _ _ _ hin) ?_;rintro e a1 w1 ⟨ok1,H1,s1,q,rfl,sl,hs1,h2⟩;obtain⟨g1,n1,m1⟩:=u.mem.outer q.mem;have hk1:=n1 k hd M;obtain⟨l',fn',D',U,q2,q3,q4⟩:=q.mem.ent k _ hd hs1 hk1;have O:l'=l:=by rw[e1]at U;cases U;rfl
 subst O
 obtain⟨m2,g2⟩:=q.mem.ajG (o:=.loop { state:=.busy,pending:=none,fn:=fn',tmps:=tm,params:=rc.1,assign:=rc.2.1,body:=rc.2.2,defers:=D' }) (e':=.loop tm sl rc .busy none) hs1 rfl hk1 (zn U)
  (fun g=>⟨l',fn',D',U,X6 (GX.1 q2).1,q3,fun t ht=>(q4 t ht).mono g (.refl _)⟩)
 refine⟨_,run_beginRound q2 rfl,?_⟩;refine Ur (h2.run (some l') (.inr J.2) _ _ _ _ _ ⟨m2,q.size,q.defers.mono g2,q.base,fun t ht=>(q.slot t ht).mono g2 (.refl _)⟩) ?_;rintro e a2 w3 ⟨ok2,H2,s2,hh2,z,j,hs2,hj,hL⟩;obtain⟨g3,n3,m3⟩:=u.mem.outer hh2.mem;have hk2:=n3 k hd M;obtain⟨l3,fn3,D3,r1,r2,r3,r4⟩:=hh2.mem.ent k _ hd hs2 hk2;have O:l3=l':=by rw[e1]at r1;cases r1;rfl
 subst O
 have key:j.1=(if j.2.isNone then LoopState.ready else .done)→∃v w',(Instr.endRound l3 j.2).run P w3=.ok v w'∧wpListIn (Iz ro) 0 P ops Q (rest++l2) (a.put o.dst v) w':=by
  intro hst
  obtain⟨m4,g4⟩:=m3.ajG (o:=.loop { state:=(if j.2.isNone then LoopState.ready else .done),pending:=j.2,fn:=fn3,tmps:=tm,params:=rc.1,assign:=rc.2.1,body:=rc.2.2,defers:=D3 }) (e':=.loop tm z rc j.1 j.2) hs2 rfl hk2 (zn r1)
   (fun g=>⟨l3,fn3,D3,r1,by rw[hst];exact X6 (GX.1 r2).1,r3,fun t ht=>(r4 t ht).mono g (.refl _)⟩)
  refine⟨_,_,run_endRound j.2 r2,hL.run ro l2 Q C _ _ _ _ (Holds.put (σ:=⟨σ.slots,s2.ents.set k (.loop tm z rc j.1 j.2),σ.base⟩) ⟨m4,u.size,u.defers.mono (g3.trans g4),u.base,fun t ht=>(u.slot t ht).mono (g3.trans g4) n3⟩ o.dst (.refl _ _) (.refl _) m4 (.d _ _ (.lit _))) L⟩
 cases e with
 |normal=>obtain rfl:=CS hj;exact key rfl
 |ret=>obtain rfl:=CS hj;exact key rfl
 |exit i=>obtain rfl:=CS hj;exact key rfl
 |_=>cases hj
def AV.ayV {Q:Exit→Ak→Prop} {g:Operand} {Y:Array Tmp} {assign body c:Code} {gf:FuncId} {fn:Func} (q:List Aa) (hg:∀(C:EP) (ok:Nat→Prop) (H:List BN) (a:Act) (w:World),Holds C ok H σ a w→R ok w H (.fn (.func gf) [] q) (a.eval g)) (hf:P.funcs[gf]? =some fn) (he:BA P gf=true) (J:fn.body=some c) (hres:fn.results= #[])
 (h:∀tm,AV P c ⟨(.mp σ.ents.length::q)++List.replicate (fn.ntmps-(q.length+1)) .junk,σ.ents++[.loop tm σ.slots (Y,assign,body) .ready none],σ.ents.length+1⟩ fun e s=>(e=.normal∨e=.ret)∧
  ∃sl j x,s.ents[σ.ents.length]? =some (.loop tm sl (Y,assign,body) j.1 j.2)∧XZ x=some j∧Q x ⟨σ.slots,s.ents.set σ.ents.length .dead,σ.base⟩):AV P (.rangeFunc g Y assign body) σ Q:=by
 refine⟨fun ro hr C ok H a w u=>?_⟩;obtain rfl:ro=none:=hr.resolve_right (by simp[Pv]);have hv:=hg C ok H a w u;generalize hav:a.eval g=v at hv;cases hv with
 |fn _ _ _ vs us hl1 hl2 h1 h2=>
  obtain rfl:vs= #[]:=W9 (by simpa using hl1);refine wpIn_rangeFunc ?_;intro fnm _;obtain⟨M,hrec⟩:∃M:Loop,M={ state:=.ready,pending:=none,fn:=fnm,tmps:=a.tmps,params:=Y,assign,body,defers:=w.heap.size }:=⟨_,rfl⟩
  obtain⟨I,L⟩:∃I,(w.alloc (.deferred (some []))).alloc (.loop M)=I:=⟨_,rfl⟩
  have hsz:I.heap.size=w.heap.size+2:=by rw[←L];simp
  have hL:I.heap[w.heap.size+1]? =some (.loop M):=by
   rw[←L];have :=jg (w.alloc (.deferred (some []))) (.loop M);rwa [aMa]at this
  have hD:I.heap[w.heap.size]? =some (.deferred (some [])):=by
   rw[←L];exact(KE _ _ _ Aw).trans (jg w _)
  have hold:∀b,b<w.heap.size→I.heap[b]? =w.heap[b]? :=fun b J=>by
   rw[←L];exact(KE _ _ _ DW).trans (KE _ _ _ J)
  have hos:I.os=w.os∧I.tape=w.tape∧I.output=w.output:=by rw[←L];exact⟨rfl,rfl,rfl⟩
  obtain⟨hd,hhd⟩:∃hd:BN,hd=⟨.func (.yield (w.heap.size+1)) #[] #[],0⟩:=⟨_,rfl⟩
  have Z:hd.v=.func (.yield (w.heap.size+1)) #[] #[]:=by rw[hhd]
  have hgr:EN ok w (fun b=>ok b∨b=w.heap.size) I:=fun b J=>⟨.inl J,hold b (u.mem.kN b J)⟩
  have hHn:(H++[hd])[σ.ents.length]? =some hd:=by rw[←u.mem.hlen];simp
  obtain⟨m2,g2⟩:=u.mem.change (ok':=fun b=>ok b∨b=w.heap.size) (H':=H++[hd]) (es':=σ.ents++[.loop a.tmps σ.slots (Y,assign,body) .ready none]) (w':=I) (fun _=>False) hos.1 hos.2.1 hos.2.2 AA (fun b J _=>hold b J) (fun _ h=>h.elim)
   (fun _ h=>.inl h) (fun b J=>J.imp id fun h=>AA) (.push _ _) (by simp[u.mem.hlen]) (fun k e hk he hkk=>by
    rcases X8 he with he'|⟨rfl,rfl⟩
    ·left;have hkl:k<H.length:=by rw[u.mem.hlen];exact(FI.1 he').1
     rw[GZ hkl]at hkk;exact⟨he',hkk,fun _ _ _ h=>h⟩
    right;rw[hHn]at hkk;obtain rfl:=CS hkk;refine⟨⟨w.heap.size+1,fnm,w.heap.size,Z,by rw[hL,hrec],u.size,fun t ht=>(u.slot t ht).mono hgr (.push _ _)⟩,fun _ b J=>?_⟩;rw[zn Z]at J;obtain rfl:=CS J;refine⟨fun hx=>?_,AA,.inl (by have :=u.mem.fr.size;omega),fun k' e' h' hne he' hl' O hb'=>?_⟩
    ·rcases hx with hx|hx
     ·have :=u.mem.kN _ hx;omega
     omega
    rcases X8 he' with he2|⟨rfl,_⟩
    ·have hkl:k'<H.length:=by rw[u.mem.hlen];exact(FI.1 he2).1
     rw[GZ hkl]at O;have :=(u.mem.blk k' e' h' _ he2 hl' O hb').2.1;omega
    exact hne rfl)
  have hargs:∀t,t<((.mp σ.ents.length::q)++List.replicate (fn.ntmps-(q.length+1)) .junk:List Aa).length→
   R (fun b=>ok b∨b=w.heap.size) I (H++[hd]) (((.mp σ.ents.length::q)++List.replicate (fn.ntmps-(q.length+1)) .junk:List Aa).getD t .junk)
     (((#[.func (.yield (w.heap.size+1)) #[] #[]]++us)++Array.replicate (fn.ntmps-(#[.func (.yield (w.heap.size+1)) #[] #[]]++us:Array Value).size) undef:Array Value).getD t undef):=by
   intro t ht;by_cases h0:t<q.length+1
   ·have q1:((.mp σ.ents.length::q)++List.replicate (fn.ntmps-(q.length+1)) .junk:List Aa).getD t .junk=(.mp σ.ents.length::q:List Aa).getD t .junk:=by
     simp only[List.getD];rw[GZ (by simpa using h0)]
    have q2:((#[.func (.yield (w.heap.size+1)) #[] #[]]++us)++Array.replicate (fn.ntmps-(#[.func (.yield (w.heap.size+1)) #[] #[]]++us:Array Value).size) undef:Array Value).getD t undef=(#[.func (.yield (w.heap.size+1)) #[] #[]]++us:Array Value).getD t undef:=by
     simp only[Ib];rw[YE DW]
    rw[q1,q2];cases t with
    |zero=>
     have q3:(#[.func (.yield (w.heap.size+1)) #[] #[]]++us:Array Value).getD 0 undef=.func (.yield (w.heap.size+1)) #[] #[]:=by
      simp only[Ib];rw[YE Aw];rfl
     rw[q3];exact .mp _ _ 0 rfl (by rw[hHn,hhd])
    |succ t=>
     have q3:(#[.func (.yield (w.heap.size+1)) #[] #[]]++us:Array Value).getD (t+1) undef=us.getD t undef:=by
      simp only[Ib];rw[aPC Aw];rfl
     rw[q3];simpa using(h2 t AA).mono hgr (.push _ _)
   have q1:((.mp σ.ents.length::q)++List.replicate (fn.ntmps-(q.length+1)) .junk:List Aa).getD t .junk=.junk:=by
    simp only[List.getD];rw[Jf DW,aK7];split<;>rfl
   rw[q1];exact .junk _
  have hin:Holds (EP.now I (fun b=>ok b∨b=w.heap.size) (σ.ents++[.loop a.tmps σ.slots (Y,assign,body) .ready none]) (H++[hd])) (fun b=>ok b∨b=w.heap.size) (H++[hd])
   ⟨(.mp σ.ents.length::q)++List.replicate (fn.ntmps-(q.length+1)) .junk,σ.ents++[.loop a.tmps σ.slots (Y,assign,body) .ready none],σ.ents.length+1⟩
   { tmps:=(#[.func (.yield (w.heap.size+1)) #[] #[]]++us)++Array.replicate (fn.ntmps-(#[.func (.yield (w.heap.size+1)) #[] #[]]++us:Array Value).size) undef,defers:=[] } I:=
   ⟨m2.inner,by simp[hl2];omega,.nil _ _ _,by simp[EP.now,u.mem.hlen],hargs⟩
  refine⟨w.heap.size+1,[{ target:=.collected w.heap.size,args:= #[] }],I,{ target:=.fn (.func gf) us,args:= #[.func (.yield (w.heap.size+1)) #[] #[]] },I,gf, #[.func (.yield (w.heap.size+1)) #[] #[]]++us,I,?_,?_,fun _ _=>trivial,?_,fun h=>Ie,?_⟩
  ·rw[←L,hrec];exact run_enterLoop_outer _ _ _ _ _
  ·have e9:a.eval (.const (.func (.yield (w.heap.size+1)) #[] #[]))=.func (.yield (w.heap.size+1)) #[] #[]:=rfl;simp[resolve,hav,Deferred.ofValue,e9]
  ·have :=TR he (#[.func (.yield (w.heap.size+1)) #[] #[]]++us) I;simpa[invoke]using this
  refine aPD hf J trivial (Ur ((h a.tmps).run none (.inl rfl) _ _ _ _ _ hin) ?_) rfl;rintro e a' w' ⟨ok',H',s,O,hee,sl,j,x,hs,hj,hQ⟩;obtain⟨Ds,hDs,hnd,hds⟩:=O.defers
  have key:LeavesInM (Iz none) 0 P fn a'.tmps (rangePost (Iz none) 0 P (w.heap.size+1) (fun e a' w'=>∃ok' H' σ',Holds C ok' H' σ' a' w'∧Q e σ') { a with defers:=[{ target:=.collected w.heap.size,args:= #[] }]++a.defers }) a'.defers .returning w':=by
   rw[hDs];refine aOr (P:=P) (C:=EP.now I (fun b=>ok b∨b=w.heap.size) (σ.ents++[.loop a.tmps σ.slots (Y,assign,body) .ready none]) (H++[hd])) m2.kN (fun ok3 a3 w3 h3=>?_) Ds O hds hnd;refine⟨.tuple #[],by simp[results,hres],?_⟩;obtain⟨g3,n3,m3⟩:=m2.outer h3.mem;have hk3:=n3 _ hd hHn;obtain⟨l3,fn3,D3,r1,r2,r3,r4⟩:=h3.mem.ent _ _ hd hs hk3;have hll:l3=w.heap.size+1:=by rw[Z]at r1;cases r1;rfl
   subst hll
   have hnb:j.1≠ .busy:=by
    cases x<;>simp[XZ]at hj<;>rw[←hj]<;>simp
   obtain⟨m4,g4⟩:=m3.ajG (o:=.loop { state:=.exhausted,pending:=j.2,fn:=fn3,tmps:=a.tmps,params:=Y,assign:=assign,body:=body,defers:=D3 }) (e':=.dead) hs rfl hk3 (zn Z) (fun _=>trivial);have U:=(g2.trans g3).trans g4
   have z:Holds C ok3 H' ⟨σ.slots,s.ents.set σ.ents.length .dead,σ.base⟩ { a with defers:=[{ target:=.collected w.heap.size,args:= #[] }]++a.defers }
    (w3.putObj (w.heap.size+1) (.loop { state:=.exhausted,pending:=j.2,fn:=fn3,tmps:=a.tmps,params:=Y,assign:=assign,body:=body,defers:=D3 })):=by
    refine⟨m4,u.size,?_,u.base,fun t ht=>(u.slot t ht).mono U ((Names.push _ _).trans n3)⟩;obtain⟨Es,q1,q2,q3⟩:=u.defers.mono U;obtain⟨Fs,p1,p2,p3⟩:=u.defers
    have hEF:Es=Fs:=by
     have :=q1.symm.trans p1;exact(List.map_inj_right (fun a b h=>J3)).1 this
    subst hEF;refine⟨w.heap.size::Es,by simp[q1],Kv.2 ⟨fun hm=>?_,q2⟩,fun D hDm=>?_⟩
    ·have :=u.mem.kN _ (p3 _ hm).1;omega
    rcases EG.1 hDm with rfl|hDm
    ·have hok2:(fun b=>ok b∨b=w.heap.size) w.heap.size:=.inr rfl;have q4:=(g3.trans g4) _ hok2;exact⟨q4.1,u.mem.fr.size,q4.2.trans hD⟩
    exact q3 D hDm
   refine⟨j.2,_,run_endLoop r2 hnb,?_⟩;cases x with
   |normal=>simp[XZ]at hj;rw[←hj]at z ⊢;exact⟨_,_,_,z,hQ⟩
   |ret=>simp[XZ]at hj;rw[←hj]at z ⊢;exact wpIn_ret ⟨_,_,_,z,hQ⟩
   |exit i=>simp[XZ]at hj;rw[←hj]at z ⊢;exact wpIn_exit ⟨_,_,_,z,hQ⟩
   |_=>cases hj
  rcases hee with rfl|rfl
  ·exact key
  exact key
def AV.rangeFunc {Q:Exit→Ak→Prop} {g:Operand} {z:Array Tmp} {assign body c:Code} {I:FuncId} {fn:Func} (q:List Aa) (J:σ.get g=.fn (.func I) [] q) (L:P.funcs[I]? =some fn) (M:BA P I=true) (O:fn.body=some c) (u:fn.results= #[])
 (h:∀tm,AV P c ⟨(.mp σ.ents.length::q)++List.replicate (fn.ntmps-(q.length+1)) .junk,σ.ents++[.loop tm σ.slots (z,assign,body) .ready none],σ.ents.length+1⟩ fun e s=>(e=.normal∨e=.ret)∧
  ∃sl j x,s.ents[σ.ents.length]? =some (.loop tm sl (z,assign,body) j.1 j.2)∧XZ x=some j∧Q x ⟨σ.slots,s.ents.set σ.ents.length .dead,σ.base⟩):AV P (.rangeFunc g z assign body) σ Q:=
 AV.ayV q (fun _ _ _ _ _ U=>J▸U.get g) L M O u h
def AV.amL {Q:Exit→Ak→Prop} {g:Operand} {u:Array Tmp} {assign body c:Code} {z:FuncId} {fn:Func} (cs:List D) (I:σ.get g=.d (.fn (.func z) [] cs)) (J:P.funcs[z]? =some fn) (L:BA P z=true) (M:fn.body=some c) (q:fn.results= #[])
 (h:∀tm,AV P c ⟨(.mp σ.ents.length::cs.map .d)++List.replicate (fn.ntmps-((cs.map Aa.d).length+1)) .junk,σ.ents++[.loop tm σ.slots (u,assign,body) .ready none],σ.ents.length+1⟩ fun e s=>(e=.normal∨e=.ret)∧
  ∃sl j x,s.ents[σ.ents.length]? =some (.loop tm sl (u,assign,body) j.1 j.2)∧XZ x=some j∧Q x ⟨σ.slots,s.ents.set σ.ents.length .dead,σ.base⟩):AV P (.rangeFunc g u assign body) σ Q:=
 AV.ayV (cs.map .d) (fun _ _ _ _ _ O=>R.dfn (I▸O.get g)) J L M q h
end
def apw :Code→Nat→Code
 | .seq a b,i=>if i=0 then a else b
 | .cond _ a b,i=>if i=0 then a else b
 | .block _ a,_=>a
 | .loop a,_=>a
 | .scope a,_=>a
 | .rangeFunc _ _ a b,i=>if i=0 then a else b
 |c,_=>c
def aFQ (c:Option Code) (p:List Nat):Array Tmp×Code×Code:=
 match p.foldl apw (c.getD .skip)with
 | .rangeFunc _ j a b=>(j,a,b)
 |_=>(#[],.skip,.skip)
section
variable {K V : Type} [BEq K]
def CJ :List (K×V)→K→Option V
 | [],_=>none
 |p::l,k=>bif k==p.1 then some p.2 else CJ l k
def Ea :List (K×V)→K→V→List (K×V)
 | [],k,v=>[(k,v)]
 |p::l,k,v=>bif k==p.1 then(k,v)::l else p::Ea l k v
def Bv (ek:K→Value) (ev:V→D) (p:K×V):Value×D:=(ek p.1,ev p.2)
structure KeyTy (P:Program) (t:TypeId) (ek:K→Value):Prop where
 same:∃kd,P.underlying t=some kd∧∀a b,Instr.sameNow kd (ek a) (ek b)=some (a==b)
 check:∀e a w,(Instr.checkKey e 10000 t (ek a)).run P w=.ok () w
 eq:∀a b:K,(a==b)=true→a=b
 bits:∀a,Instr.sameBits 10000 (ek a) (ek a)=true
def akS {P:Program} {t:TypeId} {k:IntKind} (h:P.underlying t=some (.int k)):KeyTy P t (fun n:Int=>Value.int k n):=by
 refine⟨⟨_,h,fun a b=>by simp[Instr.sameNow]⟩,fun e a w=>?_,fun a b h=>J3,fun a=>?_⟩
 ·have :∀n,(Instr.checkKey e (n+1) t (.int k a)).run P w=.ok () w:=fun n=>by simp[Instr.checkKey,underlying,h]
  exact this 9999
 unfold Instr.sameBits;simp
def aDn {ek:K→Value} {kd:TypeDesc} (hs:∀a b,Instr.sameNow kd (ek a) (ek b)=some (a==b)) (k:K) (v:V):∀(m:List (K×V)) (l:List MapEntry) (i:Nat),l.map (·.key)=m.map (fun p=>ek p.1)→
 (Instr.findNow kd (ek k) l i=some none∧CJ m k=none∧Ea m k v=m++[(k,v)])∨
 ∃j e p,Instr.findNow kd (ek k) l i=some (some (i+j,e.val))∧l[j]? =some e∧m[j]? =some p∧CJ m k=some p.2∧(k==p.1)=true∧Ea m k v=m.set j (k,v)
 | [],[],_,_=>.inl ⟨rfl,rfl,rfl⟩
 | [],_::_,_,h=>Ig
 |_::_,[],_,h=>Ig
 |p::m,e::l,i,h=>by
  simp only[Ia,aMM]at h;cases q:(k==p.1)with
  |true=>
   refine .inr ⟨0,e,p,?_,rfl,rfl,?_,q,?_⟩
   ·simp[Instr.findNow,h.1,hs,q]
   ·simp[CJ,q]
   simp[Ea,q]
  |false=>
   rcases aDn hs k v m l (i+1) h.2 with⟨u,z,I⟩|⟨j,e',J,u,z,I,L,M,O⟩
   ·refine .inl ⟨?_,?_,?_⟩
    ·simp[Instr.findNow,h.1,hs,q,u]
    ·simp[CJ,q,z]
    simp[Ea,q,I]
   refine .inr ⟨j+1,e',J,?_,Le,Rf,?_,M,?_⟩
   ·simp[Instr.findNow,h.1,hs,q,u];omega
   ·simp[CJ,q,L]
   simp[Ea,q,O]
end
section
variable {ok : Nat → Prop} {w : World} {es : List (Value × D)} {ms : Array MapEntry} {clock : Nat}
def KZ.push (h:KZ ok w es ms clock) {k v:Value} {x:D} (L:Dk ok w x v):KZ ok w (es++[(k,x)]) (ms.push { key:=k,val:=v,born:=clock }) (clock+1):=by
 have q:∀(i:Nat) (m:MapEntry),(ms.push { key:=k,val:=v,born:=clock })[i]? =some m→ms[i]? =some m∨(i=ms.size∧m={ key:=k,val:=v,born:=clock }):=fun i m hm=>by
  rw[aMn]at hm;split at hm
  ·rename_i e;exact .inr ⟨e,(CS hm).symm⟩
  exact .inl hm
 refine⟨by simp[h.len],fun i e m z hm=>?_,fun i j m n I hm M=>?_⟩
 ·rcases q i m hm with u|⟨rfl,rfl⟩
  ·have hi:i<es.length:=by rw[←h.len];exact(GX.1 u).1
   rw[GZ hi]at z;obtain⟨O,U,Y⟩:=h.ent i e m z u;exact⟨O,U,Nat.lt_succ_of_lt Y⟩
  rw[h.len]at z;simp at z;subst z;exact⟨rfl,L,VK _⟩
 rcases q i m hm with u|⟨rfl,rfl⟩<;>rcases q j n M with J|⟨rfl,rfl⟩
 ·exact h.inc i j m n I u J
 ·have hi:i<es.length:=by rw[←h.len];exact(GX.1 u).1
  exact(h.ent i es[i] m Tt u).2.2
 ·have :=(GX.1 J).1;omega
 omega
def KZ.modify (h:KZ ok w es ms clock) {k v:Value} {x:D} (Z:Dk ok w x v) (j:Nat):KZ ok w (es.set j (k,x)) (ms.modify j fun e=>{ e with key:=k,val:=v }) clock:=by
 have u:∀(i:Nat) (m:MapEntry),(ms.modify j fun e=>{ e with key:=k,val:=v })[i]? =some m→∃z,ms[i]? =some z∧m.born=z.born∧(i≠j→m=z)∧(i=j→m.key=k∧m.val=v):=fun i m hm=>by
  rw[NY]at hm;split at hm
  ·rename_i e;rw[SI]at hm;obtain⟨z,I,rfl⟩:=hm;exact⟨z,I,rfl,fun q=>absurd e.symm q,fun _=>⟨rfl,rfl⟩⟩
  rename_i e;exact⟨m,hm,rfl,fun _=>rfl,fun q=>absurd q.symm e⟩
 refine⟨by simp[h.len],fun i e m J hm=>?_,fun i U m n L hm hn=>?_⟩
 ·obtain⟨z,I,M,h3,Y⟩:=u i m hm;have hi:i<es.length:=by rw[←h.len];exact(GX.1 I).1
  obtain⟨q1,q2,q3⟩:=h.ent i es[i] z Tt I;by_cases O:i=j
  ·subst O;simp[hi]at J;subst J;exact⟨(Y rfl).1,by rw[(Y rfl).2];exact Z,by rw[M];exact q3⟩
  rw[YO (fun q=>O q.symm)]at J;rw[h3 O];exact h.ent i e z J I
 obtain⟨z,I,M,_⟩:=u i m hm;obtain⟨n0,g1,g2,_⟩:=u U n hn;rw[M,g2];exact h.inc i U z n0 L I g1
def KZ.mono {ok':Nat→Prop} {w':World} (h:KZ ok w es ms clock) (q:EN ok w ok' w'):KZ ok' w' es ms clock:=⟨h.len,fun i e m j hm=>⟨(h.ent i e m j hm).1,(h.ent i e m j hm).2.1.mono q,(h.ent i e m j hm).2.2⟩,h.inc⟩
def KZ.keys (h:KZ ok w es ms clock):ms.toList.map (·.key)=es.map (·.1):=by
 apply oz
 ·simp[h.len]
 intro i j q;simp at j q;have :=(h.ent i es[i] ms[i] ZX (by simp[j])).1;simpa using this
end
def dB :Value→D
 | .agg vs=>.agg (vs.toList.map Oe)
 |v=>Oe v
def aW2 {ok:Nat→Prop} {w:World} {z:Value} (h:z.cells.all (·.oneCell')=true):Dk ok w (dB z) z:=by
 unfold dB;split
 ·rename_i vs;refine .agg _ vs Aw (fun i hi=>?_) (fun i hi=>?_)
  ·simp at hi;have e:(vs.toList.map Oe).getD i Dh=Oe vs[i]:=NZ
   rw[e];exact yP ((Sr.1 h) _ (by simp[Value.cells]))
  simp at hi;have e:(vs.toList.map Oe).getD i Dh=Oe vs[i]:=NZ
  have j:vs.getD i undef=vs[i]:=by simp[Array.getD,hi]
  rw[e,j];exact lV _
 exact lV _
section
variable {P : Program} {o : Oper} {es : List Az} {K V : Type} [BEq K]
def VH {ok:Nat→Prop} {w:World} {H:List BN} {k:Nat} {v:Value} {h:BN} (q:R ok w H (.mp k) v) (u:H[k]? =some h):v=h.v:=by
 cases q with
 |mp _ _ s hl j=>
  rw[u]at j;cases j;rfl
def aGL {t:TypeId} (u:o.op=.makeMap t none):BR P o [] es (.mp es.length) (es++[.map []]):=
 .eff fun C ok H a w hm M=>by
  have q:En ok (w.alloc (.map #[] 0)) (H++[⟨.map (some w.heap.size),0⟩]) ⟨.map (some w.heap.size),0⟩ (.map []):=
   ⟨w.heap.size, #[],0,rfl,(aHN w _).1,⟨rfl,fun i e m z=>xw,fun i j m n _ hm=>by simp at hm⟩⟩
  obtain⟨I,J⟩:=hm.push (.map #[] 0) ⟨.map (some w.heap.size),0⟩ _ (fun b q=>aNh) q;refine⟨.map (some w.heap.size),_,ok,_,.inl ?_,J,Names.push _ _,I,.mp _ _ 0 rfl Pm⟩;have L:(newObj (.map #[] 0)).run P w=.ok w.heap.size (w.alloc (.map #[] 0)):=rfl;simp[execOp,u,Instr.makeMap,L]
def afm {t k e:TypeId} {x:Operand} {kd:IntKind} {n:Int} (ht:P.underlying t=some (.map k e)) (z:o.op=.makeMap t (some x)):BR P o [(x,.d (.lit (.int kd n)))] es (.mp es.length) (es++[.map []]):=
 .eff fun C ok H a w hm I=>by
  have q:En ok (w.alloc (.map #[] 0)) (H++[⟨.map (some w.heap.size),0⟩]) ⟨.map (some w.heap.size),0⟩ (.map []):=
   ⟨w.heap.size, #[],0,rfl,(aHN w _).1,⟨rfl,fun i e m J=>by simp at J,fun i j m n _ hm=>by simp at hm⟩⟩
  obtain⟨L,M⟩:=hm.push (.map #[] 0) ⟨.map (some w.heap.size),0⟩ _ (fun b q=>aNh) q;have u:=(KH I).lit;simp only at u;refine⟨.map (some w.heap.size),_,ok,_,.inl ?_,M,Names.push _ _,L,.mp _ _ 0 rfl Pm⟩;have O:(newObj (.map #[] 0)).run P w=.ok w.heap.size (w.alloc (.map #[] 0)):=rfl;simp[execOp,z,Instr.makeMap,O,u,asInt,asIntOf,underlying,ht]
def aHo {t Z vt:TypeId} {ek:K→Value} (ev:V→D) {J:V} {z:Value} {m:List (K×V)} {key:K} {ok:Nat→Prop} {w:World} {b:Nat} {ms:Array MapEntry} {clock:Nat} (ht:P.underlying t=some (.map Z vt)) (hk:KeyTy P Z ek) (hz:(P.info? vt).bind (·.zero)=some z) (L:dB z=ev J)
 (M:z.cells.all (·.oneCell')=true) (hb:w.heap[b]? =some (.map ms clock)) (hM:KZ ok w (m.map (Bv ek ev)) ms clock) (c:Bool):
 ∃v,(Instr.lookup t (.map (some b)) (ek key) c).run P w=.ok (if c then .tuple #[v,.bool (CJ m key).isSome]else v) w∧Dk ok w (ev ((CJ m key).getD J)) v:=by
 obtain⟨kd,q,hs⟩:=hk.same;have O:ms.toList.map (·.key)=m.map (fun p=>ek p.1):=by rw[hM.keys];simp[Bv,wo]
 have u:=hk.check;obtain⟨i,hi,U⟩:=eS.1 hz;rcases aDn (i:=0) hs key J m ms.toList O with⟨Y,I,_⟩|⟨j,e,p,Y,I,h3,h4,_⟩
 ·refine⟨z,?_,?_⟩
  ·rw[I];simp[Instr.lookup,underlying,ht,Rj hb,u,Instr.findKey,q,Y,zeroValue,typeInfo,hi,U]
  rw[I];have :=aW2 (ok:=ok) (w:=w) M;rw[L]at this;exact this
 refine⟨e.val,?_,?_⟩
 ·rw[h4];simp[Instr.lookup,underlying,ht,Rj hb,u,Instr.findKey,q,Y]
 rw[h4];have h5:(m.map (Bv ek ev))[j]? =some (Bv ek ev p):=by rw[JD,h3];rfl
 exact(hM.ent j _ e h5 Rf).2.1
def aP {t J L:TypeId} {x y:Operand} {k:Nat} {ek:K→Value} (ev:V→D) (M:V) {z:Value} {m:List (K×V)} {key:K} (ht:P.underlying t=some (.map J L)) (Z:KeyTy P J ek) (hz:(P.info? L).bind (·.zero)=some z) (q:dB z=ev M) (u:z.cells.all (·.oneCell')=true)
 (he:es[k]? =some (.map (m.map (Bv ek ev)))) (ho:o.op=.lookup t x y false):BR P o [(x,.mp k),(y,.d (.lit (ek key)))] es (.d (ev ((CJ m key).getD M))) es:=
 .pure fun ok H a w j hl O=>by
  obtain⟨hd,hh,I⟩:=GR j hl he;obtain⟨b,ms,clock,h1,h2,h3⟩:=I;have U:=VH (Eh O).1 hh;have Y:=(Eh O).2.lit;simp only at U Y;obtain⟨v,hr,hv⟩:=aHo (key:=key) ev ht Z hz q u h2 h3 false;refine⟨v,?_,.d _ _ hv⟩;simp[execOp,ho,U,Y,h1,hr]
def aE2 {t J L:TypeId} {x y:Operand} {k:Nat} {ek:K→Value} (ev:V→D) (M:V) {z:Value} {m:List (K×V)} {key:K} (ht:P.underlying t=some (.map J L)) (Z:KeyTy P J ek) (hz:(P.info? L).bind (·.zero)=some z) (q:dB z=ev M) (u:z.cells.all (·.oneCell')=true)
 (he:es[k]? =some (.map (m.map (Bv ek ev)))) (ho:o.op=.lookup t x y true):BR P o [(x,.mp k),(y,.d (.lit (ek key)))] es (.eF [.d (ev ((CJ m key).getD M)),.d (EC (CJ m key).isSome)]) es:=
 .pure fun ok H a w j hl O=>by
  obtain⟨hd,hh,I⟩:=GR j hl he;obtain⟨b,ms,clock,h1,h2,h3⟩:=I;have U:=VH (Eh O).1 hh;have Y:=(Eh O).2.lit;simp only at U Y;obtain⟨v,hr,hv⟩:=aHo (key:=key) ev ht Z hz q u h2 h3 true;refine⟨.tuple #[v,.bool (CJ m key).isSome],?_,.eF _ _ rfl fun i hi=>?_⟩
  ·simp[execOp,ho,U,Y,h1,hr]
  match i,hi with
  |0,_=>exact .d _ _ hv
  |1,_=>exact .d _ _ (.lit _)
def aO2 {C:EP} {ok:Nat→Prop} {H:List BN} {w:World} (hm:Ce C ok H es w) {k:Nat} {es0 u:List (Value×D)} {b clock j:Nat} {ms q:Array MapEntry} {hd:BN} (J:es[k]? =some (.map es0)) (L:H[k]? =some hd) (z:hd.v=.map (some b)) (I:w.heap[b]? =some (.map ms clock))
 (M:KZ ok w u q j):(setObj b (.map q j)).run P w=.ok () (w.putObj b (.map q j))∧Ce C ok H (es.set k (.map u)) (w.putObj b (.map q j))∧EN ok w ok (w.putObj b (.map q j)):=by
 refine⟨by simp[setObj,Sem.run,I,World.putObj],hm.ajG J rfl L pG fun O=>⟨b,q,j,z,X6 (GX.1 I).1,M.mono O⟩⟩
def mX {t kt vt:TypeId} {x y u:Operand} {k:Nat} {ek:K→Value} (ev:V→D) {m:List (K×V)} {key:K} {val:V} (ht:P.underlying t=some (.map kt vt)) (J:KeyTy P kt ek) (U:es[k]? =some (.map (m.map (Bv ek ev)))) (ho:o.op=.mapUpdate t x y u):
 BR P o [(x,.mp k),(y,.d (.lit (ek key))),(u,.d (ev val))] es .junk (es.set k (.map ((Ea m key val).map (Bv ek ev)))):=
 .eff fun C ok H a w hm Y=>by
  obtain⟨hd,Z,hok⟩:=GR hm.ent hm.hlen U;obtain⟨b,ms,clock,L,M,O⟩:=hok;have hx:=VH (Y (x,.mp k) Aw) Z;have hy:=(Y (y,.d (.lit (ek key))) Aw).lit;have hu:Dk ok w (ev val) (a.eval u):=by have :=Y (u,.d (ev val)) Aw;cases this with |d _ _ h=>exact h
  simp only at hx hy;obtain⟨kd,q,hs⟩:=J.same;have hks:ms.toList.map (·.key)=m.map (fun p=>ek p.1):=by rw[O.keys];simp[Bv,wo]
  have z:=J.check;rcases aDn (i:=0) hs key val m ms.toList hks with⟨q1,_,q3⟩|⟨j,e,p,q1,q2,q3,_,q5,q6⟩
  ·have hM:=O.push (k:=ek key) hu;obtain⟨r1,r2,r3⟩:=aO2 (P:=P) hm U Z L M hM;refine⟨undef,_,ok,H,.inr ⟨rfl,?_⟩,r3,.refl _,?_,.junk _⟩
   ·simp[execOp,ho,hx,hy,L,Instr.mapUpdate,underlying,ht,Rj M,z,Instr.findKey,q,q1,r1]
   rw[q3,KO];exact r2
  have hM:=O.modify (k:=ek key) hu j;obtain⟨r1,r2,r3⟩:=aO2 (P:=P) hm U Z L M hM
  have I:e.key=ek key:=by
   have h5:(m.map (Bv ek ev))[j]? =some (Bv ek ev p):=by rw[JD,q3];rfl
   rw[(O.ent j _ e h5 xF).1,J.eq _ _ q5];rfl
  have hst:∀w,(Instr.keyThatStays (ek key) (ek key)).run P w=.ok (ek key) w:=fun w=>by simp[Instr.keyThatStays,J.bits]
  have hms:ms[j]? =some e:=xF
  refine⟨undef,_,ok,H,.inr ⟨rfl,?_⟩,r3,.refl _,?_,.junk _⟩
  ·simp[execOp,ho,hx,hy,L,Instr.mapUpdate,underlying,ht,Rj M,z,Instr.findKey,q,q1,hms,I,hst,r1]
  rw[q6,zl];exact r2
def ajQ {t M O:TypeId} {x:Operand} {k:Nat} {es0:List (Value×D)} (ht:P.underlying t=some (.map M O)) (q:es[k]? =some (.map es0)) (U:o.op=.call { callee:=.builtin .clear,args:= #[x],argTypes:= #[t] }):
 BR P o [(x,.mp k)] es .junk (es.set k (.map [])):=
 .eff fun C ok H a w hm Y=>by
  obtain⟨hd,z,u⟩:=GR hm.ent hm.hlen q;obtain⟨b,ms,clock,I,J,h3⟩:=u;have L:=VH (Y (x,.mp k) Aw) z;simp only at L;have Z:KZ ok w [] #[] clock:=⟨rfl,fun i e m q=>xE,fun i j m n _ hm=>by simp at hm⟩
  obtain⟨r1,r2,r3⟩:=aO2 (P:=P) hm q z I J Z;refine⟨.tuple #[],_,ok,H,.inl ?_,r3,.refl _,r2,.junk _⟩;simp[execOp,U,resolve,invoke,builtin,Builtin.clear_,L,I,underlying,ht,Rj J,r1]
def ao5 {t z I:TypeId} {x:Operand} {k:Nat} {es0:List (Value×D)} {n:Nat} (hl:es0.length=n) (ht:P.underlying t=some (.map z I)) (J:es[k]? =some (.map es0)) (L:o.op=.call { callee:=.builtin .len,args:= #[x],argTypes:= #[t] }):
 BR P o [(x,.mp k)] es (.d (Ad n)) es:=
 .pure fun ok H a w j hlen M=>by
  obtain⟨hd,O,q⟩:=GR j hlen J;obtain⟨b,ms,clock,U,Y,Z⟩:=q;have u:=VH (M (x,.mp k) Aw) O;simp only at u;refine⟨goInt es0.length,?_,by rw[hl];exact .d _ _ (.lit _)⟩;simp[execOp,L,resolve,invoke,builtin,Builtin.len_,u,U,underlying,ht,Rj Y,Z.len]
end
def pR {ok:Nat→Prop} {w:World} {H:List BN} {xs ys:List Aa} {vs us:List Value} (h:F6 ok w H xs vs) (k:F6 ok w H ys us):F6 ok w H (xs++ys) (vs++us):=by
 refine⟨by rw[E9,E9,h.1,k.1],fun i hi=>?_⟩;by_cases j:i<xs.length
 ·have q:(xs++ys).getD i .junk=xs.getD i .junk:=by simp[List.getD,GZ j]
  have u:(vs++us).getD i undef=vs.getD i undef:=by simp[List.getD,GZ (by rw[h.1];exact j:i<vs.length)]
  rw[q,u];exact h.2 i j
 have z:i-xs.length<ys.length:=aOf
 have q:(xs++ys).getD i .junk=ys.getD (i-xs.length) .junk:=by simp[List.getD,Jf (WT j)]
 have u:(vs++us).getD i undef=us.getD (i-xs.length) undef:=by simp[List.getD,Jf (by rw[h.1];omega:vs.length≤i),h.1]
 rw[q,u];exact k.2 _ z
def Ce.aFt {C:EP} {ok:Nat→Prop} {H:List BN} {es:List Az} {w w':World} (hm:Ce C ok H es w) {v':Value} {size:Nat} {e:Az} (z:w.grownBy w' none) (I:∀g,D6 v'=some g→w.heap.size≤g∧g<w'.heap.size)
 (he:EN ok w ok w'→En ok w' (H++[⟨v',size⟩]) ⟨v',size⟩ e):Ce C ok (H++[⟨v',size⟩]) (es++[e]) w'∧EN ok w ok w':=by
 have g0:EN ok w ok w':=fun b I=>⟨I,z.block b (hm.kN b I) Aw⟩
 refine hm.change (fun _=>False) z.os z.tape z.output z.size (fun b I _=>z.block b I Aw) (fun _ h=>h.elim) (fun _ h=>h) (fun _ h=>.inl h) (Names.push _ _) Zp ?_;intro k e' h' M q;rcases X8 M with L|⟨L,h2⟩
 ·left;refine⟨L,?_,fun _ _ _ h=>h⟩;have O:k<H.length:=by rw[hm.hlen];exact(FI.1 L).1
  rwa [GZ O]at q
 subst h2;have O:k=H.length:=by rw[hm.hlen];exact L
 subst O;simp at q;subst q;refine .inr ⟨he g0,fun _ b U=>?_⟩;obtain⟨q1,q2⟩:=I b U;refine⟨fun u=>absurd (hm.kN _ u) AA,q2,.inl (Ed hm.fr.size q1),fun k' Y Z hne hk' hl j J=>?_⟩;rcases X8 hk' with u|⟨u,_⟩
 ·have hk2:k'<H.length:=by rw[hm.hlen];exact(FI.1 u).1
  rw[GZ hk2]at j;exact absurd (hm.blk k' Y Z _ u hl j J).2.1 AA
 rw[←hm.hlen]at u;exact hne u
section
variable {P : Program} {o : Oper} {es es' : List Az}
def BR.thaw {ns:List (Operand×Aa)} {k e s:Nat} {xs:List D} (h:BR P o ns es (.aY k) es') (J:es'[k]? =some (.arr e s xs)):BR P o ns es (.d (.sl xs)) (es'.set k .dead):=by
 intro C ok H a w Q hm L;refine Oper.wp_mono ?_ (h C ok H a w Q hm L);rintro a' w' ⟨v,ok',H',rfl,M,q,j,O⟩
 have u:Holds (EP.now w' ok' es' H') ok' H' ⟨[.aY k],es',H'.length⟩ { tmps:= #[v],defers:=[] } w':=⟨j.inner,rfl,.nil _ _ _,rfl,fun t ht=>by
  match t,ht with
  |0,_=>exact O⟩
 obtain⟨z,I⟩:=NG k J _ _ _ _ _ u;obtain⟨U,_,Y⟩:=j.outer I.mem;refine⟨v,z,H',rfl,M.trans U,q,Y,?_⟩;have :=I.slot 0 (by simp[Ak.thaw]);simpa[Ak.thaw,Aa.thaw]using this
def Dk.aFu {ok:Nat→Prop} {w:World} {xs:List D} {ad:Option Addr} {n cap j:Nat} (h:Dk ok w (.sl xs) (.slice ad n cap)) (I:xs.length≤j):Dk ok w (.sl xs) (.slice ad n j):=by
 cases h with
 |sl0 _ _=>exact .sl0 _ _
 |sl _ b off _ size z u hs J L q=>exact .sl xs b off j size I u hs J L q
def aXX {t e:TypeId} {agg:Bool} {size n cap m:Nat} {ad:Option Addr} {w:World} (ht:P.underlying t=some (.slice e)) (q:EI P e agg size) (j:m≤cap):
 (Instr.slice t (.slice ad n cap) none (some (.int .i64 m)) (some (.int .i64 m))).run P w=.ok (.slice (if m=0 then ad else ad.map (·.add 0)) m m) w:=by
 have u:(underlying t).run P w=.ok (.slice e) w:=ND
 have z:((m:Int)≤(cap:Int)):=Int.ofNat_le.2 j;simp[Instr.slice,u,Instr.sliceBounds,Instr.sliceBound,asIntOf,z,j,q.size]
def aVq {α:Type} {t e:TypeId} {agg:Bool} {size:Nat} {x y z:Operand} {h:Int} (enc:α→D) {xs r:List α} (hr:Hg xs 0 h=some r) (ht:P.underlying t=some (.slice e)) (hT:EI P e agg size) (hc:∀a,(enc a).cells.length=size)
 (ho:o.op=.slice t x none (some y) (some z)):BR P o [(x,.d (BM enc xs)),(y,.d (Ad h)),(z,.d (Ad h))] es (.clip (r.map enc)) es:=
 .pure fun ok H a w _ _ O=>by
  obtain⟨⟨_,h1,h2⟩,rfl⟩:=aar hr;have U:=O (x,.d (BM enc xs)) Aw;have M:=(O (y,.d (Ad h)) Aw).lit;have hz:=(O (z,.d (Ad h)) Aw).lit;simp only at U M hz;generalize hv:a.eval x=v at U;have I:Dk ok w (.sl (xs.map enc)) v:=by cases U with |d _ _ h=>exact h
  have J:∃ad cap,v=.slice ad (xs.map enc).length cap∧(xs.map enc).length≤cap:=by
   generalize hys:xs.map enc=ys at I;cases I with
   |sl0 ad cap=>exact⟨ad,cap,rfl,Ci _⟩
   |sl _ b off cap size j=>exact⟨_,cap,rfl,j⟩
  obtain⟨ad,cap,rfl,j⟩:=J
  have hlen:(List.map enc ((xs.drop 0).take (h.toNat-0))).length=h.toNat:=by
   rw[CB,F7,lK];omega
  have u:=aXX (P:=P) (n:=xs.length) (ad:=ad) (w:=w) ht hT (m:=h.toNat) (cap:=cap) (by rw[CB]at j;omega);have Y:((h.toNat:Nat):Int)=h:=AA
  rw[Y]at u;refine⟨.slice (if h.toNat=0 then ad else ad.map (·.add 0)) h.toNat h.toNat,?_,?_⟩
  ·rw[CB]at hv;simp only[execOp,ho,wP,IV,hv,M,hz,Instr.sliceAt];have hu:(underlying t).run P w=.ok (.slice e) w:=ND
   simp only[FD,vG,GI,hu,u,FP]
  have hD:Dk ok w (.sl (List.map enc ((xs.drop 0).take (h.toNat-0)))) (.slice (if h.toNat=0 then ad else ad.map (·.add 0)) (List.map enc ((xs.drop 0).take (h.toNat-0))).length (List.map enc ((xs.drop 0).take (h.toNat-0))).length):=by
   by_cases L:h.toNat=0
   ·have e0:List.map enc ((xs.drop 0).take (h.toNat-0))=[]:=Gh (by rw[hlen,L]);rw[e0];exact .sl0 _ _
   have q:=aTD (l:=0) (h:=h.toNat) I (size:=size) (fun y M=>by obtain⟨b,_,rfl⟩:=Dp.1 M;exact hc b) (Ci _) DW;have Z:cap≠0:=by rw[CB]at j;omega
   rw[CU Z]at q;rw[CU L,hlen];rw[←ZR,←XR]at q;simp only[zV,Nat.sub_zero]at q ⊢;exact q.aFu (by rw[CB,F7,lK];omega)
  have :=R.clip (H:=H) _ _ hD;rw[hlen]at this;exact this
def aT0 {t e e':TypeId} {agg:Bool} {size k s:Nat} {x y z:Operand} {xs:List D} {h:Int} (Z:h=(xs.length:Int)) (hk:es[k]? =some (.arr e' s xs)) (ht:P.underlying t=some (.slice e)) (hT:EI P e agg size)
 (ho:o.op=.slice t x none (some y) (some z)):BR P o [(x,.aY k),(y,.d (Ad h)),(z,.d (Ad h))] es (.xG k) es:=
 .pure fun ok H a w u hl L=>by
  obtain⟨hd,I,M⟩:=GR u hl hk;have O:=Nq (L (x,.aY k) Aw) I;have U:=(L (y,.d (Ad h)) Aw).lit;have Y:=(L (z,.d (Ad h)) Aw).lit;simp only at O U Y;obtain⟨_,_,Cb,⟨_,j⟩,_⟩:=M;obtain⟨v,BK⟩:=hd;simp only at j O;subst Z
  have key:∃ad cap,v=.slice ad xs.length cap∧xs.length≤cap∧ad.map (·.add 0)=ad:=by
   rcases j with⟨rfl,J⟩|⟨g,cap,_,rfl,_,_,J,_⟩
   ·exact⟨none,0,by rw[J],AA,rfl⟩
   exact⟨_,cap,rfl,J,by simp[Addr.add]⟩
  obtain⟨ad,cap,rfl,J,h2⟩:=key;have q:=aXX (P:=P) (n:=xs.length) (ad:=ad) (w:=w) ht hT (m:=xs.length) (cap:=cap) J;have hi:(if xs.length=0 then ad else ad.map (·.add 0))=ad:=by split<;>simp[h2]
  rw[hi]at q;refine⟨.slice ad xs.length xs.length,?_,.xG k ad _ cap BK I⟩;simp only[execOp,ho,wP,IV,O,U,Y,Instr.sliceAt];have hu:(underlying t).run P w=.ok (.slice e) w:=ND
  simp only[FD,vG,GI,hu,q,FP]
def ali {C:EP} {ok:Nat→Prop} {H:List BN} {w:World} (hm:Ce C ok H es w) {t ty e:TypeId} {size q k:Nat} {xs ys:List D} (hE:Gs P t e size q) (hk:es[k]? =some (.arr e size xs))
 {v x:Value} (hv:R ok w H (.xG k) v) {u:List Value} (L:VQ w x ys.length size u) (I:F6 ok w H (flat ys) u) (hys:∀y∈ys,y.cells.length=size) (hb:(xs.length+ys.length)*q≤140737488355328) (hn:xs.length+ys.length≤maxLen):
 ∃v' w' H',(Builtin.append_ #[t,t] ty #[v,x]).run P w=.ok v' w'∧EN ok w ok w'∧Names H H'∧Ce C ok H' (es.set k .dead++[.arr e size (xs++ys)]) w'∧R ok w' H' (.aY es.length) v':=by
 obtain⟨h,hh,hok⟩:=GR hm.ent hm.hlen hk;obtain⟨h1,h2,Cb,j,hrs⟩:=hok
 have key:lH w e size v xs.length Cb∧D6 v=D6 h.v:=by
  cases hv with
  |xG _ ad n cap s M=>
   rw[hh]at M;obtain rfl:=CS M;rcases j.2 with⟨O,q2⟩|⟨g,cap',cur,O,q2,q3,q4,q5,q6,q7⟩
   ·simp only[eL]at O;obtain⟨rfl,rfl,rfl⟩:=O;exact⟨⟨j.1,.inl ⟨rfl,q2⟩⟩,rfl⟩
   simp only[eL]at O;obtain⟨rfl,rfl,rfl⟩:=O;exact⟨⟨j.1,.inr ⟨g,xs.length,cur,rfl,q2,q3,Dn _,Ed q4 q5,Ed (JR _ q4) q6,q7⟩⟩,rfl⟩
 obtain⟨z,U⟩:=key;obtain⟨v',w',hr,J,Y,Z⟩:=aMF (P:=P) (ty:=ty) hE z L hb hn
 obtain⟨h3,h4⟩:=hm.turn (h':=⟨v',size⟩) (e:=.arr e size (xs++ys)) hk rfl hh Y.os Y.tape Y.output Y.size (fun c hc hne=>Y.block c hc (by rw[aJR z,U];exact fun e=>hne e.symm)) (fun g hg'=>⟨rV J hg',(Z g hg').imp (fun h=>U▸h) id⟩) (fun hgr=>by
  refine⟨rfl,fun y hy=>?_,Cb++u,SL,?_⟩
  ·rcases Hl.1 hy with h|h
   ·exact h2 y h
   exact hys y h
  have a1:=hrs.mono hgr (Names.push H [⟨v',size⟩]);have a2:=I.mono hgr (Names.push H [⟨v',size⟩]);rw[jG]
  exact pR a1 a2)
 refine⟨v',w',_,hr,h4,Names.push _ _,h3,?_⟩;have M:(H++[(⟨v',size⟩:BN)])[es.length]? =some ⟨v',size⟩:=Pm
 rcases J.2 with⟨rfl,_⟩|⟨g',c',_,rfl,_⟩
 ·exact .aY _ _ _ _ size M
 exact .aY _ _ _ _ size M
def aQE {α:Type} {s x:Operand} {t e:TypeId} {size j k:Nat} (enc:α→D) {l m r:List α} (h:Bo j l m=some r) (hE:Gs P t e size j) (Z:es[k]? =some (.arr e size (l.map enc))) (hc:∀a,(enc a).cells.length=size) (hb:0<j)
 (ho:o.op=.call { callee:=.builtin .append,args:= #[s,x],argTypes:= #[t,t] }):
 BR P o [(s,.xG k),(x,.d (BM enc m))] es (.aY es.length) (es.set k .dead++[.arr e size (r.map enc)]):=by
 obtain⟨rfl,L⟩:=aD8 h;refine .eff fun C ok H a w hm q=>?_;have M:=(Eh q).1;have O:=(Eh q).2;simp only at M O;have I:Dk ok w (.sl (m.map enc)) (a.eval x):=by cases O with |d _ _ h=>exact h
 have u:∀y∈m.map enc,y.cells.length=size:=fun y hy=>aJI
 obtain⟨U,z,J⟩:=gq H I u;obtain⟨v',w',H',hr,r1,r2,Y,r4⟩:=ali (ty:=o.type) hm hE Z M z J u Wu (by simpa using aMh hb L);rw[←KO]at Y;refine⟨v',w',ok,H',.inl ?_,r1,r2,Y,r4⟩;simp[execOp,ho,resolve,invoke,builtin,hr]
def acF {ok:Nat→Prop} {w:World} {H:List BN} {t ty e:TypeId} {size q:Nat} (hE:Gs P t e size q) {xs ys:List D} {v x:Value} (hv:R ok w H (.clip xs) v) (hxs:∀y∈xs,y.cells.length=size) {u:List Value} (I:VQ w x ys.length size u) (hpos:0<ys.length)
 (hb:(xs.length+ys.length)*q≤140737488355328) (hn:xs.length+ys.length≤maxLen):
 ∃j v' w',F6 ok w H (flat xs) j∧(Builtin.append_ #[t,t] ty #[v,x]).run P w=.ok v' w'∧w'.ownsRow w.heap.size e size v' (xs.length+ys.length) (j++u)∧w.grownBy w' none:=by
 obtain⟨i,z,hi,hz,hs,L,M⟩:=hE.info;cases hv with
 |clip _ ad hD=>
  obtain⟨j,ho,O⟩:=gq H hD hxs;rcases I.at_ with⟨U,c,rfl,J⟩|⟨c,rfl,h0⟩
  ·rcases ho.at_ with⟨ad2,c2,Y,Z⟩|⟨c2,Y,Z⟩
   ·simp only[eL]at Y;obtain⟨rfl,_,rfl⟩:=Y;obtain⟨v',w',r1,r2,r3⟩:=run_append_arg_grows (P:=P) w t ty e i z size q hE.und hi hz hs L M hE.pos ad2 xs.length xs.length j ho.len Z U ys.length c u I.len J AA hn hb;exact⟨j,v',w',O,r1,r2,r3⟩
   simp only[eL]at Y;obtain⟨rfl,_,_⟩:=Y;have hx:j=[]:=Gh (by rw[ho.len,Z];simp);subst hx;rw[Z]at hn hb ⊢;obtain⟨v',w',r1,r2,r3,_⟩:=run_append_own (P:=P) w w.heap.size t ty e i z size q hE.und hi hz hs L M hE.pos _ 0 [] (aAr w w.heap.size e size) U ys.length c u I.len J I.one hn hb (Dn _);exact⟨[],v',w',O,r1,r2,r3⟩
  omega
def aoN {ok:Nat→Prop} {w':World} {H:List BN} {base e size:Nat} {v':Value} {xs ys:List D} {j q:List Value} (h:w'.ownsRow base e size v' (xs.length+ys.length) (j++q)) (I:F6 ok w' H (flat xs) j) (J:F6 ok w' H (flat ys) q) (u:∀y∈xs,y.cells.length=size) (z:∀y∈ys,y.cells.length=size):
 En ok w' H ⟨v',size⟩ (.arr e size (xs++ys)):=by
 refine⟨rfl,fun y L=>?_,j++q,?_,?_⟩
 ·rcases Hl.1 L with h|h
  ·exact u y h
  exact z y h
 ·have :=lH.of h;simpa using this
 rw[jG];exact pR I J
def abW {w':World} {base e size n:Nat} {v':Value} {Cb:List Value} (h:w'.ownsRow base e size v' n Cb):∀g,D6 v'=some g→base≤g∧g<w'.heap.size:=by
 intro g j;rcases h.2 with⟨rfl,_⟩|⟨z,_,_,rfl,q,u,_⟩
 ·simp[D6]at j
 simp[D6]at j;subst j;exact⟨q,(GX.1 u).1⟩
def aQD {α:Type} {s x:Operand} {t e:TypeId} {size j:Nat} (enc:α→D) {l m r:List α} (h:Bo j l m=some r) (hE:Gs P t e size j) (hc:∀a,(enc a).cells.length=size) (J:0<j)
 (L:o.op=.call { callee:=.builtin .append,args:= #[s,x],argTypes:= #[t,t] }):
 BR P o [(s,.clip (l.map enc)),(x,.d (BM enc m))] es (.d (BM enc r)) es:=by
 obtain⟨rfl,h2⟩:=aD8 h;refine .eff fun C ok H a w hm M=>?_;have h1:=(Eh M).1;have h3:=(Eh M).2;simp only at h1 h3;have h3':Dk ok w (.sl (m.map enc)) (a.eval x):=by cases h3 with |d _ _ h=>exact h
 have O:∀y∈l.map enc,y.cells.length=size:=fun y hy=>aJI
 have U:∀y∈m.map enc,y.cells.length=size:=fun y hy=>aJI
 obtain⟨Y,q,hrs⟩:=gq H h3' U;by_cases Z:m=[]
 ·subst Z;obtain⟨i,z,hi,hz,hs,hby,hzs⟩:=hE.info;have I:Y=[]:=Gh (by rw[q.len];simp);subst I;generalize hv:a.eval s=v at h1;generalize hu:a.eval x=u at q;cases h1 with
  |clip _ ad hD=>
   refine⟨_,w,ok,H,.inl ?_,.refl _ _,.refl _,hm,.d _ _ (by rw[Oc];exact hD)⟩;have hL:∀w:World,((underlying t).run P w=.ok (.slice e) w):=fun w=>aKd
   rcases q.at_ with⟨ad',c,rfl,_⟩|⟨c,rfl,_⟩
   ·cases ad with
    |none=>simp[execOp,L,resolve,invoke,builtin,hv,hu,Builtin.append_,hL,sizeOf,typeInfo,hi,Builtin.lenOf,Builtin.firstCells,loadCells,loadCellsFrom]
    |some ad=>simp[execOp,L,resolve,invoke,builtin,hv,hu,Builtin.append_,hL,sizeOf,typeInfo,hi,Builtin.lenOf,Builtin.firstCells,loadCells,loadCellsFrom,storeCells]
   cases ad with
   |none=>simp[execOp,L,resolve,invoke,builtin,hv,hu,Builtin.append_,hL,sizeOf,typeInfo,hi,Builtin.lenOf,Builtin.firstCells]
   |some ad=>simp[execOp,L,resolve,invoke,builtin,hv,hu,Builtin.append_,hL,sizeOf,typeInfo,hi,Builtin.lenOf,Builtin.firstCells,storeCells]
 obtain⟨olds,v',w',r0,r1,r2,r3⟩:=acF (P:=P) (ty:=o.type) hE h1 O q (by simpa using lY.2 Z) yD (by simpa using aMh J h2);have hblk:=abW r2;obtain⟨m1,g1⟩:=hm.change (ok':=fun b=>ok b∨D6 v'=some b) (H':=H) (es':=es) (w':=w') (fun _=>False) r3.os r3.tape r3.output r3.size (fun b J _=>r3.block b J Aw) (fun _ h=>h.elim) (fun _ h=>.inl h) (fun b h=>h.imp id fun h=>hblk b h) (.refl _) hm.hlen (fun k e h he hh=>.inl ⟨he,hh,fun _ _ _ h=>h⟩);have g0:EN ok w ok w':=fun b J=>⟨J,(g1 b J).2⟩
 have hE':=aoN r2 (r0.mono g0 (.refl _)) (hrs.mono g0 (.refl _)) O U;refine⟨v',w',_,H,.inl (by simp[execOp,L,resolve,invoke,builtin,r1]),g1,.refl _,m1,.d _ _ ?_⟩;have :=dz hE' (ok':=fun b=>ok b∨D6 v'=some b) (fun _ h=>.inl h) (fun _ h=>.inr h)
 rwa [←KO]at this
end
def D.plain:D→Bool
 | .lit _=>true
 | .agg cs=>cs.all fun c=>match c with | .lit _=>true|_=>false
 |_=>false
def afD {ok ok':Nat→Prop} {w w':World} {H H':List BN} {xs:List D} {vs:List Value} (hp:∀x∈xs,x.plain=true) (h:F6 ok w H (flat xs) vs):F6 ok' w' H' (flat xs) vs:=by
 refine⟨h.1,fun i hi=>⟨(h.2 i hi).1,?_⟩⟩;have I:=(h.2 i hi).2;have hm:(flat xs).getD i .junk∈flat xs:=NZ
 generalize(flat xs).getD i .junk=y at I hm;unfold flat at hm;simp only[Rl,Dp]at hm;obtain⟨x,J,c,z,rfl⟩:=hm;have j:=hp x J
 have q:∃u,c=.lit u:=by
  cases x with
  |lit u=>simp[D.cells]at z;exact⟨u,z⟩
  |agg cs=>
   simp only[D.cells]at z;simp only[D.plain,Di]at j;have :=j c z;cases c with
   |lit u=>exact⟨u,rfl⟩
   |_=>simp at this
  |_=>cases j
 obtain⟨u,rfl⟩:=q;rw[I.lit];exact .d _ _ (.lit u)
def aWs {P:Program} {o:Oper} {es:List Az} {f:FuncId} {ops:Array Operand} {dU fC:List Aa} {e s:Nat} {xs:List D} (hr:Aq P f fC [] (.aY 0) [.arr e s xs]) (hp:∀x∈xs,x.plain=true) (ha:Zl es dU fC) (hl:ops.toList.length=dU.length)
 {C:EP} {ok:Nat→Prop} {H:List BN} {a:Act} {w:World} (hm:Ce C ok H es w) (hn:∀n∈FM ops.toList dU,R ok w H n.2 (a.eval n.1)):
 Calls P f (ops.toList.map a.eval).toArray w fun e' w'=>∃v,e'=.returned v∧w.grownBy w' none∧(∀g,D6 v=some g→w.heap.size≤g∧g<w'.heap.size)∧Value.isSlice v=true∧∀M H2,En M w' H2 ⟨v,s⟩ (.arr e s xs):=by
 let I:Nat→Prop:=fun b=>b<w.heap.size
 have Z:Ce ⟨w,I,[],[]⟩ I [] [] w:=
  ⟨.refl _ _,fun _ h=>h,fun _ h=>.inl h,fun _ h=>h,.refl _,rfl,fun k e h O _=>by simp at O,fun k e h b O=>by simp at O,fun k k' e e' h h' b O=>by simp at O⟩
 refine(hr I [] [] w _ Z (by simp[hl,aPc ha]) (fun i hi=>?_)).mono ?_
 ·obtain⟨op,x,ho',U,q⟩:=aYE hl ha i hi;have L:=hn _ U
  have e1:(ops.toList.map a.eval).toArray.getD i undef=a.eval op:=by
   obtain⟨h1,h2⟩:=FI.1 ho';have h3:i<ops.size:=by simpa using h1
   have h4:ops[i]=op:=yD
   simp[Array.getD,h3,h4]
  rw[e1];simp only at L;generalize fC.getD i .junk=y at q;generalize a.eval op=u at L;cases x with
  |d x=>
   obtain rfl:=q;cases L with |d _ _ h=>exact .d _ _ (h.mono (fun b z=>⟨hm.kN b z,rfl⟩))
  |aY k=>
   obtain⟨e',s,xs,hk,rfl⟩:=q;obtain⟨h,hh,J⟩:=GR hm.ent hm.hlen hk;obtain rfl:=Nq L hh;exact .d _ _ (dz J (fun b z=>hm.kN b z) (fun b z=>(hm.blk k _ h b hk rfl hh z).2.1))
  |_=>exact q.elim
 rintro e' w' ⟨v,ok',H',rfl,j,L⟩;have hg:w.grownBy w' none:=⟨j.fr.os,j.fr.tape,j.fr.output,j.fr.size,fun b z _=>j.fr.block b z Aw⟩
 have hl':H'.length=1:=j.hlen
 match H',hl' with
 | [hd],_=>
   obtain rfl:=Nq L (h:=hd) rfl;have J:=j.ent 0 _ hd rfl rfl;have z:=fun b z=>j.blk 0 _ hd b rfl rfl rfl z;obtain⟨q1,q2,Cb,q3,q4⟩:=J;obtain⟨v,BK⟩:=hd;simp only at q1 z q3;subst q1;refine⟨v,rfl,hg,fun g hg'=>?_,?_,fun M H2=>⟨rfl,q2,Cb,q3,afD hp q4⟩⟩
   ·obtain⟨_,r2,Y⟩:=z g hg';rcases Y with Y|Y
    ·exact⟨Y,r2⟩
    simp at Y
   rcases q3.2 with⟨rfl,_⟩|⟨g',c',_,rfl,_⟩<;>rfl
def J8 {P:Program} {o:Oper} {es:List Az} {f:FuncId} {ops:Array Operand} {ats:Array TypeId} {dU fC:List Aa} {e s:Nat} {xs:List D} (q:Aq P f fC [] (.aY 0) [.arr e s xs]) (hp:∀x∈xs,x.plain=true) (u:BA P f=true) (ha:Zl es dU fC) (hl:ops.toList.length=dU.length)
 (z:o.op=.call { callee:=.value (.func f),args:=ops,argTypes:=ats }):BR P o (FM ops.toList dU) es (.aY es.length) (es++[.arr e s xs]):=by
 intro C ok H a w Q hm I;unfold Oper.wp;rw[vU z,TR u,ZU];have J:ops.map a.eval=(ops.toList.map a.eval).toArray:=aCu
 rw[J];refine(aWs (o:=o) q hp ha hl hm I).mono ?_;rintro e' w' ⟨v,rfl,L,M,j,hE⟩;obtain⟨O,U⟩:=hm.aFt (v':=v) (size:=s) (e:=.arr e s xs) L M (fun _=>hE _ _);refine⟨v,ok,_,rfl,U,Names.push _ _,O,?_⟩;have Y:(H++[(⟨v,s⟩:BN)])[es.length]? =some ⟨v,s⟩:=Pm
 cases v with
 |slice ad n c=>exact .aY _ _ _ _ s Y
 |_=>cases j
def aVP {P:Program} {o:Oper} {es:List Az} {f:FuncId} {ops:Array Operand} {ats:Array TypeId} {dU fC:List Aa} {e s:Nat} {xs:List D} (u:Aq P f fC [] (.aY 0) [.arr e s xs]) (hp:∀x∈xs,x.plain=true) (z:BA P f=true) (ha:Zl es dU fC) (hl:ops.toList.length=dU.length)
 (I:o.op=.call { callee:=.value (.func f),args:=ops,argTypes:=ats }):BR P o (FM ops.toList dU) es (.d (.sl xs)) es:=by
 intro C ok H a w Q hm J;unfold Oper.wp;rw[vU I,TR z,ZU];have L:ops.map a.eval=(ops.toList.map a.eval).toArray:=aCu
 rw[L];refine(aWs (o:=o) u hp ha hl hm J).mono ?_;rintro e' w' ⟨v,rfl,j,M,O,hE⟩;obtain⟨U,Y⟩:=hm.change (ok':=fun b=>ok b∨D6 v=some b) (H':=H) (es':=es) (w':=w') (fun _=>False) j.os j.tape j.output j.size (fun b q _=>j.block b q Aw) (fun _ h=>h.elim) (fun _ h=>.inl h) (fun b h=>h.imp id fun h=>M b h) (.refl _) hm.hlen (fun k e h Z hh=>.inl ⟨Z,hh,fun _ _ _ h=>h⟩);exact⟨v,_,H,rfl,Y,.refl _,U,.d _ _ (dz (hE ok H) (fun _ h=>.inl h) (fun _ h=>.inr h))⟩
def aw9 {F:Fence} {n:Nat} {P:Program} {Q:Exit→Act→World→Prop} {a:Act} {w:World} {c:Code} (h:c.wpIn F n P (Exit.noGoto Q) a w):(Code.scope c).wpIn F n P Q a w:=by
 intro b k cs J L M;have j:(lone (b.atR a (.code (.scope c)::k)) cs w).fenced P F:=fenced_calm L M rfl;have q:step P (lone (b.atR a (.code (.scope c)::k)) cs w)=.next (lone (b.atR a (.code c::.inScope c::k)) cs w):=step_lone_go aaz;obtain⟨e,z,I,u,harr⟩:=h b (.inScope c::k) cs J L M;cases e with
 |normal=>exact⟨.normal,z,I,u,.head j q (StepsIn.trans harr (.one (fenced_calm L M rfl) (step_lone_go aaz)))⟩
 |exit id=>
  have Y:exitTo id (.inScope c::k)=exitTo id k:=by simp[exitTo]
  exact⟨.exit id,z,I,u,fun k' O=>.head j q (harr.1 k' (by rw[Y];exact O)),fun U O=>let⟨Z,h1,h2⟩:=harr.2 U (by rw[Y];exact O);⟨Z,h1,.head j q h2⟩⟩
 |goto l=>exact u.elim
 |ret=>exact⟨_,z,I,u,.of_steps (.one j q) harr⟩
 |panic ch=>exact⟨_,z,I,u,.of_steps (.one j q) harr⟩
 |outgrown=>exact⟨_,z,I,u,.of_steps (.one j q) harr⟩
def aof (Q:Exit→Ak→Prop):Exit→Ak→Prop
 | .goto _,_=>False
 |e,σ=>Q e σ
def AV.scope {P:Program} {σ:Ak} {Q:Exit→Ak→Prop} {c:Code} (h:AV P c σ (aof Q)):AV P (.scope c) σ Q:=⟨fun ro q C ok H a w u=>
 aw9 (Ur (h.run ro (q.imp id fun h=>h) C ok H a w u) (by
  rintro e a' w' ⟨ok',H',σ',z,j⟩;cases e with
  |goto l=>exact j.elim
  |_=>exact⟨ok',H',σ',z,j⟩))⟩
def aV5 (P:Program) (f:FuncId) (args:List Aa) (u:Value):Prop:=
 ∀(ok:Nat→Prop) (X:List Nat) (H:List BN) (w:World) (j:Array Value),Ce ⟨w,ok,X,H⟩ ok H [] w→j.size=args.length→(∀i,i<args.length→R ok w H (args.getD i .junk) (j.getD i undef))→
  Calls P f j w fun e w'=>∃ok' H',e=.panicked [{ v:=u,recovered:=false }]∧Ce ⟨w,ok,X,H⟩ ok' H' [] w'
def Q9 {Rr:Type} (P:Program) (f:FuncId) (args:List Aa) (r:Except Value Rr) (j:Rr→Aa):Prop:=(∀x,r=.ok x→Aq P f args [] (j x) [])∧∀u,r=.error u→aV5 P f args u
def ahL {Rr:Type} (P:Program) (fn:Func) (r:Except Value Rr) (j:Rr→Aa) (e:Exit) (σ:Ak):Prop:=
 (∃x,r=.ok x∧aaN P fn (j x) [] e σ)∨∃u,r=.error u∧e=uj u∧σ.base=0
def aXr {P:Program} {fn:Func} {Rr:Ending→World→Prop} {C:EP} {ch:List PanicEntry} (u:∀b,C.ok0 b→b<C.w0.heap.size) {H:List BN} {σ:Ak}
 (z:∀ok a w,Holds C ok H σ a w→Rr (.panicked ch) w) {tmps:Array Value}:∀(Ds:List Nat) {ok:Nat→Prop} {a:Act} {w:World},Holds C ok H σ a w→(∀d∈Ds,ok d∧C.w0.heap.size≤d∧w.heap[d]? =some (.deferred (some [])))→Ds.Nodup→
  LeavesInM (Iz none) 0 P fn tmps Rr (Ds.map fun D=>{ target:=.collected D,args:= #[] }) (.panicking ch) w
 | [],ok,a,w,h,_,_=>z ok a w h
 |D::Ds,ok,a,w,h,hd,I=>by
  obtain⟨ok',h',j⟩:=h.take u (fun d q=>hd d (F5 _ q)) (hd D (EO ..)) I;have J:=aXr (P:=P) (fn:=fn) (tmps:=tmps) u z Ds h' j (Kv.1 I).2;exact⟨Aw,.inl ⟨D,_,rfl,run_takeDeferred (hd D (EO ..)).2.2,J⟩⟩
def Ce.none {C:EP} {ok:Nat→Prop} {H:List BN} {es:List Az} {w:World} (hm:Ce C ok H es w) (q:C.H0=[]):Ce C ok [] [] w:=
 ⟨hm.fr,hm.yV,hm.yX,hm.kN,by rw[q];exact .refl _,rfl,fun k e h j=>yF,fun k e h b j=>yF,fun k k' e e' h h' b j=>yF⟩
def Q9.aO {Rr:Type} {P:Program} {f:FuncId} {fn:Func} {c:Code} {args:List Aa} {r:Except Value Rr} {z:Rr→Aa} (Z:P.funcs[f]? =some fn) (hb:fn.body=some c)
 (h:AV P c (.enter args fn.ntmps []) (ahL P fn r z)):Q9 P f args r z:=by
 refine⟨fun x hx=>Aq.aO Z hb (h.mono fun e σ hq=>?_),fun u hu=>?_⟩
 ·rcases hq with⟨x',q,J⟩|⟨u,q,_⟩
  ·rw[hx]at q;cases q;exact J
  rw[hx]at q;cases q
 intro ok X H w j hm hs ha;have hH:H=[]:=Gh hm.hlen;refine(aBG (ro:=none) (n:=0)).1 (aPD Z hb trivial (Ur (h.run none (.inl rfl) ⟨w,ok,X,H⟩ ok H _ w ?_) ?_) rfl)
 ·refine⟨hm,by simp[Ak.enter,hs],.nil _ _ _,hm.hlen,fun t ht=>?_⟩;simp only[Ak.enter];by_cases e:t<args.length
  ·have L:(args++List.replicate (fn.ntmps-args.length) Aa.junk).getD t .junk=args.getD t .junk:=aPW
   have e2:(j++Array.replicate (fn.ntmps-j.size) undef).getD t undef=j.getD t undef:=by
    simp[Ib,YE (show t<j.size by omega)]
   rw[L,e2];exact ha t e
  have L:(args++List.replicate (fn.ntmps-args.length) Aa.junk).getD t .junk=.junk:=by
   simp only[List.getD,Jf (WT e),aK7];split<;>rfl
  rw[L];exact .junk _
 rintro e a' w' ⟨ok',H',σ',q,J⟩;rcases J with⟨x,I,_⟩|⟨u',I,rfl,_⟩
 ·rw[hu]at I;cases I
 rw[hu]at I;cases I;obtain⟨Ds,M,O,U⟩:=q.defers;show LeavesInM (Iz none) 0 P fn a'.tmps _ a'.defers (.panicking _) w';rw[M];exact aXr (P:=P) (C:=⟨w,ok,X,H⟩) hm.kN (fun Y a2 w2 h4=>⟨Y,[],rfl,h4.mem.none hH⟩) Ds q U O
section
variable {P : Program} {ops : Array Oper} {o : Oper} {rest l : List Oper} {σ : Ak} {K : Exit → Ak → Prop}
def Ch.panic {x:Operand} {t:TypeId} {u:Value} (q:o.op=.panic x) (z:σ.get x=.d (.lit (.iface t u))) (I:Ja ops σ o.guard=some true) (h:K (uj (.iface t u)) σ):Ch P ops (o::rest) σ K:=by
 refine⟨fun ro J Q C ok H a w j L=>?_⟩;show wpListIn (Iz ro) 0 P ops Q (o::(rest++J)) a w;unfold wpListIn;rw[CP (PS j (MR I))];have M:=(z▸j.get x).lit;unfold Oper.wpIn;rw[iE _ _ _ (by rw[q];intro c h;cases h)];have O:(execOp a.eval o).run P w=.halt (.panic (.iface t u)) w:=by simp[execOp,q,M,Instr.panic,goPanic]
 rw[O];exact⟨fun _ _=>trivial,L.2 _ _ _ _ _ _ h j⟩
end
section
variable {P : Program} {ops : Array Oper}
def AV.aFv {id:Nat} {σ σ':Ak} {Q:Exit→Ak→Prop} {rs:List Aa} {ess:List (List Az)} {bs:List Bool} (N:Nat) (hNs:N+1=ops.size) (hm:P.follows .mixedOrders=true) (hcalm:(VP ops&&WI ops&&WZ ops σ.slots.length&&Vs ops)=true) (hbl:bs.length=N) (L:UY ops (bs++[true])=true)
 (h:Et P ops (ops.toList.take N) σ rs ess bs σ') (hL:∀(ro:Option Nat) (C:EP) (ok:Nat→Prop) (H:List BN) (a:Act) (w:World),Holds C ok H σ' a w→wpOpIn (Iz ro) 0 P ops (fun e a' w'=>∃ok' H' σ',Holds C ok' H' σ' a' w'∧Q e σ') N (fun a' w'=>∃ok' H' σ',Holds C ok' H' σ' a' w'∧Q .normal σ') a w):AV P (.region id ops true) σ Q:=by
 refine⟨fun ro _ C ok H a w hh=>?_⟩;simp only[CZ]at hcalm;obtain⟨⟨⟨he,hd⟩,hs⟩,hc⟩:=hcalm;have aeS:=aVk he;have hinj:=aTr hd;have hcalm:=aap hc
 have XH:∀(i:Nat) (o:Oper) (d:Tmp),ops[i]? =some o→o.dst=some d→d<σ.slots.length:=by
  intro i o d h1 h2;unfold WZ at hs;rw[Di]at hs;simpa using hs d (aX6 h1 h2)
 let r:Nat→Aa:=fun i=>rs.getD i .junk
 let ev:Nat→List Az:=fun i=>ess.getD i []
 let bar:Nat→Bool:=fun i=>(bs++[true]).getD i false
 have hbN:bar N=true:=by simp[bar,List.getD,←hbl]
 obtain⟨YI,hend⟩:=h.ayr N σ r ev bar 0 (fun k hk=>by
  simp only[F7]at hk
  rw[LM AA];simp) DW rfl (fun k y hy=>by simp[r,List.getD,hy]) (fun k y hy=>by simp[ev,List.getD,hy]) (fun k y hy=>by have :=(FI.1 hy).1;simp only[bar,List.getD,Ij,GZ this,hy];rfl)
 let U:Nat→Ak:=FX ops σ r ev
 have hU:∀i,i<ops.size→(U (i+1)).ents=ev i:=by
  intro i hi;have M:ops[i]? =some ops[i]:=Tt
  show(FX ops σ r ev (i+1)).ents=_;simp only[FX,M];rfl
 have hconst:∀n lo,(∀b,lo≤b→b<lo+n→bar b=false)→lo+n≤N→(U (lo+n)).ents=(U lo).ents:=by
  intro n
  induction n with
  |zero=>intro lo _ _;rfl
  |succ n ih=>
   intro lo z hle;have h1:=ih lo (fun b h1 h2=>z b h1 AA) AA;have hi:lo+n<ops.size:=AA
   have M:ops[lo+n]? =some ops[lo+n]:=Tt
   have h2:=(YI (lo+n) _ AA AA M).2 (z (lo+n) AA AA);rw[←Rz,hU _ hi,h2];exact h1
 have Z:∀lo hi,lo≤hi→hi≤N→(∀b,lo≤b→b<hi→bar b=false)→(U hi).ents=(U lo).ents:=by
  intro lo hi h1 h2 h3;obtain⟨n,rfl⟩:=Nat.exists_eq_add_of_le h1;exact hconst n lo h3 h2
 refine wpIn_region_any hm ?_
 let I:Array Bool→Act→World→Prop:=fun l a w=>l.size=ops.size∧l.getD N false=false∧∃ok H m,m≤N∧(∀b,bar b=true→b<ops.size→(l.getD b false=true↔b<m))∧Ce C ok H (U m).ents w∧a.tmps.size=σ.slots.length∧Marks C ok w a.defers∧
  (∀t,t<σ.slots.length→(∀(j:Nat) (o:Oper),ops[j]? =some o→o.dst=some t→l.getD j false=false)→R ok w H (σ.slots.getD t .junk) (a.tmps.getD t undef))∧
  (∀(i:Nat) (o:Oper) (d:Tmp),ops[i]? =some o→o.dst=some d→l.getD i false=true→R ok w H (r i) (a.tmps.getD d undef))∧
  (∀(j:Nat) (o:Oper),ops[j]? =some o→l.getD j false=true→∀i,IC o i=true→l.getD i false=true)
 let I2:Array Bool→Act→World→Prop:=fun l a w=>I l a w∨(l.size=ops.size∧(Region.ready .any ops l=[]∧∃ok' H' σ',Holds C ok' H' σ' a w∧Q .normal σ'))
 refine aNo I2 (fun l a w h=>h.elim (fun h=>h.1) (fun h=>h.1)) ?_ ?_ ops.size _ _ _ ?_ ?_
 ·rintro l a w (⟨h1,hlN,ok,H,m,ab8,adI,hmem0,hsz,hdf,h5,h6,h7⟩|⟨h1,h2,_⟩) i hi
  rotate_left
  ·rw[h2]at hi;simp at hi
  unfold Region.ready at hi;rw[FN]at hi;obtain⟨hi1,hi2⟩:=hi;have hi':i<ops.size:=by simpa using hi1
  have M:ops[i]? =some ops[i]:=by simp[hi']
  simp only[CZ]at hi2;have aeT:=hi2.2;rw[M]at aeT;simp only[IV,MF]at aeT;have arQ:=fun e he=>(Sr.1 aeT) e he
  have O:∀j,IC ops[i] j=true→l.getD j false=true∧j<i:=by
   intro j u;unfold IC at u;rw[Gl]at u;obtain⟨e,hee,u⟩:=u;simp only[CZ,GN]at u;have :=arQ e (by simpa using hee);simp only[u.2,EW,NH]at this;rw[u.1]at this;exact⟨this,u.1▸aeS i _ M e hee u.2⟩
  have Y:l.getD i false=false:=by
   have h8:=hi2.1;have hil:i<l.size:=AA
   simp[Array.getD,hil]at h8 ⊢;exact h8
  have J:∀(j:Nat) (o:Oper),ops[j]? =some o→l.getD j false=true→∀m,IC o m=true→l.getD m false=true:=fun j o u hl m hm=>h7 j o u hl m hm
  have hmem:Ce C ok H (U i).ents w:=by
   have hE:(U i).ents=(U m).ents:=by
    by_cases him:i≤m
    ·refine(Z i m him ab8 (fun b h2 h3=>?_)).symm;rw[←Ol];intro z;have hbl:=(adI b z AA).2 h3;by_cases e:b=i
     ·subst e;rw[Y]at hbl;cases hbl
     have hob:ops[b]? =some (ops[b]' AA):=by simp[show b<ops.size by omega]
     have :=nH L (show b<ops.size by omega) z (D:=fun j=>l.getD j false=true) J (fun o M m hm=>J b o M hbl m hm) i AA;rw[Y]at this;cases this
    refine Z m i AA AA (fun b h2 h3=>?_);rw[←Ol];intro z;have :=aSt L (show b<ops.size by omega) z (D:=fun j=>l.getD j false=true) J i h3 _ M (fun m hm=>(O m hm).1);exact absurd ((adI b z AA).1 this) AA
   rw[hE];exact hmem0
  by_cases hiN:i=N
  ·subst hiN;have aCm:∀j,j<i→l.getD j false=true:=fun j u=>nH L hi' hbN (D:=fun j=>l.getD j false=true) J (fun o ho' m hm=>aQM) j u
   have hH:Holds C ok H σ' a w:=by
    subst hend;refine⟨hmem,by rw[Xx];exact hsz,hdf,by rw[qA];exact hh.base,fun t ht=>?_⟩;rw[Xx]at ht;by_cases hw:∃(j:Nat) (o:Oper),ops[j]? =some o∧o.dst=some t
    ·obtain⟨j,o,u,q⟩:=hw;have hjn:j<ops.size:=(GX.1 u).1;by_cases hji:j<i
     ·rw[bn hinj u q ht i hji];exact h6 j o t u q (aCm j hji)
     have hje:j=i:=AA
     subst hje;rw[XK j (fun j' o' hj' ho' hd'=>aKT)];exact h5 t ht (fun j' o' ho' hd'=>by have :=hinj j j' o o' t u ho' q hd';subst this;exact hlN)
    have hw':∀(j:Nat) (o:Oper),ops[j]? =some o→o.dst≠some t:=fun j o h1 h2=>hw ⟨j,o,h1,h2⟩;rw[XK i (fun j o _ u=>hw' j o u)];exact h5 t ht (fun j o u q=>absurd q (hw' j o u))
   refine wpOpIn_mono (fun a' w' hx=>.inr ⟨by simp[h1],?_,hx⟩) (hL ro C ok H a w hH);unfold Region.ready;rw[uU];intro j u;have hjn:j<ops.size:=TS
   have hdn:(l.setIfInBounds i true).getD j true=true:=by
    by_cases hji:j=i
    ·subst hji;simp[Array.getD,h1,hi']
    have :=aCm j AA;simp only[Ib,OZ (aj hji)];have hjl:j<l.size:=AA
    simp[Array.getD,hjl]at this;simp[hjl,this]
   rw[hdn];simp
  have hiN:i<N:=AA
  have hread:∀t,t∈tmpsOf ops[i]→R ok w H ((FX ops σ r ev i).slots.getD t .junk) (a.tmps.getD t undef):=by
   intro t ht;by_cases hw:∃(j:Nat) (o:Oper),ops[j]? =some o∧o.dst=some t
   ·obtain⟨j,o,u,q⟩:=hw;rcases(hcalm i _ M).1 j o t u q ht with hce|hce
    ·obtain⟨hdj,hji⟩:=O j hce;rw[bn hinj u q (XH j o t u q) i hji];exact h6 j o t u q hdj
    have hij:i<j:=by
     unfold IC at hce;rw[Gl]at hce;obtain⟨e,hee,hce⟩:=hce;simp only[CZ,GN]at hce;exact hce.1▸aeS j _ u e hee hce.2
    rw[XK i (fun j' o' hj' ho' hd'=>aKT)];refine h5 t (XH j o t u q) (fun j' o' ho' hd'=>?_);have hjj:=hinj j j' o o' t u ho' q hd';subst hjj;rw[←Ol];intro hd;rw[h7 j o u hd i hce]at Y;cases Y
   have hw':∀(j:Nat) (o:Oper),ops[j]? =some o→o.dst≠some t:=fun j o h1 h2=>hw ⟨j,o,h1,h2⟩;rw[XK i (fun j o _ u=>hw' j o u)];by_cases htn:t<σ.slots.length
   ·exact h5 t htn (fun j o u q=>absurd q (hw' j o u))
   rw[uG htn];exact .junk _
  have ahf:∀j d v,IC ops[i] j=true→(ops[j]?).bind (·.dst)=some d→(FX ops σ r ev i).slots.getD d .junk=.d (.lit v)→yielded ops a.tmps j=(match v with | .bool b=>some b|_=>none):=by
   intro j d v u q z;cases hoj:ops[j]? with
   |none=>rw[hoj]at q;simp at q
   |some oj=>
    rw[hoj]at q;simp only[AP]at q;obtain⟨hdj,hji⟩:=O j u;have hdn:=XH j oj d hoj q;rw[bn hinj hoj q hdn i hji]at z;have hv:=(z▸h6 j oj d hoj q hdj).bool
    have hs:a.tmps[d]? =some v:=by
     have :d<a.tmps.size:=by rw[hsz];exact hdn
     simp[Array.getD,this]at hv;simp[this,hv]
    unfold yielded;rw[hoj];simp only[AP,q,hs];cases v<;>rfl
  have hput:∀(x:Aa) (v:Value) (ok':Nat→Prop) (H':List BN) (w':World),x=r i→EN ok w ok' w'→Names H H'→Ce C ok' H' (ev i) w'→R ok' w' H' x v→I2 (l.setIfInBounds i true) (a.put ops[i].dst v) w':=by
   intro x v ok' H' w' hx hgr hnm hmem' hR;subst hx
   have hother:∀(d t:Nat),ops[i].dst=some d→d≠t→(a.put ops[i].dst v).tmps.getD t undef=a.tmps.getD t undef:=by
    intro d t hd hne;rw[hd];exact aQK hne
   obtain⟨m',awO,aom,awP⟩:∃m',m'≤N∧(∀b,bar b=true→b<ops.size→((l.setIfInBounds i true).getD b false=true↔b<m'))∧Ce C ok' H' (U m').ents w':=by
    have hget:∀b,b≠i→(l.setIfInBounds i true).getD b false=l.getD b false:=fun b z=>by
     simp only[Ib,OZ (aj z)]
    have awQ:(l.setIfInBounds i true).getD i false=true:=by simp[Array.getD,h1,hi']
    cases hbi:bar i with
    |false=>
     refine⟨m,ab8,fun b z hbs=>?_,?_⟩
     ·have hne:b≠i:=fun e=>by subst e;rw[hbi]at z;cases z
      rw[hget b hne];exact adI b z hbs
     have h2:=(YI i _ AA hiN M).2 hbi;rw[h2]at hmem'
     have hE:(U i).ents=(U m).ents:=by
      by_cases him:i≤m
      ·refine(Z i m him ab8 (fun b h2 h3=>?_)).symm;rw[←Ol];intro z;have hbl:=(adI b z AA).2 h3;by_cases e:b=i
       ·subst e;rw[Y]at hbl;cases hbl
       have :=nH L (show b<ops.size by omega) z (D:=fun j=>l.getD j false=true) J (fun o M m hm=>J b o M hbl m hm) i AA;rw[Y]at this;cases this
      refine Z m i AA AA (fun b h2 h3=>?_);rw[←Ol];intro z;have :=aSt L (show b<ops.size by omega) z (D:=fun j=>l.getD j false=true) J i h3 _ M (fun m hm=>(O m hm).1);exact absurd ((adI b z AA).1 this) AA
     rw[←hE];exact hmem'
    |true=>
     refine⟨i+1,AA,fun b z hbs=>?_,by rw[hU i hi'];exact hmem'⟩;by_cases e:b=i
     ·subst e;rw[awQ];simp
     rw[hget b e];constructor
     ·intro hbl;apply Yv;intro hn;have :=nH L hbs z (D:=fun j=>l.getD j false=true) J (fun o M m hm=>J b o M hbl m hm) i AA;rw[Y]at this;cases this
     intro hlt;exact nH L hi' hbi (D:=fun j=>l.getD j false=true) J (fun o ho' m hm=>aQM) b AA
   refine .inl ⟨by simp[h1],by simpa only[Ib,OZ (show i≠N by omega)]using hlN,ok',H',m',awO,aom,awP,by rw[size_put];exact hsz,by rw[aTG];exact hdf.mono hgr,?_,?_,?_⟩
   ·intro t ht hno
    have hne:ops[i].dst≠some t:=by
     intro e;have :=hno i _ M e;simp[Array.getD,h1,hi']at this
    have hold:(a.put ops[i].dst v).tmps.getD t undef=a.tmps.getD t undef:=by
     cases hdi:ops[i].dst with
     |none=>rfl
     |some d=>exact hdi▸hother d t hdi (fun e=>hne (by rw[hdi,e]))
    rw[hold];refine(h5 t ht (fun j o u q=>?_)).mono hgr hnm;have hij:i≠j:=fun e=>by subst e;rw[M]at u;obtain rfl:=CS u;exact hne q
    have :=hno j o u q;simpa only[Ib,OZ hij]using this
   ·intro k o d hk hkd hl;by_cases hik:i=k
    ·subst hik;rw[M]at hk;obtain rfl:=CS hk;rw[hkd,aaS (by rw[hsz];exact XH i _ d M hkd)];exact hR
    have hl':l.getD k false=true:=by
     simp only[Ib,OZ hik]at hl ⊢;exact hl
    have :=(h6 k o d hk hkd hl').mono hgr hnm;cases hdst:ops[i].dst with
    |none=>exact this
    |some d'=>
     have hne:d'≠d:=fun e=>hik (hinj i k _ _ d' M hk hdst (e▸hkd));rw[←hdst,hother d' d hdst hne];exact this
   intro j o u hl k hk;have hil:i<l.size:=AA
   by_cases hik:i=k
   ·subst hik;simp[Array.getD,hil]
   have hkk:l.getD k false=true:=by
    by_cases hij:i=j
    ·subst hij;rw[M]at u;obtain rfl:=CS u;exact(O k hk).1
    have hl':l.getD j false=true:=by
     simp only[Ib,OZ hij]at hl ⊢;exact hl
    exact h7 j o u hl' k hk
   simp only[Ib,OZ hik]at hkk ⊢;exact hkk
  unfold wpOpIn;rw[M];show if Region.wanted ops[i] (yielded ops a.tmps)=true then _ else _
  rcases(YI i ops[i] AA hiN M).1 with⟨ns,hop,amC,hnt,hg⟩|⟨hx,hev,hg⟩
  ·have hwant:Region.wanted ops[i] (yielded ops a.tmps)=true:=by
    unfold Region.wanted;rcases hg with hg|⟨j,want,d,b,hg,u,z,rfl⟩
    ·rw[hg]
    rw[hg];show(yielded ops a.tmps j==some b)=true;rw[ahf j d _ ((hcalm i _ M).2 j b hg) u z];simp
   rw[CP hwant];refine RJ ?_ (hop.inR ro C ok H a w _ hmem (fun n hn=>?_))
   ·rintro a' w' ⟨v,ok',H',rfl,hgr,hnn,hm',hx⟩;exact hput _ v ok' H' w' rfl hgr hnn hm' hx
   have hnv:=RD amC n hn;obtain⟨x,y⟩:=n;simp only at hnv ⊢;subst hnv;cases x with
   |tmp t=>
    refine hread t ?_;rw[Di]at hnt
    have :t∈NM ns:=by
     unfold NM;rw[Sl];exact⟨_,hn,rfl⟩
    simpa using hnt t this
   |const v=>exact .d _ _ (.lit v)
   |global g=>exact .d _ _ (.lit _)
   |func f=>exact .d _ _ (.fn (.func f) [] [] #[] #[] rfl rfl (fun i hi=>Ot) (fun i hi=>Ot))
  have hwant:Region.wanted ops[i] (yielded ops a.tmps)=false:=by
   unfold Region.wanted;obtain⟨j,want,d,v,hg,u,z,hv⟩:=hg;rw[hg];show(yielded ops a.tmps j==some want)=false;rw[ahf j d _ ((hcalm i _ M).2 j want hg) u z];rcases hv with rfl|rfl
   ·simp
   rfl
  rw[CU (by rw[hwant];simp)];exact⟨fun _ _=>trivial,hput _ _ ok H w hx.symm (.refl _ _) (.refl _) (by rw[hev];exact hmem) (.d _ _ (.lit _))⟩
 ·rintro l a w (⟨h1,hlN,ok,H,m,ab8,adI,hmem,hsz,hdf,h5,h6,h7⟩|⟨h1,_,h2⟩) hr
  rotate_left
  ·exact h2
  have hall:∀n i,i<n→i<ops.size→l.getD i false=true:=by
   intro n
   induction n with
   |zero=>intro i hi;omega
   |succ n ih=>
    intro i hi hi2;by_cases hn:i<n
    ·exact ih i hn hi2
    have hin:i=n:=AA
    subst hin;rw[←Bool.not_eq_false];intro hf;have M:ops[i]? =some ops[i]:=by simp[hi2]
    have hmem:i∈Region.ready .any ops l:=by
     unfold Region.ready;rw[FN];refine⟨by simpa using hi2,?_⟩;have hil:i<l.size:=AA
     have hf':l.getD i true=false:=aJm
     rw[hf',M];simp only[Il,GL,IV,MF];rw[Sr];intro e he;cases hbe:Region.binds .any e with
     |false=>simp
     |true=>
      have hlt:=aeS i _ M e aF2 hbe;rw[ih e.on AA AA];simp
    rw[hr]at hmem;simp at hmem
  have :=hall (N+1) N AA AA;rw[hlN]at this;cases this
 ·unfold toCome;simp
 refine .inl ⟨Aw,by simp[Array.getD],ok,H,0,Ci _,fun b z _=>by simp[Array.getD],?_,hh.size,hh.defers.mono (fun b z=>⟨z,rfl⟩),fun t ht _=>?_,fun i o d _ _ hl=>?_,fun j o _ hl=>?_⟩
 ·exact⟨⟨hh.mem.fr.os,hh.mem.fr.tape,hh.mem.fr.output,hh.mem.fr.size,hh.mem.fr.block⟩,hh.mem.yV,hh.mem.yX,hh.mem.kN,hh.mem.names,hh.mem.hlen,fun k e h h1 h2=>(hh.mem.ent k e h h1 h2).drew,hh.mem.blk,hh.mem.D8⟩
 ·exact R.mono (w:=w) (ok:=ok) (w':={ w with drawn:=w.drawn+1 }) (fun b z=>⟨z,rfl⟩) (.refl _) (hh.slot t ht)
 ·simp[Array.getD]at hl
 simp[Array.getD]at hl
def AV.aCn {id:Nat} {σ σ':Ak} {Q:Exit→Ak→Prop} {rs:List Aa} {ess:List (List Az)} {bs:List Bool} (N:Nat) (h:Et P ops (ops.toList.take N) σ rs ess bs σ') (hl:Ch P ops (ops.toList.drop N) σ' Q) (z:N+1=ops.size:=by kernel_rfl) (hm:P.follows .mixedOrders=true:=by kernel_rfl) (j:(VP ops&&WI ops&&WZ ops σ.slots.length&&Vs ops)=true:=by kernel_rfl) (I:bs.length=N:=by kernel_rfl) (q:UY ops (bs++[true])=true:=by kernel_rfl):AV P (.region id ops true) σ Q:=by
 refine AV.aFv N z hm j I q h fun ro C ok H a w O=>?_;have L:N<ops.size:=AA
 have hd:ops.toList.drop N=[ops[N]]:=by
  rw[Jq Wu];simp[←z]
 rw[hd]at hl;have M:=hl.run ro [] (fun e a' w'=>∃ok' H' σ',Holds C ok' H' σ' a' w'∧Q e σ') C ok H a w O ⟨fun σ' ok' H' a' w' J u=>⟨ok',H',σ',u,J⟩,fun v σ' ok' H' a' w' J u=>⟨ok',H',σ',u,J⟩⟩;unfold wpOpIn;have U:ops[N]? =some ops[N]:=by simp[L]
 rw[U];simp only[Yo,I5,wpListIn]at M;exact M
end
section
variable {P : Program} {o : Oper} {es : List Az}
def aFo {t:TypeId} (e s:Nat) (I:(P.info? t).bind (·.zero)=some (.slice none 0 0)) (J:o.op=.alloc t):BR P o [] es (.ptr (es.length+1) 0) (es++[.arr e s [],.box [.aY es.length]]):=
 .eff fun C ok H a w hm Z=>by
  obtain⟨z,h2⟩:=aNd hm e s;have j:(H++[(⟨.slice none 0 0,s⟩:BN)]).length=(es++[Az.arr e s []]).length:=z.hlen;have L:(H++[(⟨.slice none 0 0,s⟩:BN)])[es.length]? =some ⟨.slice none 0 0,s⟩:=Pm
  have M:En ok (w.alloc (.cells #[.slice none 0 0] t)) ((H++[⟨.slice none 0 0,s⟩])++[⟨.pointer (some ⟨w.heap.size,0,none⟩),0⟩]) ⟨.pointer (some ⟨w.heap.size,0,none⟩),0⟩ (.box [.aY es.length]):=by
   refine⟨w.heap.size, #[.slice none 0 0],t,rfl,Vw w _,rfl,fun i hi=>?_⟩
   match i,hi with
   |0,_=>exact⟨rfl,.aY _ none 0 0 s (by rw[GZ Zp];exact L)⟩
  obtain⟨O,U⟩:=z.push (.cells #[.slice none 0 0] t) ⟨.pointer (some ⟨w.heap.size,0,none⟩),0⟩ _ (aEP w) M;have q:Ce C ok ((H++[⟨.slice none 0 0,s⟩])++[⟨.pointer (some ⟨w.heap.size,0,none⟩),0⟩]) (es++[.arr e s [],.box [.aY es.length]]) (w.alloc (.cells #[.slice none 0 0] t)):=by simpa[HY]using O
  refine⟨.pointer (some ⟨w.heap.size,0,none⟩),_,ok,_,.inl ?_,U,(Names.push _ _).trans (Names.push _ _),q,.ptr _ _ w.heap.size 0 ?_⟩
  ·obtain⟨i,hi,u⟩:=eS.1 I;have Y:Value.cells (.slice none 0 0)= #[.slice none 0 0]:=rfl;simp[execOp,J,Instr.alloc,zeroValue,typeInfo,hi,u,newVar,newRow,Y]
  rw[Jf (by rw[j];simp),j];simp
def aFF {α:Type} {x y:Operand} {t e:TypeId} {k n:Nat} {kd:IntKind} {i:Int} (enc:α→D) {l:List α} {a:α} (h:Ag l i=some a) (hl:l.length=n) (ht:P.underlying t=some (.array n e)) (L:EI P e false 1) (M:es[k]? =some (.box (BG (MP enc l)))) (O:o.op=.indexAddr t x y):
 BR P o [(x,.ptr k 0),(y,.d (.lit (.int kd i)))] es (.ptr k i.toNat) es:=
 .pure fun ok H U w j u I=>by
  obtain⟨Y,Z⟩:=JW h;obtain⟨hd,hh,_⟩:=GR j u M;have z:=(Eh I).1;have J:=(Eh I).2.lit;simp only at z J;have hlt:=(FI.1 Z).1;have hu:(underlying t).run P w=.ok (.array n e) w:=ND
  generalize hv:U.eval x=v at z;cases z with
  |ptr _ _ b s hH=>
   have hb:0≤i∧i<n:=⟨Y,AA⟩
   refine⟨.pointer (some ⟨b,i.toNat,none⟩),?_,.ptr k _ b s hH⟩;have q:(⟨b,0,none⟩:Addr).add i.toNat=⟨b,i.toNat,none⟩:=by rw[addr_add,Ij]
   simp[execOp,O,hv,J,Instr.indexAt,asIntOf,hu,Instr.sureAddr,hb,L.size w,q]
def akA {α:Type} {i:Int} {enc:α→D} {l:List α} {a:α} (h:Ag l i=some a):(BG (MP enc l))[i.toNat]? =some (.d (enc a)):=by
 have j:=(JW h).2;simp[BG,MP,D.cells,j]
def zT {α:Type} {x:Operand} {t:TypeId} {k:Nat} {i:Int} (enc:α→D) {l:List α} {a:α} (h:Ag l i=some a) (j:es[k]? =some (.box (BG (MP enc l)))) (q:EI P t false 1) (u:o.op=.load t x):BR P o [(x,.ptr k i.toNat)] es (.d (enc a)) es:=aW6 j (akA h) q u
def aSV {t:TypeId} {x:Operand} {y:D} (j:match P.underlying t with |some (.interface _)=>false|some _=>true|none=>false) (q:o.op=.makeInterface t x):BR P o [(x,.d y)] es (.d (.O5 t y)) es:=
 .pure fun ok H a w _ _ u=>by
  have z:Dk ok w y (a.eval x):=by have :=u (x,.d y) Aw;cases this with |d _ _ h=>exact h
  refine⟨.iface t (a.eval x),?_,.d _ _ (.O5 t y _ z)⟩;cases ht:P.underlying t with
  |none=>rw[ht]at j;cases j
  |some d=>
   rw[ht]at j;have I:(underlying t).run P w=.ok d w:=ND
   cases d<;>first|(cases j;done)|simp[execOp,q,Instr.makeInterface,I]
def aTQ {t:TypeId} {x:Operand} (us:List Value) (j:match P.underlying t with |some (.interface _)=>false|some _=>true|none=>false) (u:o.op=.makeInterface t x):BR P o [(x,.d (.agg (us.map .lit)))] es (.d (.lit (.iface t (.agg us.toArray)))) es:=
 .pure fun ok H a w _ _ z=>by
  have q:=(z (x,.d (.agg (us.map .lit))) Aw).ahk;simp only at q;refine⟨.iface t (.agg us.toArray),?_,.d _ _ (.lit _)⟩;cases ht:P.underlying t with
  |none=>rw[ht]at j;cases j
  |some d=>
   rw[ht]at j;have I:(underlying t).run P w=.ok d w:=ND
   cases d<;>first|(cases j;done)|simp[execOp,u,Instr.makeInterface,I,q]
def vN (P:Program) (t:TypeId) (j:String) (f:FuncId):Bool:=
 match P.info? t with
 |some i=>(match i.methods.find? (·.name==j)with
  |some m=>m.path.toList.isEmpty&&(match m.func with |some (g,p)=>decide (g=f)&& !p|none=>false)
  |none=>false)&&(match P.underlying t with |some (.pointer _)=>false|some _=>true|none=>false)
 |none=>false
def ah7 {t:TypeId} {j:String} {f:FuncId} (h:vN P t j f=true) (n:Nat) (v:Value) (w:World):(method (n+1) t v j).run P w=.ok (f,v) w:=by
 unfold vN at h;split at h
 ·rename_i i hi;rw[CZ]at h;obtain⟨q,u⟩:=h;split at q
  ·rename_i m hm;rw[CZ]at q;obtain⟨I,z⟩:=q;split at z
   ·rename_i g p J;simp only[CZ,GN,Ls]at z;obtain⟨rfl,rfl⟩:=z;have hp:m.path.toList=[]:=List.isEmpty_iff.1 I;cases ht:P.underlying t with
    |none=>rw[ht]at u;cases u
    |some d=>
     rw[ht]at u;have L:∀w,(underlying t).run P w=.ok d w:=fun w=>ND
     cases d<;>first|(cases u;done)|simp[method,typeInfo,hi,hm,hp,follow,J,receiverAt,L,Place.get]
   cases z
  cases q
 cases h
def aVA {f:FuncId} {j:Operand} {I:String} {ops:Array Operand} {ats:Array TypeId} {t:TypeId} (x:D) (q:List D) {z:Aa} (hr:Aq P f ((x::q).map .d) [] z []) (hf:BA P f=true) (J:vN P t I f=true) (hl:ops.toList.length=q.length) (O:z.up [] es.length=z)
 (ho:o.op=.call { callee:=.invoke j I,args:=ops,argTypes:=ats }):BR P o ((j,.d (.O5 t x))::FM ops.toList (q.map .d)) es z es:=by
 intro C ok H a w Q hm hn;have Z:=hn (j,.d (.O5 t x)) Aw;simp only at Z;have L:=qF (xs:=ops.toList) (vs:=q.map .d) MC (fun n hn'=>hn n (F5 _ hn'));generalize hv:a.eval j=v at Z;cases Z with
 |d _ _ h=>
  cases h with
  |O5 _ _ u h1=>
   unfold Oper.wp
   have he:(execOp a.eval o).run P w=.ok (.enter f (#[u]++ops.map a.eval)) w:=by
    have h2:=TR hf (#[u]++ops.map a.eval) w;have M:=ah7 J (P.types.size+99) u w;have h4:(#[Value.iface t u]++ops.map a.eval)[0]? =some (.iface t u):=by rw[YE Aw];rfl
    have h5:(#[Value.iface t u]++ops.map a.eval).extract 1 (#[Value.iface t u]++ops.map a.eval).size=ops.map a.eval:=by
     apply aJr;rw[Array.toList_extract];simp only[Array.size_append,Array.size_map,List.extract_eq_take_drop,Array.toList_append,jR,NQ];simp;exact Po Aw
    simp only[execOp,ho,resolve,hv,FD,GI,FP,invoke,h4,h5,callMethod];have h6:(program).run P w=.ok P w:=rfl;simp only[h6,FP];have h7:P.types.size+Made.depth=P.types.size+99+1:=rfl;rw[h7,M];exact h2
   rw[he,ZU];have U:(ops.map a.eval).size=q.length:=MC
   refine(aXh hm hr _ (by simp at U;simp[U];omega) (fun i hi=>?_) O).mono ?_
   ·cases i with
    |zero=>
     have e0:(#[u]++ops.map a.eval).getD 0 undef=u:=by simp[Ib,YE]
     rw[e0];exact h1
    |succ i=>
     have Y:i<q.length:=G6
     have M:=L i Vz;have e1:(q.map Aa.d).getD i .junk=.d (q.getD i Dh):=by simp[List.getD,Y]
     have hi2:i<ops.size:=aVY
     have e2:(#[u]++ops.map a.eval).getD (i+1) undef=(ops.toList.map a.eval).getD i undef:=by
      simp only[Ib,List.getD];rw[aPC Aw];simp[hi2]
     rw[e2];rw[e1]at M;have e3:(x::q).getD (i+1) Dh=q.getD i Dh:=Aw
     rw[e3];cases M with |d _ _ h=>exact h
   rintro e w' ⟨v,ok',H',rfl,M,h4,h5,h6⟩;exact⟨v,ok',H',rfl,M,h4,h5,h6⟩
end
section
variable {P : Program} {ops : Array Oper} {o : Oper} {rest l : List Oper} {σ : Ak} {K : Exit → Ak → Prop}
def Ch.DI {f:FuncId} {dU:List Aa} {u:Value} (hr:aV5 P f dU u) (hf:BA P f=true) (h:K (uj u) σ) (J:UJ σ o=some (f,dU):=by kernel_rfl) (hd:dU.all Aa.AO=true:=by kernel_rfl) (hg:Ja ops σ o.guard=some true:=by kernel_rfl):Ch P ops (o::rest) σ K:=by
 refine⟨fun ro l2 Q C ok H a w j hk=>?_⟩;show wpListIn (Iz ro) 0 P ops Q (o::(rest++l2)) a w;unfold wpListIn;rw[CP (PS j (MR hg))];unfold UJ at J;split at J
 ·rename_i c O;split at J
  ·rename_i f' I;cases J;obtain⟨callee,args,ats⟩:=c;simp only at I;subst I;have z:(execOp a.eval o).run P w=.ok (.enter f (args.map a.eval)) w:=by rw[vU O,TR hf]
   unfold Oper.wpIn;rw[iE _ _ _ (by rw[O];intro c h;cases h),z]
   have M:Ce ⟨w,ok,[],[]⟩ ok [] [] w:=
    ⟨.refl _ _,fun _ h=>h,fun _ h=>.inl h,j.mem.kN,.refl _,rfl,fun k e h z=>xw,fun k e h b z=>xw,fun k k' e e' h h' b z=>xw⟩
   have key:Calls P f (args.map a.eval) w fun e w'=>e=.panicked [{ v:=u,recovered:=false }]∧∃ok',Holds C ok' H σ a w':=by
    refine(hr ok [] [] w _ M Aw (fun i hi=>?_)).mono ?_
    ·have L:i<args.size:=G6
     have e1:(args.toList.map σ.get).getD i .junk=σ.get args[i]:=by simp[List.getD,L]
     have e2:(args.map a.eval).getD i undef=a.eval args[i]:=by simp[Array.getD,L]
     have U:Aa.AO (σ.get args[i])=true:=by
      rw[Di]at hd;exact hd _ (Dp.2 ⟨args[i],Aw,rfl⟩)
     have Y:=j.get args[i];rw[e1,e2];generalize σ.get args[i]=y at U Y;cases y with
     |d y=>cases Y with |d _ _ h=>exact .d _ _ h
     |_=>cases U
    rintro e w' ⟨ok',H',rfl,q⟩;obtain⟨h1,Z⟩:=j.mem.change (ok':=ok) (H':=H) (es':=σ.ents) (w':=w') (fun _=>False) q.fr.os q.fr.tape q.fr.output q.fr.size (fun b hb _=>q.fr.block b hb Aw) (fun _ h=>h.elim) (fun _ h=>h) (fun _ h=>.inl h) (.refl _) j.mem.hlen (fun k e h z j=>.inl ⟨z,j,fun _ _ _ h=>h⟩);exact⟨rfl,ok,h1,j.size,j.defers.mono Z,j.base,fun t ht=>(j.slot t ht).mono Z (.refl _)⟩
   refine⟨fun _ _=>trivial,fun h=>Ie,aBG.2 (key.mono ?_)⟩;rintro e w' ⟨rfl,ok',h5⟩;exact hk.2 _ _ _ _ _ _ h h5
  cases J
 cases J
end
def LJ {α β:Type} (r:Except Value α) (f:α→Option (Except Value β)):Option (Except Value β):=
 match r with
 | .ok a=>f a
 | .error u=>some (.error u)
def akc (p:Addr) (w:World):
 CallsD Tryz.prog 146 #[.pointer (some p)] .returning w fun e j w'=>e=.returned (.tuple #[])∧j=.returning∧w'=w:=by
 refine aCv Tryz.func146 rfl fun q cs u=>?_;apply Pq;apply QA;simp[wpOpsS,go_sem,recoverD,u,Tryz.ntmps146,Exit.thenS];apply Pq;apply QA;simp[wpOpsS,go_sem,Exit.thenS];refine ku (t:=false) lZ ?_;simp only[Qh,Jl];refine wpS_of_wp (wp_skip ?_);cases q
 simp_all [bodyPostS,results,Tryz.results146]
def agC (b:Nat) (x:Value) (n:Int) (w:World) (L:w.heap[b]? =some (.cells #[x] 40 (0,0))):
 CallsD Tryz.prog 146 #[.pointer (some ⟨b,0,none⟩)] (.panicking [{ v:=.iface 165 (.agg #[.int .i64 n]),recovered:=false }]) w fun e M w'=>
  e=.returned (.tuple #[])∧M=.panicking [{ v:=.iface 165 (.agg #[.int .i64 n]),recovered:=true }]∧w.grownBy w' (some b)∧w'.heap[b]? =some (.cells #[.int .i64 n] 40 (0,0)):=by
 have q:∀(O:TypeId) (w:World),(Instr.typeAssert (.iface 165 (.agg #[.int .i64 n])) O 165 true).run Tryz.prog w=.ok (.tuple #[.agg #[.int .i64 n],.bool true]) w:=fun _ _=>A8
 have U:∀w:World,(Instr.alloc 165 true (.tuple #[])).run Tryz.prog w=.ok (.pointer (some ⟨w.heap.size,0,none⟩)) (w.alloc (.cells #[.int .i64 0] 165)):=fun w=>by
  simp[Instr.alloc,go_sem]
 have hst:∀w:World,(Instr.storeAt 165 (.pointer (some ⟨w.heap.size,0,none⟩)) (.agg #[.int .i64 n])).run Tryz.prog (w.alloc (.cells #[.int .i64 0] 165))=.ok () (w.alloc (.cells #[.int .i64 n] 165)):=fun w=>by
  simp[Instr.storeAt,go_sem]
 refine aCv Tryz.func146 rfl fun c₀ cs Y=>?_;apply Pq;apply QA;simp[wpOpsS,go_sem,recoverD,Y,Tryz.ntmps146,Exit.thenS];apply Pq;apply QA;simp[wpOpsS,go_sem,Exit.thenS];refine ku (t:=true) lZ ?_;simp only[JV];apply Pq;apply QA;simp[wpOpsS,execOp,q,U,hst,go_sem,Exit.thenS];apply Pq;apply Pq;apply QA;simp[wpOpsS,go_sem,Exit.thenS];refine ku (t:=false) lZ ?_;simp only[Qh,Jl];refine wpS_of_wp (wp_skip ?_);simp only[Exit.thenS];have u:b<w.heap.size:=(GX.1 L).1;have j:(w.alloc (.cells #[.int .i64 n] 165)).heap[b]? =some (.cells #[x] 40 (0,0)):=(KE _ _ _ u).trans L;have Z:(w.alloc (.cells #[.int .i64 n] 165)).cell? ⟨b,0,none⟩=some x:=aCK
 have z:(w.alloc (.cells #[.int .i64 n] 165)).frozen? ⟨b,0,none⟩=false:=by simp[World.frozen?,j]
 apply QA;simp[wpOpsS,go_sem,Exit.thenS,Z,z,bodyPostS,results,Tryz.results146]
 have key:(w.alloc (.cells #[.int .i64 n] 165)).setCell ⟨b,0,none⟩ (.int .i64 n)=(w.alloc (.cells #[.int .i64 n] 165)).putObj b (.cells #[.int .i64 n] 40 (0,0)):=by
  simp only[World.setCell,World.putObj];congr 1;apply oC;intro i;rw[NY,aHL];by_cases e:b=i
  ·subst e;rw[CP rfl,CP rfl,j,CP (GX.1 j).1];rfl
  rw[CU e,CU e]
 rw[key];have I:b<(w.alloc (.cells #[.int .i64 n] 165)).heap.size:=(GX.1 j).1;refine⟨⟨rfl,rfl,rfl,Aw,fun i hi J=>?_⟩,X6 I⟩;rw[Xr (fun e=>J (by rw[e]))];exact KE _ _ _ hi
def TG {T:Type}:Except Value T→Option Int
 | .ok _=>some 0
 | .error (.iface t (.agg cs))=>bif t==165 then(match cs.toList with | [.int .i64 n]=>some n|_=>none)else none
 | .error _=>none
def aWR (b:Nat) (n:Int) (w:World) (j:w.heap[b]? =some (.cells #[.int .i64 n] 40 (0,0))) (tmps:Array Value) (ht:tmps.getD 2 undef=.pointer (some ⟨b,0,none⟩)):(results Tryz.f81 tmps).run Tryz.prog w=.ok (.int .i64 n) w:=by
 have q:w.cell? ⟨b,0,none⟩=some (.int .i64 n):=aCK
 have e:results Tryz.f81 tmps=(do let v ←loadVar 40 (←asAddr (tmps.getD 2 undef));pure v):=by simp[results,Tryz.results81]
 rw[e,ht];simp[go_sem,q]
def amI {g:FuncId} {us:Array Value} {w:World} {n:Int} (he:∀(vs:Array Value) (w:World),(callFunc g vs).run Tryz.prog w=.ok (.enter g vs) w)
 (I:Calls Tryz.prog g us (w.alloc (.cells #[.int .i64 0] 40 (0,0))) fun e u=>(w.alloc (.cells #[.int .i64 0] 40 (0,0))).grownBy u none∧((∃v,e=.returned v∧n=0)∨e=.panicked [{ v:=.iface 165 (.agg #[.int .i64 n]),recovered:=false }])):
 Calls Tryz.prog 81 #[.func (.func g) #[] us] w fun e w'=>e=.returned (.int .i64 n)∧w.grownBy w' none:=by
 have Y:∀(fn:Fn) (first cap:Array Value) (w:World),(Instr.makeFunc fn first cap).run Tryz.prog w=.ok (.func fn first cap) w:=fun _ _ _ _=>rfl;have q:w.grownBy (w.alloc (.cells #[.int .i64 0] 40 (0,0))) none:=⟨rfl,rfl,rfl,Aw,fun i hi _=>KE _ _ _ hi⟩
 go_enter_defers Tryz.func81,Tryz.ntmps81
 apply wp_seq;apply Zr;refine .inl ?_;simp[Oper.wp,go_sem,wpList,Exit.then];apply wp_seq;apply Zr;refine .inl ?_;simp[Oper.wp,go_sem,Y,wpList,Exit.then];refine .inl ?_;apply wp_seq;apply Zr;refine .inl ?_;simp[Oper.wp,go_sem,he,wpList,Exit.then];refine .inl (I.mono ?_);rintro e u ⟨L,h⟩;have M:u.heap[w.heap.size]? =some (.cells #[.int .i64 0] 40 (0,0)):=(L.block w.heap.size Aw Aw).trans (jg _ _);have O:w.heap.size<u.heap.size:=(GX.1 M).1;have j:w.grownBy u none:=⟨L.os.trans q.os,L.tape.trans q.tape,L.output.trans q.output,Ed q.size L.size,fun i hi U=>(L.block i DW U).trans (q.block i hi U)⟩
 have z:∀(Z:World) (m:Int),u.grownBy Z (some w.heap.size)→w.grownBy Z none:=fun Z m J=>⟨J.os.trans j.os,J.tape.trans j.tape,J.output.trans j.output,Ed j.size J.size,fun i hi U=>(J.block i (by have :=j.size;omega) DW).trans (j.block i hi U)⟩
 rcases h with⟨v,rfl,rfl⟩|rfl
 ·have hc:u.cell? ⟨w.heap.size,0,none⟩=some (.int .i64 0):=by rw[World.cell?,M];rfl
  have hfz:u.frozen? ⟨w.heap.size,0,none⟩=false:=by simp[World.frozen?,M]
  apply wp_seq;apply Zr;refine .inl ?_;simp[Oper.wp,go_sem,hc,hfz,wpList,Exit.then];apply wp_ret
  have key:u.setCell ⟨w.heap.size,0,none⟩ (.int .i64 0)=u.putObj w.heap.size (.cells #[.int .i64 0] 40 (0,0)):=by
   simp only[World.setCell,World.putObj];congr 1;apply oC;intro i;rw[NY,aHL];by_cases e:w.heap.size=i
   ·subst e;rw[CP rfl,CP rfl,M,CP O];rfl
   rw[CU e,CU e]
  rw[key];refine leaves_cons (f:=146) (args:= #[.pointer (some ⟨w.heap.size,0,none⟩)]) Aw aDT ?_;refine(akc ⟨w.heap.size,0,none⟩ _).mono ?_;rintro e u' w'' ⟨rfl,rfl,rfl⟩;refine⟨.int .i64 0,aWR w.heap.size 0 _ (X6 O) _ rfl,rfl,z _ 0 ⟨rfl,rfl,rfl,Aw,fun i hi hne=>Xr (fun e=>hne (by rw[e]))⟩⟩
 refine leaves_cons (f:=146) (args:= #[.pointer (some ⟨w.heap.size,0,none⟩)]) Aw aDT ?_;refine(agC w.heap.size (.int .i64 0) n u M).mono ?_;rintro e u' w'' ⟨rfl,rfl,J,h4⟩;exact⟨.int .i64 n,aWR w.heap.size n _ h4 _ rfl,rfl,z _ n J⟩
def aVF {T:Type} {res:T→Aa} (g:FuncId) (j:List D) (r:Except Value T) (hr:Q9 Tryz.prog g (j.map .d) r res) (M:BA Tryz.prog g=true) (n:Int) (z:TG r=some n):
 BI 81 [.d (.fn (.func g) [] j)] [] (.d (Ad n)) []:=by
 intro ok X H w J hm hs ha;obtain rfl:H=[]:=Gh hm.hlen;have h0:=ha 0 Aw
 obtain⟨fv,rfl⟩:∃fv,J= #[fv]:=by
  have h1:J.size=1:=hs;exact⟨J[0],by apply ZK (by simp[h1]);intro i h1 h2;simp at h2;subst h2;rfl⟩
 have h0:R ok w [] (.d (.fn (.func g) [] j)) fv:=h0;cases h0 with
 |d _ _ h0=>
 cases h0 with
 |fn _ _ _ vs us hl1 hl2 h1 h2=>
 obtain rfl:vs= #[]:=W9 (by simpa using hl1);obtain⟨I,Y⟩:∃I,I=w.alloc (.cells #[.int .i64 0] 40 (0,0)):=⟨_,rfl⟩
 have hg1:EN ok w ok I:=fun b U=>⟨U,by rw[Y];exact KE _ _ _ (hm.kN b U)⟩
 have hmc:Ce ⟨I,ok,[],[]⟩ ok [] [] I:=
  ⟨.refl _ _,fun _ h=>h,fun _ h=>.inl h,fun b U=>by rw[Y];simp;exact Nat.lt_succ_of_lt (hm.kN b U),.refl _,rfl,fun k e h M=>by simp at M,fun k e h b M=>by simp at M,fun k k' e e' h h' b M=>by simp at M⟩
 have L:∀i,i<(j.map Aa.d).length→R ok I [] ((j.map Aa.d).getD i .junk) (us.getD i undef):=fun i hi=>by
  rw[CB]at hi;have e1:(j.map Aa.d).getD i .junk=.d (j.getD i Dh):=NZ
  rw[e1];exact .d _ _ ((h2 i hi).mono hg1)
 have hgr:∀{Z:Nat→Prop} {H2:List BN} {w2:World},Ce ⟨I,ok,[],[]⟩ Z H2 [] w2→I.grownBy w2 none:=fun q=>⟨q.fr.os,q.fr.tape,q.fr.output,q.fr.size,fun b U _=>q.fr.block b U Aw⟩
 have hcall:Calls Tryz.prog g us I fun e w2=>I.grownBy w2 none∧((∃v,e=.returned v∧n=0)∨e=.panicked [{ v:=.iface 165 (.agg #[.int .i64 n]),recovered:=false }]):=by
  cases O:r with
  |ok x=>
   rw[O]at z;refine(hr.1 x O ok [] [] I us hmc (by simpa using hl2) L).mono ?_;rintro e w2 ⟨v,Z,H2,rfl,q,_⟩;exact⟨hgr q,.inl ⟨v,rfl,(CS z).symm⟩⟩
  |error u=>
   rw[O]at z
   have hu:u=.iface 165 (.agg #[.int .i64 n]):=by
    unfold TG at z;split at z
    ·rename_i h;cases h
    ·rename_i t cs h;cases h;cases ht:(t==165)with
     |false=>rw[ht]at z;cases z
     |true=>
      rw[ht]at z;simp only[BD]at z;obtain rfl:t=165:=aDs
      split at z
      ·rename_i m hcs;obtain rfl:=CS z;rw[←cO (xs:=cs),hcs]
      cases z
    cases z
   refine(hr.2 u O ok [] [] I us hmc (by simpa using hl2) L).mono ?_;rintro e w2 ⟨Z,H2,rfl,q⟩;exact⟨hgr q,.inr (by rw[hu])⟩
 subst Y;refine(amI (fun vs w=>TR M vs w) hcall).mono ?_;rintro e w' ⟨rfl,hg⟩;obtain⟨m1,_⟩:=hm.change (ok':=ok) (H':=[]) (es':=[]) (w':=w') (fun _=>False) hg.os hg.tape hg.output hg.size (fun b U _=>hg.block b U Aw) (fun _ h=>h.elim) (fun _ h=>h) (fun _ h=>.inl h) (.refl _) rfl (fun k e h M=>by simp at M);exact⟨_,ok,[],rfl,m1,.d _ _ (.lit _)⟩
def setCell_eq {w:World} {b:Nat} {x y:Value} {t:TypeId} (j:w.heap[b]? =some (.cells #[x] t (0,0))):w.setCell ⟨b,0,none⟩ y=w.putObj b (.cells #[y] t (0,0)):=by
 simp only[World.setCell,World.putObj];congr 1;apply oC;intro i;rw[NY,aHL];by_cases e:b=i
 ·subst e;rw[CP rfl,CP rfl,j,CP (GX.1 j).1];rfl
 rw[CU e,CU e]
def ahD (p q:Addr) (w:World):
 CallsD Tryz.prog 401 #[.pointer (some p),.pointer (some q)] .returning w fun e j w'=>e=.returned (.tuple #[])∧j=.returning∧w'=w:=by
 refine aCv Tryz.func401 rfl fun u cs z=>?_;apply Pq;apply QA;simp[wpOpsS,go_sem,recoverD,z,Tryz.ntmps401,Exit.thenS];apply Pq;apply QA;simp[wpOpsS,go_sem,Exit.thenS];refine ku (t:=false) lZ ?_;simp only[Qh,Jl];refine wpS_of_wp (wp_skip ?_);cases u
 simp_all [bodyPostS,results,Tryz.results401]
def adE (b c:Nat) (ad:Option Addr) (n cap:Nat) (x:Value) (w:World) (Y:w.heap[b]? =some (.cells #[.slice ad n cap] 52 (0,0))) (Z:w.heap[c]? =some (.cells #[x] 52 (0,0))):
 CallsD Tryz.prog 401 #[.pointer (some ⟨b,0,none⟩),.pointer (some ⟨c,0,none⟩)] (.panicking [{ v:=.iface 331 (.agg #[]),recovered:=false }]) w fun e u' w'=>
  e=.returned (.tuple #[])∧u'=.panicking [{ v:=.iface 331 (.agg #[]),recovered:=true }]∧w.grownBy w' (some c)∧w'.heap[c]? =some (.cells #[.slice ad n cap] 52 (0,0)):=by
 have q:∀(t0:TypeId) (w:World),(Instr.typeAssert (.iface 331 (.agg #[])) t0 331 true).run Tryz.prog w=.ok (.tuple #[.agg #[],.bool true]) w:=fun _ _=>A8
 refine aCv Tryz.func401 rfl fun c₀ cs hu=>?_;apply Pq;apply QA;simp[wpOpsS,go_sem,recoverD,hu,Tryz.ntmps401,Exit.thenS];apply Pq;apply QA;simp[wpOpsS,go_sem,Exit.thenS];refine ku (t:=true) lZ ?_;simp only[JV];apply Pq;apply Pq;apply QA;simp[wpOpsS,execOp,q,go_sem,Exit.thenS];apply Pq;apply QA;simp[wpOpsS,go_sem,Exit.thenS];refine ku (t:=false) lZ ?_;simp only[Qh,Jl];refine wpS_of_wp (wp_skip ?_);simp only[Exit.thenS];have u:b<w.heap.size:=(GX.1 Y).1;have z:c<w.heap.size:=(GX.1 Z).1;have I:(w.alloc (.cells #[] 331)).heap[b]? =some (.cells #[.slice ad n cap] 52 (0,0)):=(KE _ _ _ u).trans Y;have j:(w.alloc (.cells #[] 331)).heap[c]? =some (.cells #[x] 52 (0,0)):=(KE _ _ _ z).trans Z;have J:(w.alloc (.cells #[] 331)).cell? ⟨b,0,none⟩=some (.slice ad n cap):=by rw[World.cell?,I];rfl
 have L:(w.alloc (.cells #[] 331)).cell? ⟨c,0,none⟩=some x:=aCK
 have M:(w.alloc (.cells #[] 331)).frozen? ⟨c,0,none⟩=false:=by simp[World.frozen?,j]
 apply QA;simp[wpOpsS,go_sem,Exit.thenS,J,L,M,bodyPostS,results,Tryz.results401];rw[setCell_eq j];have O:c<(w.alloc (.cells #[] 331)).heap.size:=(GX.1 j).1;refine⟨⟨rfl,rfl,rfl,Aw,fun i hi U=>?_⟩,X6 O⟩;rw[Xr (fun e=>U (by rw[e]))];exact KE _ _ _ hi
def step_fin (b:Nat) (v:Value) (w:World) (j:w.heap[b]? =some (.cells #[v] 52 (0,0))) (tmps:Array Value) (ht:tmps.getD 6 undef=.pointer (some ⟨b,0,none⟩)):(results Tryz.f378 tmps).run Tryz.prog w=.ok v w:=by
 have q:w.cell? ⟨b,0,none⟩=some v:=aCK
 have e:results Tryz.f378 tmps=(do let v ←loadVar 52 (←asAddr (tmps.getD 6 undef));pure v):=by simp[results,Tryz.results378]
 rw[e,ht];simp[go_sem,q]
def aga {l id:Value} {ad:Option Addr} {n cap:Nat} {w:World} {Rv:Value→World→Prop} {bad:Prop}
 (I:Calls Tryz.prog 402 #[l,.slice ad n cap,id] ((w.alloc (.cells #[.slice ad n cap] 52 (0,0))).alloc (.cells #[.slice none 0 0] 52 (0,0))) fun e j=>((w.alloc (.cells #[.slice ad n cap] 52 (0,0))).alloc (.cells #[.slice none 0 0] 52 (0,0))).grownBy j none∧((∃L n' q,e=.returned (.slice L n' q)∧Rv (.slice L n' q) j)∨(e=.panicked [{ v:=.iface 331 (.agg #[]),recovered:=false }]∧bad))):
 Calls Tryz.prog 378 #[l,.slice ad n cap,id] w fun e w'=>w.grownBy w' none∧((∃v j,e=.returned v∧Rv v j∧w.grownBy j none∧w.heap.size+1<j.heap.size∧j.grownBy w' (some (w.heap.size+1)))∨(e=.returned (.slice ad n cap)∧bad)):=by
 have hmf:∀(fn:Fn) (first cap:Array Value) (w:World),(Instr.makeFunc fn first cap).run Tryz.prog w=.ok (.func fn first cap) w:=fun _ _ _ _=>rfl;obtain⟨U,u⟩:∃U,U=(w.alloc (.cells #[.slice ad n cap] 52 (0,0))).alloc (.cells #[.slice none 0 0] 52 (0,0)):=⟨_,rfl⟩
 have hs1:U.heap.size=w.heap.size+2:=by rw[u];simp
 have Z:U.heap[w.heap.size]? =some (.cells #[.slice ad n cap] 52 (0,0)):=by rw[u];exact(KE _ _ _ Aw).trans (jg w _)
 have h1c:U.heap[w.heap.size+1]? =some (.cells #[.slice none 0 0] 52 (0,0)):=by
  have :=jg (w.alloc (.cells #[.slice ad n cap] 52 (0,0))) (.cells #[.slice none 0 0] 52 (0,0));rw[aMa]at this;rw[u];exact this
 have J:w.grownBy U none:=by
  rw[u];exact⟨rfl,rfl,rfl,DW,fun i hi _=>(KE _ _ _ DW).trans (KE _ _ _ hi)⟩
 have hcb:U.cell? ⟨w.heap.size,0,none⟩=some (.slice ad n cap):=by rw[World.cell?,Z];rfl
 rw[←u]at I
 go_enter_defers Tryz.func378,Tryz.ntmps378
 apply wp_seq;apply Zr;refine .inl ?_;simp[Oper.wp,go_sem,wpList,Exit.then];rw[←u];have he:∀(vs:Array Value) (w:World),(callFunc 402 vs).run Tryz.prog w=.ok (.enter 402 vs) w:=fun vs w=>TR (P:=Tryz.prog) (f:=402) A8 vs w;refine .inl ?_;apply wp_seq;apply Zr;refine .inl ?_;simp[Oper.wp,go_sem,hmf,wpList,Exit.then];refine .inl ?_;apply wp_seq;apply Zr;refine .inl ?_;simp[Oper.wp,go_sem,wpList,Exit.then,hcb,he];refine .inl (.inl (.inl (I.mono ?_)));rintro e j ⟨Y,h⟩;have hb:j.heap[w.heap.size]? =some (.cells #[.slice ad n cap] 52 (0,0)):=(Y.block _ AA Aw).trans Z;have hc:j.heap[w.heap.size+1]? =some (.cells #[.slice none 0 0] 52 (0,0)):=(Y.block _ AA Aw).trans h1c;have hcl:w.heap.size+1<j.heap.size:=(GX.1 hc).1;have z:w.grownBy j none:=⟨Y.os.trans J.os,Y.tape.trans J.tape,Y.output.trans J.output,Ed J.size Y.size,fun i hi hn=>(Y.block i AA hn).trans (J.block i hi hn)⟩
 have O:∀(w3:World),j.grownBy w3 (some (w.heap.size+1))→w.grownBy w3 none:=fun w3 M=>⟨M.os.trans z.os,M.tape.trans z.tape,M.output.trans z.output,Ed z.size M.size,fun i hi hn=>(M.block i AA DW).trans (z.block i hi hn)⟩
 rcases h with⟨L,n',q,rfl,hv⟩|⟨rfl,hbad⟩
 ·have hcc:j.cell? ⟨w.heap.size+1,0,none⟩=some (.slice none 0 0):=by rw[World.cell?,hc];rfl
  have hfz:j.frozen? ⟨w.heap.size+1,0,none⟩=false:=by simp[World.frozen?,hc]
  simp[hcc,hfz,go_sem,wpList,Exit.then];refine .inl (wp_ret ?_);rw[setCell_eq hc];refine leaves_cons (f:=401) (args:= #[.pointer (some ⟨w.heap.size,0,none⟩),.pointer (some ⟨w.heap.size+1,0,none⟩)]) Aw aDT ?_;refine(ahD ⟨w.heap.size,0,none⟩ ⟨w.heap.size+1,0,none⟩ _).mono ?_;rintro e u' w'' ⟨rfl,rfl,rfl⟩;have M:j.grownBy (j.putObj (w.heap.size+1) (.cells #[.slice L n' q] 52 (0,0))) (some (w.heap.size+1)):=⟨rfl,rfl,rfl,Aw,fun i hi hne=>Xr (fun e=>hne (by rw[e]))⟩
  exact⟨.slice L n' q,step_fin (w.heap.size+1) _ _ (X6 hcl) _ rfl,O _ M,.inl ⟨_,rfl,j,hv,z,hcl,M⟩⟩
 refine leaves_cons (f:=401) (args:= #[.pointer (some ⟨w.heap.size,0,none⟩),.pointer (some ⟨w.heap.size+1,0,none⟩)]) Aw aDT ?_;refine(adE w.heap.size (w.heap.size+1) ad n cap (.slice none 0 0) j hb hc).mono ?_;rintro e u' w'' ⟨rfl,rfl,M,h4⟩;exact⟨.slice ad n cap,step_fin (w.heap.size+1) _ _ h4 _ rfl,O _ M,.inr ⟨rfl,hbad⟩⟩
def aCs {T:Type} (s:T):Except Value T→Option T
 | .ok x=>some x
 | .error (.iface t (.agg cs))=>bif t==331&&cs.toList.isEmpty then some s else none
 | .error _=>none
def anR {T:Type} (enc:T→List D) (dl di:D) (s:T) (r:Except Value T) (hr:Q9 Tryz.prog 402 [.d dl,.d (.sl (enc s)),.d di] r (fun x=>.d (.sl (enc x)))) (O:T) (Z:aCs s r=some O):
 BI 378 [.d dl,.d (.sl (enc s)),.d di] [] (.d (.sl (enc O))) []:=by
 intro ok X H w I hm hs ha;obtain rfl:H=[]:=Gh hm.hlen;have hsz:I.size=3:=hs
 obtain⟨l,sv,id,rfl⟩:∃l sv id,I= #[l,sv,id]:=⟨I[0],I[1],I[2],by
  apply ZK (by simp[hsz]);intro i h1 h2
  match i,h2 with
  |0,_=>rfl
  |1,_=>rfl
  |2,_=>rfl⟩
 have a0:R ok w [] (.d dl) l:=ha 0 Aw;have a1:R ok w [] (.d (.sl (enc s))) sv:=ha 1 Aw;have a2:R ok w [] (.d di) id:=ha 2 Aw
 have slv:∀{ok:Nat→Prop} {w:World} {H:List BN} {xs:List D} {v:Value},R ok w H (.d (.sl xs)) v→∃ad n cap,v=.slice ad n cap:=fun h=>by
  cases h with
  |d _ _ h=>cases h with
   |sl0 ad cap=>exact⟨_,_,_,rfl⟩
   |sl=>exact⟨_,_,_,rfl⟩
 obtain⟨ad,n,cap,rfl⟩:=slv a1;obtain⟨J,hw1⟩:∃J,J=(w.alloc (.cells #[.slice ad n cap] 52 (0,0))).alloc (.cells #[.slice none 0 0] 52 (0,0)):=⟨_,rfl⟩
 have hs1:J.heap.size=w.heap.size+2:=by rw[hw1];simp
 have hg1:EN ok w ok J:=fun b z=>⟨z,by rw[hw1];exact(KE _ _ _ (by have h:=hm.kN b z;rw[aMa];omega)).trans (KE _ _ _ (hm.kN b z))⟩
 have hmc:Ce ⟨J,ok,[],[]⟩ ok [] [] J:=
  ⟨.refl _ _,fun _ h=>h,fun _ h=>.inl h,fun b z=>by have h:=hm.kN b z;rw[hs1];omega,.refl _,rfl,fun k e h he=>by simp at he,fun k e h b he=>by simp at he,fun k k' e e' h h' b he=>by simp at he⟩
 have U:∀i,i<3→R ok J [] ([Aa.d dl,.d (.sl (enc s)),.d di].getD i .junk) ((#[l,.slice ad n cap,id]:Array Value).getD i undef):=fun i hi=>by
  match i,hi with
  |0,_=>exact a0.mono hg1 (.refl _)
  |1,_=>exact a1.mono hg1 (.refl _)
  |2,_=>exact a2.mono hg1 (.refl _)
 have hgr:∀{j:Nat→Prop} {H2:List BN} {M:World},Ce ⟨J,ok,[],[]⟩ j H2 [] M→J.grownBy M none:=fun q=>⟨q.fr.os,q.fr.tape,q.fr.output,q.fr.size,fun b z _=>q.fr.block b z Aw⟩
 have Y:Calls Tryz.prog 402 #[l,.slice ad n cap,id] J fun e M=>J.grownBy M none∧((∃ad' n' L,e=.returned (.slice ad' n' L)∧∃x j,r=.ok x∧Ce ⟨J,ok,[],[]⟩ j [] [] M∧Dk j M (.sl (enc x)) (.slice ad' n' L))∨(e=.panicked [{ v:=.iface 331 (.agg #[]),recovered:=false }]∧O=s)):=by
  cases hrr:r with
  |ok x=>
   refine(hr.1 x hrr ok [] [] J _ hmc rfl U).mono ?_;rintro e M ⟨v,j,H2,rfl,q,hR⟩;obtain⟨ad',n',L,rfl⟩:=slv hR;obtain rfl:H2=[]:=Gh q.hlen;exact⟨hgr q,.inl ⟨ad',n',L,rfl,x,j,rfl,q,by cases hR with |d _ _ h=>exact h⟩⟩
  |error u=>
   rw[hrr]at Z
   have hu:u=.iface 331 (.agg #[])∧O=s:=by
    unfold aCs at Z;split at Z
    ·rename_i h;cases h
    ·rename_i t cs h;cases h;cases ht:(t==331&&cs.toList.isEmpty)with
     |false=>rw[ht]at Z;cases Z
     |true=>
      rw[ht]at Z;simp only[CZ]at ht;obtain rfl:t=331:=by simpa using ht.1
      have :cs= #[]:=by rw[←cO (xs:=cs),List.isEmpty_iff.1 ht.2]
      subst this;exact⟨rfl,(CS Z).symm⟩
    cases Z
   refine(hr.2 u hrr ok [] [] J _ hmc rfl U).mono ?_;rintro e M ⟨j,H2,rfl,q⟩;exact⟨hgr q,.inr ⟨by rw[hu.1],hu.2⟩⟩
 rw[hw1]at Y;refine(aga Y (Rv:=fun v M=>∃x j,r=.ok x∧Ce ⟨_,ok,[],[]⟩ j [] [] M∧Dk j M (.sl (enc x)) v) (bad:=O=s)).mono ?_;rw[←hw1];rintro e w' ⟨hg,h⟩
 have mk:∀(j:Nat→Prop),(∀b,ok b→j b)→(∀b,j b→ok b∨(w.heap.size≤b∧b<w'.heap.size))→Ce ⟨w,ok,X,[]⟩ j [] [] w':=fun j h1 h2=>
  (hm.change (ok':=j) (H':=[]) (es':=[]) (w':=w') (fun _=>False) hg.os hg.tape hg.output hg.size (fun b z _=>hg.block b z Aw) (fun _ h=>h.elim) h1 h2 (.refl _) rfl (fun k e h he=>by simp at he)).1
 rcases h with⟨v,M,rfl,⟨x,j,hx,q,hD⟩,hg2,hlt,h3⟩|⟨rfl,rfl⟩
 ·rw[hx]at Z;obtain rfl:=CS Z
  have hgg:EN j M j w':=fun b z=>⟨z,h3.block b (q.kN b z) (fun e=>by
   obtain rfl:=CS e;rcases q.yX _ z with h|h|h
   ·have :=hm.kN _ h;omega
   ·simp only at h;omega
   simp at h)⟩
  refine⟨v,j,[],rfl,mk j q.yV (fun b z=>?_),.d _ _ (hD.mono hgg)⟩;rcases q.yX b z with h|h|h
  ·exact .inl h
  ·simp only at h;exact .inr ⟨AA,Uy (q.kN b z) h3.size⟩
  simp at h
 have hgg:EN ok w ok w':=fun b z=>⟨z,hg.block b (hm.kN b z) Aw⟩
 exact⟨_,ok,[],rfl,mk ok (fun _ h=>h) (fun _ h=>.inl h),a1.mono hgg (.refl _)⟩
end Go.Proofs.YtkkdimcnpacjhaaGreat
end
section
namespace Go.Proofs
open Go.Proofs.YtkkdimcnpacjhaaGreat
open Go.Shelf
def Tryz.YU:Go.Shelf.Ren:=⟨fun |6=>438|15=>124|14=>442|28=>215|29=>216|20=>443|21=>444|22=>445|23=>446|24=>447|25=>448|26=>449|27=>450|46=>451|47=>307|48=>308|49=>452|50=>453|57=>454|n=>n,fun |22=>358|24=>360|25=>362|3=>3|39=>148|0=>0|53=>212|55=>214|4=>4|46=>206|45=>205|50=>47|5=>5|9=>9|66=>279|70=>283|76=>305|77=>306|n=>n,fun |n=>n⟩
def Tryz.asl:SlLaysF0.n6 Tryz.prog Tryz.YU:={
 mixed:=A8
 f6:=⟨Tryz.f438.name,BJ,Tryz.func438.trans (Ap some A8)⟩
 f14:=⟨Tryz.f442.name,BJ,Tryz.func442.trans (Ap some A8)⟩
 f15:=Tryz.func124.trans (Ap some A8)
 f20:=⟨Tryz.f443.name,BJ,Tryz.func443.trans (Ap some A8)⟩
 f21:=⟨Tryz.f444.name,BJ,Tryz.func444.trans (Ap some A8)⟩
 f22:=⟨Tryz.f445.name,BJ,Tryz.func445.trans (Ap some A8)⟩
 f23:=⟨Tryz.f446.name,BJ,Tryz.func446.trans (Ap some A8)⟩
 f24:=⟨Tryz.f447.name,BJ,Tryz.func447.trans (Ap some A8)⟩
 f25:=⟨Tryz.f448.name,BJ,Tryz.func448.trans (Ap some A8)⟩
 f26:=⟨Tryz.f449.name,BJ,Tryz.func449.trans (Ap some A8)⟩
 f27:=⟨Tryz.f450.name,BJ,Tryz.func450.trans (Ap some A8)⟩
 f28:=Tryz.func215.trans (Ap some A8)
 f29:=Tryz.func216.trans (Ap some A8)
 f46:=⟨Tryz.f451.name,BJ,Tryz.func451.trans (Ap some A8)⟩
 f47:=Tryz.func307.trans (Ap some A8)
 f48:=Tryz.func308.trans (Ap some A8)
 f49:=⟨Tryz.f452.name,BJ,Tryz.func452.trans (Ap some A8)⟩
 f50:=⟨Tryz.f453.name,BJ,Tryz.func453.trans (Ap some A8)⟩
 f57:=⟨Tryz.f454.name,BJ,Tryz.func454.trans (Ap some A8)⟩
 t0:=aDl
 a0:=Tryz.isAgg0
 z0:=Tryz.sizeOf0
 v0:=aCU
 t3:=XB
 a3:=mO
 z3:=fU
 v3:=jq
 t4:=fO
 a4:=qG
 z4:=yu
 v4:=yY
 t5:=o7
 a5:=pJ
 z5:=xq
 v5:=yO
 t9:=dR
 a9:=uh
 z9:=oW
 v9:=uF
 t22:=Tryz.underlying358
 a22:=Tryz.isAgg358
 z22:=Tryz.sizeOf358
 v22:=Tryz.zeroValue358
 t25:=Tryz.underlying362
 a25:=Tryz.isAgg362
 z25:=Tryz.sizeOf362
 v25:=Tryz.zeroValue362
 t39:=aAJ
 a39:=Tryz.isAgg148
 z39:=zJ
 v39:=aEv
 t45:=Tryz.underlying205
 a45:=Tryz.isAgg205
 z45:=Tryz.sizeOf205
 v45:=Tryz.zeroValue205
 t46:=Tryz.underlying206
 a46:=Tryz.isAgg206
 z46:=Tryz.sizeOf206
 v46:=Tryz.zeroValue206
 t50:=Tryz.underlying47
 a50:=Tryz.isAgg47
 z50:=Tryz.sizeOf47
 v50:=Tryz.zeroValue47
 t53:=yw
 a53:=Tryz.isAgg212
 z53:=aAL
 v53:=aED
 t55:=Tryz.underlying214
 a55:=Tryz.isAgg214
 z55:=Tryz.sizeOf214
 v55:=Tryz.zeroValue214
 t66:=Tryz.underlying279
 a66:=Tryz.isAgg279
 z66:=Tryz.sizeOf279
 v66:=Tryz.zeroValue279
 t70:=Tryz.underlying283
 a70:=Tryz.isAgg283
 z70:=Tryz.sizeOf283
 v70:=Tryz.zeroValue283
 t76:=Tryz.underlying305
 a76:=Tryz.isAgg305
 z76:=Tryz.sizeOf305
 v76:=Tryz.zeroValue305
 t77:=Tryz.underlying306
 a77:=Tryz.isAgg306
 z77:=Tryz.sizeOf306
 v77:=Tryz.zeroValue306 }
end Go.Proofs
end
section
namespace Go.Proofs.YtkkdimcnpacjhaaGreat
open Go.RowKit Go.Sort
section
variable {α : Type}
def ZY (le:α→α→Bool) (x:α):List α→List α
 | []=>[x]
 |y::l=>bif le x y then x::y::l else y::ZY le x l
def LP (le:α→α→Bool) (l:List α):List α:=l.foldr (ZY le) []
def aP4 (le:α→α→Bool) (x:α):∀l,(ZY le x l).Perm (x::l)
 | []=>.refl _
 |y::l=>by
  unfold ZY;cases h:le x y with
  |true=>exact .refl _
  |false=>exact((aP4 le x l).cons y).trans (.swap x y l)
def Sz (le:α→α→Bool):∀l,(LP le l).Perm l
 | []=>.refl _
 |x::l=>(aP4 le x (LP le l)).trans ((Sz le l).cons x)
def aRQ {le:α→α→Bool} (ht:∀x y z,le x y=true→le y z=true→le x z=true) (u:∀x y,le x y=false→le y x=true) (x:α):∀l,l.Pairwise (fun a b=>le a b=true)→(ZY le x l).Pairwise (fun a b=>le a b=true)
 | [],_=>by simp[ZY]
 |y::l,h=>by
  have h':=Nr.1 h;unfold ZY;cases q:le x y with
  |true=>
   refine Nr.2 ⟨fun z j=>?_,h⟩;rcases EG.1 j with rfl|j
   ·exact q
   exact ht x y z q (h'.1 z j)
  |false=>
   refine Nr.2 ⟨fun z j=>?_,aRQ ht u x l h'.2⟩;rcases EG.1 ((aP4 le x l).mem_iff.1 j)with rfl|j
   ·exact u _ _ q
   exact h'.1 z j
def zf {le:α→α→Bool} (ht:∀x y z,le x y=true→le y z=true→le x z=true) (j:∀x y,le x y=false→le y x=true):∀l:List α,(LP le l).Pairwise (fun a b=>le a b=true)
 | []=>.nil
 |x::l=>aRQ ht j x _ (zf ht j l)
def aa4 {le:α→α→Bool} (ht:∀x y z,le x y=true→le y z=true→le x z=true) (j:∀x y,le x y=false→le y x=true) (ha:∀x y,le x y=true→le y x=true→x=y) {l m:List α} (hp:m.Perm l) (hs:m.Pairwise (fun a b=>le a b=true)):m=LP le l:=
 (hp.trans (Sz le l).symm).eq_of_pairwise (fun a b _ _ q u=>ha a b q u) hs (zf ht j l)
def aLH {e:α→D} {enc:α→List Value} (j:∀x,(e x).cells=(enc x).map .lit):∀l:List α,flat (l.map e)=(l.flatMap enc).map fun v=>.d (.lit v)
 | []=>rfl
 |x::l=>by rw[Ia,U3,aLH j l,j,JX,KO,V7];rfl
def yM {enc:α→List Value} {k:Nat} (j:∀x,(enc x).length=k):∀l:List α,(l.flatMap enc).length=l.length*k
 | []=>Aw
 |x::l=>by rw[JX,E9,j,yM j l,FV,Xl,aBu,Ui]
def aRr {e:α→D} {enc:α→List Value} {k:Nat} (u:∀x,(e x).cells=(enc x).map .lit) (L:∀x,(enc x).length=k) (Y:∀x,∀v∈enc x,v.oneCell'=true) {ok:Nat→Prop} {w:World} {H:List BN} {h:BN} {T:TypeId} {l:List α}:
 En ok w H h (.arr T k (l.map e))↔h.size=k∧lH w T k h.v l.length (l.flatMap enc):=by
 have hl:=yM L l;constructor
 ·rintro⟨z,_,xs,q,I,M⟩;refine⟨z,?_⟩;rw[CB]at q
  have :xs=l.flatMap enc:=by
   rw[aLH u]at I M;rw[CB]at I;refine oz I fun i hi O=>?_;have U:=(M i aBY).2;simp only[List.getD,JD,DC O,IV,MF,DC hi]at U;cases U with |d _ _ h=>rw[Dk.adC h]
  rw[←this];exact q
 rintro⟨z,q⟩;refine⟨z,fun x J=>?_,l.flatMap enc,by rw[CB];exact q,?_⟩
 ·obtain⟨n,_,rfl⟩:=Dp.1 J;rw[u,CB,L]
 rw[aLH u];refine⟨Aw,fun i hi=>?_⟩;have j:i<(l.flatMap enc).length:=G6
 simp only[List.getD,JD,DC j,IV,MF];refine⟨?_,.d _ _ (.lit _)⟩;obtain⟨x,_,J⟩:=Rl.1 (ED j);exact Y x _ J
def aUM {j:Array Value} (hs:j.size=2):j= #[j.getD 0 undef,j.getD 1 undef]:=by
 refine ZK (by simp[hs]) fun i u q=>?_;simp at q;have :i=0∨i=1:=AA
 rcases this with rfl|rfl<;>simp[Array.getD,hs]
def Aq.aAy {P:Program} {f g:FuncId} {T:TypeId} {k:Nat} {e:α→D} {enc:α→List Value} (L:∀x,(e x).cells=(enc x).map .lit) (hk:∀x,(enc x).length=k) (h1:∀x,∀v∈enc x,v.oneCell'=true) {l r:List α}
 (h:∀(v:Value) (w:World),lH w T k v l.length (l.flatMap enc)→Calls P f #[v,.func (.func g) #[] #[]] w fun x w'=>x=.returned (.tuple #[])∧lH w' T k v r.length (r.flatMap enc)∧Turns v w w'):
 Aq P f [.aY 0,.d (.fn (.func g) [] [])] [.arr T k (l.map e)] (.eF []) [.arr T k (r.map e)]:=by
 intro ok X H w I hm hs ha;have h0:=ha 0 Aw;have M:=ha 1 Aw;rw[aUM hs];obtain⟨hd,Z,hok⟩:=GR hm.ent hm.hlen (k:=0) rfl;obtain hv:=Nq h0 Z
 have hf:I.getD 1 undef=.func (.func g) #[] #[]:=by
  simp only[List.getD,xO,aDa,MF]at M;generalize I.getD 1 undef=u at M;cases M with
  |d _ _ M=>
   cases M with
   |fn _ _ _ vs us hl hm'=>
    have e1:vs= #[]:=W9 MC;have e2:us= #[]:=W9 (by simpa using hm');rw[e1,e2]
 rw[hv,hf];obtain⟨hz,how⟩:=(aRr L hk h1).1 hok;refine(h hd.v w how).mono ?_;rintro x w' ⟨rfl,O,ht⟩;have z:=fun b U=>hm.blk 0 _ hd b rfl rfl Z U
 have hg:=hm.change (ok':=ok) (H':=H) (w':=w') (es':=[.arr T k (r.map e)]) (fun c=>D6 hd.v=some c) ht.os ht.tape ht.output ht.size ht.block (fun c L _=>⟨(z c L).1,(z c L).2.2⟩) (fun _ h=>h) (fun _ h=>.inl h) (.refl _) hm.hlen (by
  intro j e' h' q Y
  match j,q with
  |0,q=>
   simp at q;subst q;rw[Z]at Y;obtain rfl:=CS Y;refine .inr ⟨(aRr L hk h1).2 ⟨hz,O⟩,fun _ b U=>⟨(z b U).1,Uy (z b U).2.1 ht.size,(z b U).2.2,fun k' e'' h'' hne J=>?_⟩⟩
   match k',J with
   |0,_=>exact absurd rfl hne
   |k'+1,J=>simp at J
  |k+1,q=>simp at q)
 exact⟨_,ok,H,rfl,hg.1,.eF [] #[] rfl (fun i hi=>Ot)⟩
end
section
variable {α : Type} [Inhabited α]
def aAN {enc:α→List Value} {k:Nat} (j:∀x,(enc x).length=k) (l:List α):(flatK enc k l.toArray).toList=l.flatMap enc:=by
 have key:∀(l:List α) (t:Nat),t<l.length*k→(enc (l[t/k]?.getD default))[t % k]? =(l.flatMap enc)[t]? :=by
  intro l
  induction l with
  |nil=>intro t ht;simp at ht
  |cons x l z=>
   intro t ht;rw[FV,Xl,aBu]at ht;rw[JX];by_cases h:t<k
   ·rw[Nat.div_eq_of_lt h,Nat.mod_eq_of_lt h,GZ (by rw[j];exact h)];rfl
   have h':k≤t:=WT h;rcases Yk k with q|q
   ·subst q;simp at ht
   have I:t/k=(t-k)/k+1:=Nat.div_eq_sub_div q h';rw[I,Nat.mod_eq_sub_mod h',Jf (by rw[j];exact h'),j,←z (t-k) AA,xO]
 refine oz (by simp[yM j]) fun t J L=>?_;have ht:t<l.length*k:=SL
 have :=key l t ht;rw[DC L]at this;have u:=get_flatK enc k l.toArray t aDs;rw[Yr _ _ aDs]at u;rw[Array.getElem_toList,u];have M:(l.toArray)[t/k]! =l[t/k]?.getD default:=Aw
 rw[M];simp[List.getElem!_eq_getElem?_getD,this]
end
def JU (a b:Int):Int:=if a<b then -1 else if a>b then 1 else 0
def YG (p q:Int×Int×Int):Int:=if p.2.1=q.2.1 then(if p.2.2=q.2.2 then JU p.1 q.1 else JU p.2.2 q.2.2)else JU q.2.1 p.2.1
def rC (a b:Int):JU a b<0↔a<b:=by
 unfold JU;split
 ·omega
 split<;>omega
def apn (p q:Int×Int×Int):YG p q<0↔q.2.1<p.2.1∨p.2.1=q.2.1∧(p.2.2<q.2.2∨p.2.2=q.2.2∧p.1<q.1):=by
 unfold YG;split
 ·split
  ·rw[rC];omega
  rw[rC];omega
 rw[rC];omega
def acz (a b:Int) (W:World):Calls Tryz.prog 440 #[.int .i64 a,.int .i64 b] W fun e w'=>e=.returned (.int .i64 (JU a b))∧w'=W:=by
 unfold JU
 go_enter Tryz.func440,Tryz.ntmps440
 go_wp2
 all_goals (go_ret;exact⟨rfl,rfl⟩)
set_option maxHeartbeats 1000000 in
def anM (r p1 p2 p3 q1 q2 q3:Int) (hr:r=if p2=q2 then(if p3=q3 then JU p1 q1 else JU p3 q3)else JU q2 p2) (W:World):Calls Tryz.prog 439 #[.agg #[.int .i64 p1,.int .i64 p2,.int .i64 p3],.agg #[.int .i64 q1,.int .i64 q2,.int .i64 q3]] W fun e w'=>e=.returned (.int .i64 r)∧∃q u,w'=grow (W.drewN q) u:=by
 have j:=acz;generalize JU=c at j hr;have z:p2≠q2→c q2 p2=r:=fun h=>by rw[hr,CU h]
 have I:p2=q2→p3≠q3→c p3 q3=r:=fun h k=>by rw[hr,CP h,CU k]
 have J:p2=q2→p3=q3→c p1 q1=r:=fun h k=>by rw[hr,CP h,CP k]
 clear hr
 go_enter Tryz.func439,Tryz.ntmps439
 go_wp2_with (go_at_call 440;refine(j _ _ _).mono ?_;rintro e w' ⟨rfl,rfl⟩)
 all_goals go_ret
 ·rename_i h;rw[z J3];exact⟨rfl,0,_,aPr⟩
 ·rename_i h k;rw[I J3 (by simpa using k)];exact⟨rfl,0,_,aPr⟩
 rename_i h k;rw[J J3 (by simpa using k)];exact⟨rfl,0,_,aPr⟩
def KX (p q:Int×Int×Int):Bool:= !decide (YG q p<0)
def sO (p q:Int×Int×Int):KX p q=true↔¬(p.2.1<q.2.1∨q.2.1=p.2.1∧(q.2.2<p.2.2∨q.2.2=p.2.2∧q.1<p.1)):=by
 unfold KX;rw[Ls,NR,apn]
def aH3 (x y z:Int×Int×Int) (h:KX x y=true) (k:KX y z=true):KX x z=true:=by
 rw[sO]at *;omega
def aTo (x y:Int×Int×Int) (h:KX x y=false):KX y x=true:=by
 have h:¬KX x y=true:=by rw[h];decide
 rw[sO]at *;omega
def aQx (x y:Int×Int×Int) (h:KX x y=true) (k:KX y x=true):x=y:=by
 rw[sO]at *;obtain⟨j,q,u⟩:=x;obtain⟨z,I,J⟩:=y;simp only[QH]at *;omega
def aUy (p q:Int×Int×Int):KX p q=false↔(p.2.1<q.2.1∨q.2.1=p.2.1∧(q.2.2<p.2.2∨q.2.2=p.2.2∧q.1<p.1)):=by
 rw[←Ol,sO,Decidable.not_not]
def acS (x y z:Int×Int×Int) (h:KX y x=false) (k:KX z y=false):KX z x=false:=by
 rw[aUy]at *;omega
section
variable {α : Type}
def aFI (f:α→Int×Int×Int) (l:List α):Option (List α):=if l.length≤1099511627776 then some (LP (fun x y=>KX (f x) (f y)) l)else none
def Oy (f:α→Int×Int×Int) (x:α):List Value:=[.int .i64 (f x).1,.int .i64 (f x).2.1,.int .i64 (f x).2.2]
def aoH (f:α→Int×Int×Int) (x:α):(Oy f x).length=3:=rfl
def aRt (f:α→Int×Int×Int) (x:α):∀v∈Oy f x,v.oneCell'=true:=fun v j=>by
 simp[Oy]at j;rcases j with rfl|rfl|rfl<;>rfl
def zD (f:α→Int×Int×Int) (x y:α):ltOf (fun x y=>YG (f x) (f y)) x y= !KX (f y) (f x):=by simp[ltOf,KX]
def apo (f:α→Int×Int×Int):SWO (ltOf fun x y:α=>YG (f x) (f y)):=by
 refine⟨fun x=>?_,fun x y z h k=>?_,fun x y z h k=>?_⟩
 ·rw[zD,(sO (f x) (f x)).2 AA];rfl
 ·rw[zD,Ls]at *;exact acS _ _ _ h k
 rw[zD,Bool.not_eq_false']at *;exact aH3 _ _ _ k h
variable [Inhabited α]
def alq (f:α→Int×Int×Int) (blk off size:Nat) (w:World):CmpLays Tryz.prog 439 #[] (Oy f) 3 (fun x y=>YG (f x) (f y)) blk off size w:=
 fun m os j _ x y=>anM (YG (f x) (f y)) (f x).1 (f x).2.1 (f x).2.2 (f y).1 (f y).2.1 (f y).2.2 rfl (sortWorldK (Oy f) 3 w blk off m j os)
set_option maxHeartbeats 2000000 in
def asv (f:α→Int×Int×Int) (hf:∀x y,f x=f y→x=y) (e:α→D) (he:∀x,e x=.agg [Ad (f x).1,Ad (f x).2.1,Ad (f x).2.2]) (l r:List α) (h:aFI f l=some r):
 BI 438 [.aY 0,.d (.fn (.func 439) [] [])] [.arr 360 3 (l.map e)] (.eF []) [.arr 360 3 (r.map e)]:=by
 unfold aFI at h;split at h
 ·rename_i hn;obtain rfl:=CS h;have U:=aoH f;refine Aq.aAy (enc:=Oy f) (fun x=>by rw[he];rfl) U (aRt f) fun v w how=>?_;generalize hr:LP (fun x y=>KX (f x) (f y)) l=r;have I:r.length=l.length:=by rw[←hr];exact(Sz _ l).length_eq
  rcases how.2 with⟨rfl,h0⟩|⟨g,cap,cur,rfl,hbase,hg,hnc,hcm,hcs,J⟩
  ·have hl:l=[]:=Gh h0;have hl':r=[]:=Gh (by rw[I,h0]);subst hl;subst hl';refine(AnyF.slices_SortFunc_none (P:=Tryz.prog) (ρ:=Tryz.YU) { Tryz.asl with } none 0 _ w).mono ?_;rintro e w' ⟨rfl,h⟩;subst h;exact⟨rfl,lH.nil _ _ _,Turns.refl _ _⟩
  have Y:g<w.heap.size:=(GX.1 hg).1;have q:=aAN (enc:=Oy f) U l
  have hH:HoldsK (Oy f) 3 w g 0 l.toArray:=by
   unfold HoldsK;have L:(flatK (Oy f) 3 l.toArray).size=l.length*3:=Aw
   generalize flatK (Oy f) 3 l.toArray=F at q L;intro j M;refine⟨?_,by simp[World.frozen?,hg]⟩;have e0:(cur.toList.take (l.length*3))[j]? =(l.flatMap (Oy f))[j]? :=by rw[J]
   rw[LM AA,←q]at e0;simp only[World.cell?,hg,Ij];simp only[Option.isSome_none,Qh,Jl];rw[←WV,e0,WV,Yr F j M,aC M];rfl
  have eg:∀args w,(callFunc 439 args).run Tryz.prog w=.ok (.enter 439 args) w:=enters_of Tryz.func439 A8 rfl;have :=AnyQ.slices_SortFunc (P:=Tryz.prog) (ρ:=Tryz.YU) Tryz.asl 3 Tryz.isAgg360 Tryz.sizeOf360 (Oy f) U (aRt f) (fun x y=>YG (f x) (f y)) (apo f) 439 #[] g 0 cap l.toArray w eg (alq f _ _ _ _) hH Y DW;refine this.mono ?_;rintro e' w' ⟨rfl,O,n,os,hp,hs,rfl⟩;obtain⟨Z,_,u⟩:=hp;have hsz':O.size=l.length:=by simpa using Z
  have e1:O.extract 0 l.toArray.size=O:=by rw[←Z];exact aEI
  rw[e1,aEI]at u
  have hm:O.toList=r:=by
   rw[←hr];refine aa4 (le:=fun x y=>KX (f x) (f y)) (fun x y z=>aH3 (f x) (f y) (f z)) (fun x y=>aTo (f x) (f y)) (fun x y h k=>hf _ _ (aQx (f x) (f y) h k)) u ?_;refine IZ.2 fun i j hi M hij=>?_;have :=hs i j (Ci _) hij (by simpa[hsz']using M);rw[zD,Yr O i G6,Yr O j (by simpa using M)]at this;simpa using this
  obtain rfl:O=r.toArray:=by rw[←hm]
  have hF:=aAN (enc:=Oy f) U r;have L:(flatK (Oy f) 3 r.toArray).size=l.length*3:=by simp[I]
  generalize hFF:flatK (Oy f) 3 r.toArray=F at hF L;refine⟨rfl,⟨by rw[yM U],.inr ⟨g,cap,putCells id 0 F cur,by rw[I],Ci _,?_,AA,hcm,by simpa[putCells]using hcs,?_⟩⟩,⟨rfl,rfl,rfl,by simp[sortWorldK,putRowK],fun c hc hne=>?_⟩⟩
  ·unfold sortWorldK putRowK;rw[hFF,heap_grow_old _ _ Vz];simp[putRow,mapBlock,Sort.ahead,NY,hg,onCells]
  ·rw[←hF,I];apply bD;intro j;by_cases M:j<l.length*3
   ·have hjc:j<cur.size:=by have :=JR 3 hnc;omega
    rw[LM M,WV,WV];have hjF:j<F.size:=AA
    simp[putCells,hjF,hjc]
   rw[aWC AA,I8 DW]
  unfold sortWorldK putRowK;rw[heap_grow_old _ _ aEE];have :g≠c:=fun e=>hne iH;simp[putRow,mapBlock,Sort.ahead,NY,this]
 cases h
end
end Go.Proofs.YtkkdimcnpacjhaaGreat
end
