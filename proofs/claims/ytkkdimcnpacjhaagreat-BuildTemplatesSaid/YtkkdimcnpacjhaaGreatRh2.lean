/- Part 2 of the laws' proofs (short forms by wip/shrink2.py). -/
import Derived.Test.YtkkdimcnpacjhaaGreatRh1
set_option linter.defProp false
set_option linter.unnecessarySimpa false
set_option linter.unusedSectionVars false
set_option linter.unusedVariables false
set_option linter.unusedSimpArgs false
namespace Go.Proofs.YtkkdimcnpacjhaaGreat
open Go.RowKit Go.Proofs.Tryz
section
def Af.Um (k:Nat) (cs:A8 D):Af->Af
 | .ptr j off=>if j=k then .d (.ref cs off)else .ptr j off
 |x=>x
def BO.Um (σ:BO) (k:Nat) (cs:A8 D):BO:=⟨σ.slots.map (Af.Um k cs),σ.ents.set k .dead,σ.base⟩
def VT {σ:BO} (k:Nat) {cs:A8 Af} (hk:σ.ents[k]? =some (.box cs)) (hd:cs.all Af.Bf=true):∀C ok H a w,Holds C ok H σ a w->∃ok',Holds C ok' H (σ.Um k (JI cs)) a w:=by
 intro C ok H a w q;obtain⟨h,O,hok⟩:=Hl q.mem.ent q.mem.hlen hk;have I:k<σ.ents.length:=(GH.1 hk).1;obtain⟨b0,U,hf,hx,hc⟩:=aMq hok hd
 let ok':Nat->Prop:=fun b=>ok b\/EK h.v=some b
 have M:=fun b u=>q.mem.blk k _ h b hk rfl O u;have hg:Et ok w ok' w:=fun b u=>⟨.inl u,rfl⟩
 refine⟨ok',⟨q.mem.fr,fun b u=>.inl (q.mem.yY b u),?_,?_,q.mem.names,by simp[BO.Um,q.mem.hlen],?_,?_,?_⟩,by simp[BO.Um,q.size],q.defers.mono hg,q.base,?_⟩
 ·rintro b (u|u)
  ·exact q.mem.yZ b u
  exact .inr (M b u).2.2
 ·rintro b (u|u)
  ·exact q.mem.kS b u
  exact(M b u).2.1
 ·intro j e' h' he J;rcases MO I he with⟨rfl,rfl⟩|⟨_,L⟩
  ·trivial
  exact(q.mem.ent j e' h' L J).mono hg (.refl _) (fun _ _ _=>rfl)
 ·intro j e' h' b he hl J u;rcases MO I he with⟨rfl,rfl⟩|⟨hne,L⟩
  ·cases hl
  have h3:=q.mem.blk j e' h' b L hl J u;refine⟨fun z=>?_,h3.2⟩;rcases z with z|z
  ·exact h3.1 z
  exact hne (q.mem.Fe j k e' _ h' h b L hk hl rfl J O u z)
 ·intro i j e1 e2 h1 h2 b he1 he2 Y Z hh1 hh2 hb1 hb2;rcases MO I he1 with⟨rfl,rfl⟩|⟨_,asV⟩
  ·cases Y
  rcases MO I he2 with⟨rfl,rfl⟩|⟨_,amg⟩
  ·cases Z
  exact q.mem.Fe i j e1 e2 h1 h2 b asV amg Y Z hh1 hh2 hb1 hb2
 intro t ht;simp only[BO.Um,Dc]at ht
 have e1:(σ.Um k (JI cs)).slots.getD t .junk=(σ.slots.getD t .junk).Um k (JI cs):=by
  simp only[BO.Um];exact Si _ _ _ ht
 rw[e1];have hR:=(q.slot t ht).mono hg (aT H);generalize σ.slots.getD t .junk=x at hR ⊢;generalize a.tmps.getD t undef=v at hR ⊢;cases x with
 |ptr j off=>
  simp only[Af.Um];split
  ·rename_i hj;subst hj;cases hR with
   |ptr _ _ b s hH=>
    rw[O]at hH;obtain rfl:=Dq hH;simp at U;subst U;have :=ES.ref (ok:=ok') (w:=w) (JI cs) off b 0 (fun _=>.inr rfl) hf hx (fun j hj=>(hc j hj).mono hg);rw[Kz]at this;exact .d _ _ this
  exact hR
 |_=>exact hR
section
variable {P:Ce} {o:Oper} {es:A8 Bd} {α β γ:Type}
def uO {ok:Nat->Prop} {w:BU} {H:A8 CP} {a:Act}:∀{xs:A8 CM} {vs:A8 Af},xs.length=vs.length->(∀n∈G7 xs vs,R ok w H n.2 (a.eval n.1))->∀i,i<vs.length->R ok w H (vs.getD i .junk) ((xs.map a.eval).getD i undef)
 | [],[],_,_,i,hi=>PV
 | [],_::_,h,_,_,_=>Ip
 |_::_,[],h,_,_,_=>Ip
 |x::xs,v::vs,h,j,0,_=>by simpa using j (x,v) (by simp[G7])
 |x::xs,v::vs,h,j,i+1,hi=>by
  have :=uO KY (fun n q=>j n (by simp[G7,q])) i Gs;simpa using this
def Vm {fn:Fn} {j:C9 CM} (q:A8 D) (hl:j.toList.length=q.length) (I:o.op=.makeFunc fn #[] j):CQ P o (G7 j.toList (q.map .d)) es (.d (.fn fn [] q)) es:=
 .pure fun ok H a w _ _ J=>by
  refine⟨.func fn #[] (j.map a.eval),by simp[execOp,I,Instr.makeFunc],.d _ _ (.fn fn [] q #[] _ rfl NG (fun i hi=>PV) (fun i hi=>?_))⟩;have z:=uO (xs:=j.toList) (vs:=q.map .d) NG J i Gs;have L:(q.map Af.d).getD i .junk=.d (q.getD i EO):=Nh
  have u:i<j.size:=by have :j.size=q.length:=NG
                      omega
  have M:(j.toList.map a.eval).getD i undef=(j.map a.eval).getD i undef:=by simp[List.getD,Array.getD,u]
  rw[L,M]at z;cases z with |d _ _ h=>exact h
def aQr {f:FuncId} {C:Ey} {ok:Nat->Prop} {H:A8 CP} {w:BU} (hm:E5 C ok H es w) {z:A8 D} {u:Af} (Z:Ed P f (z.map .d) [] u []) (q:C9 Au) (hs:q.size=z.length) (O:∀i,i<z.length->ES ok w (z.getD i EO) (q.getD i undef)) (J:u.up [] es.length=u):
 Calls P f q w fun e w'=>∃v ok' H',e=.returned v/\Et ok w ok' w'/\Names H H'/\E5 C ok' H' es w'/\R ok' w' H' u v:=by
 have U:E5 ⟨w,ok,[],[]⟩ ok [] [] w:=
  ⟨.refl _ _,fun _ h=>h,fun _ h=>.inl h,hm.kS,.refl _,rfl,fun k e h I _=>by simp at I,fun k e h b I=>by simp at I,fun k k' e e' h h' b I=>by simp at I⟩
 refine(Z ok [] [] w q U wH (fun i hi=>?_)).mono ?_
 ·have L:i<z.length:=Gs
  have e1:(z.map Af.d).getD i .junk=.d (z.getD i EO):=by simp[List.getD,L]
  rw[e1];exact .d _ _ (O i L)
 rintro e w' ⟨v,ok',H',rfl,j,hR⟩;have Y:H'=[]:=Hg j.hlen
 obtain⟨h1,h2⟩:=hm.change (ok':=ok') (H':=H) (es':=es) (w':=w') (fun _=>False) j.fr.os j.fr.tape j.fr.output j.fr.size (fun b M _=>j.fr.block b M Bh) (fun _ h=>h.elim) j.yY (fun b M=>by
  rcases j.yZ b M with h|h|h
  ·exact .inl h
  ·exact .inr ⟨h,j.kS b M⟩
  simp at h) (.refl _) hm.hlen (fun k e h I hh=>.inl ⟨I,hh,fun _ _ _ h=>h⟩)
 refine⟨v,ok',H,rfl,h2,.refl _,h1,?_⟩;have :=aXz (srcs:=[]) (H:=H) (Hc:=[]) (H':=H') rfl (fun i k h=>Ip) (fun k v O=>by simp at O) hR;rw[hm.hlen,J,Y]at this;simpa using this
def aSa {f:FuncId} {x:CM} {ops:C9 CM} {ats:C9 CG} (j cs:A8 D) {q:Af} (hr:Ed P f ((j++cs).map .d) [] q []) (hf:Hd P f=true) (hl:ops.toList.length=j.length) (J:q.up [] es.length=q)
 (ho:o.op=.call { callee:=.value x,args:=ops,argTypes:=ats }):CQ P o ((x,.d (.fn (.func f) [] cs))::G7 ops.toList (j.map .d)) es q es:=by
 intro C ok H a w Q hm hn;have O:=hn (x,.d (.fn (.func f) [] cs)) Bh;simp only at O;have z:=uO (xs:=ops.toList) (vs:=j.map .d) NG (fun n U=>hn n (IG _ U));generalize hv:a.eval x=v at O;cases O with
 |d _ _ h=>
  cases h with
  |fn _ _ _ vs us Y Z h1 h2=>
   have hvs:vs= #[]:=WT Vj;subst hvs;unfold Oper.wp
   have he:(execOp a.eval o).run P w=.ok (.enter f ((ops.map a.eval)++us)) w:=by
    have :=U9 hf (ops.map a.eval++us) w;simp[execOp,ho,resolve,hv,Deferred.ofValue,invoke,this]
   rw[he,dU];have L:(ops.map a.eval).size=j.length:=NG
   refine(aQr hm hr _ (by simp[L,Z]) (fun i hi=>?_) J).mono ?_
   ·by_cases u:i<j.length
    ·have M:=z i Vd;have e1:(j.map Af.d).getD i .junk=.d (j.getD i EO):=aO7
     have I:i<ops.size:=aXm
     have e2:(ops.toList.map a.eval).getD i undef=(ops.map a.eval++us).getD i undef:=by
      simp[List.getD,J8,YU,I]
     have e3:(j++cs).getD i EO=j.getD i EO:=by simp[List.getD,Hu u]
     rw[e1,e2]at M;rw[e3];cases M with |d _ _ h=>exact h
    have I:i-j.length<cs.length:=aNT
    have e3:(j++cs).getD i EO=cs.getD (i-j.length) EO:=by simp[List.getD,Kt (VU u)]
    have e4:(ops.map a.eval++us).getD i undef=us.getD (i-j.length) undef:=by
     simp only[J8];rw[aNo AB,L]
    rw[e3,e4];exact h2 _ I
   rintro e w' ⟨v,ok',H',rfl,M,h4,h5,h6⟩;exact⟨v,ok',H',rfl,M,h4,h5,h6⟩
def U2 (P:Ce) (j:α->D) (q:β->D) (d:D) (g:α->AL β):Prop:=∃f cs,d=.fn (.func f) [] cs/\Hd P f=true/\∀a b,g a=some b->Ed P f (([j a]++cs).map .d) [] (.d (q b)) []
def XH (P:Ce) (j:α->D) (q:β->D) (u:γ->D) (d:D) (g:α->β->AL γ):Prop:=∃f cs,d=.fn (.func f) [] cs/\Hd P f=true/\∀a b c,g a b=some c->Ed P f (([j a,q b]++cs).map .d) [] (.d (u c)) []
def zQ {x y:CM} {ats:C9 CG} {j:α->D} {q:β->D} {d:D} {g:α->AL β} {a:α} {b:β} (hd:U2 P j q d g) (h:g a=some b) (u:o.op=.call { callee:=.value x,args:= #[y],argTypes:=ats }):
 CQ P o [(x,.d d),(y,.d (j a))] es (.d (q b)) es:=by
 obtain⟨f,cs,rfl,z,I⟩:=hd;exact aSa [j a] cs (I a b h) z rfl rfl u
def Xv {x y z:CM} {ats:C9 CG} {j:α->D} {q:β->D} {u:γ->D} {d:D} {g:α->β->AL γ} {a:α} {b:β} {c:γ} (hd:XH P j q u d g) (h:g a b=some c) (I:o.op=.call { callee:=.value x,args:= #[y,z],argTypes:=ats }):
 CQ P o [(x,.d d),(y,.d (j a)),(z,.d (q b))] es (.d (u c)) es:=by
 obtain⟨f,cs,rfl,J,L⟩:=hd;exact aSa [j a,q b] cs (L a b c h) J rfl rfl I
end
section
variable {P:Ce} {o:Oper} {es:A8 Bd}
def aEo {ns:A8 (CM×Af)} {v:Af} {es':A8 Bd} (e:CG) (size:Nat) (h:CQ P o ((.const (.slice none 0 0),.aO es.length)::ns) (es++[.arr e size []]) v es'):CQ P o ns es v es':=by
 intro C ok H a w Q hm z;obtain⟨I,J⟩:=aFt hm e size;refine Oper.wp_mono ?_ (h C ok _ a w Q I (fun n j=>?_))
 ·rintro a' w' ⟨v',ok',H',L,M,q,u,O⟩;exact⟨v',ok',H',L,M,(Ho _ _).trans q,u,O⟩
 rcases FK.1 j with rfl|j
 ·exact J
 exact(z n j).mono (.refl _ _) (Ho _ _)
def R.ahS {ok:Nat->Prop} {w:BU} {H:A8 CP} {us:A8 Au} {v:Au} (h:R ok w H (.d (.agg (us.map .lit))) v):v=.agg us.toArray:=by
 cases h with
 |d _ _ h=>
  cases h with
  |agg _ vs hl _ h=>
   congr 1;apply iH
   ·simpa using hl
   intro i z L;have hi:i<(us.map D.lit).length:=AB
   have j:=h i hi;have q:i<us.length:=Gs
   have I:(us.map D.lit).getD i EO=.lit (us[i]):=by simp[List.getD,q]
   have J:vs.getD i undef=vs[i]:=by simp[Array.getD,z]
   rw[I,J]at j;generalize vs[i]=u at j;cases j;simp
structure kD (P:Program) (n:Nat) (t:TypeId) (us vs:List Value) (b:Bool):Prop where
 run:∀(d:Nat) (w:World),(Op.equalIn (d+n) t (.agg us.toArray) (.agg vs.toArray)).run P w=.ok b w
def Nl {t:CG} {cs:C9 Au} {off:Nat} {v:Au} {size:Nat} (j:Em P t false size) (h:cs[off]? =some v) (w:BU):(part t cs off).run P w=.ok v w:=by
 simp[part,j.agg,h]
def X5 (d:Nat) (xs ys:C9 Au):A8 (CG×Nat)->Sem AZ
 | []=>pure true
 |f::j=>do
  let a ←part f.1 xs f.2
  let b ←part f.1 ys f.2
  let r ←Op.equalIn d f.1 a b
  if(!r)=true then pure false else X5 d xs ys j
def aTU (d:Nat) (xs ys:C9 Au):∀(j:A8 Field),j.all (fun f=>f.name != "_")=true->Op.eqFields d xs ys j=X5 d xs ys (j.map fun f=>(f.type,f.offset))
 | [],_=>rfl
 |f::j,h=>by
  simp only[yE,Du,Uz,ne_eq]at h;simp only[Op.eqFields,JR,X5,ne_eq,h.1,not_false_eq_true,Ku,aTU d xs ys j h.2]
def a0F {d:Nat} {t:CG} {xs ys:C9 Au} {l:A8 (CG×Nat)} {b:AZ} {w:BU} (ht:P.underlying t=some (.struct (P.fieldsOf t))) (hp:P.stoodInHeld t=false) (j:(P.fieldsOf t).toList.all (fun f=>f.name != "_")=true)
 (hl:(P.fieldsOf t).toList.map (fun f=>(f.type,f.offset))=l) (h:(X5 d xs ys l).run P w=.ok b w):(Op.equalIn (d+1) t (.agg xs) (.agg ys)).run P w=.ok b w:=by
 rw[run_equalIn_struct w d t xs ys ht hp,aTU _ _ _ _ j,hl,h]
def aF2 (d:Nat) (xs ys:C9 Au) (w:BU):(X5 d xs ys []).run P w=.ok true w:=by simp[X5]
def WM {d:Nat} {xs ys:C9 Au} {t:CG} {off:Nat} {j:A8 (CG×Nat)} {a b:Au} {r rs:AZ} {w:BU} (ha:(part t xs off).run P w=.ok a w) (q:(part t ys off).run P w=.ok b w)
 (u:(Op.equalIn d t a b).run P w=.ok r w) (hs:(X5 d xs ys j).run P w=.ok rs w):(X5 d xs ys ((t,off)::j)).run P w=.ok (r&&rs) w:=by
 unfold X5;simp only[G6,ha,q,u,GY];cases r<;>simp[hs]
def anb {t t':CG} {x y:CM} {n:Nat} (us vs:A8 Au) {b:AZ} (h:kD P n t us vs b) (hd:n<=10000) (I:P.eqGuardType P.depth t=false) (J:o.op=.binOp .eql t x y t'):
 CQ P o [(x,.d (.agg (us.map .lit))),(y,.d (.agg (vs.map .lit)))] es (.d (EY b)) es:=
 .pure fun _ _ a w _ _ q=>⟨.bool b,by
  have u:=(FI q).1.ahS;have z:=(FI q).2.ahS;simp only at u z;have j:(eqGuard .eql t x y (.agg us.toArray) (.agg vs.toArray)).run P w=.ok () w:=by simp[eqGuard,I]
  simp only[execOp,J,u,z,G6,j,GY,Gy,run_eql_struct,(by have :=h.run (10000-n) w;rwa [Nat.sub_add_cancel hd]at this:(Op.equalIn 10000 t (.agg us.toArray) (.agg vs.toArray)).run P w=.ok b w)],.d _ _ (.lit _)⟩
def aGH {t t':CG} {x y:CM} {n:Nat} (us vs:A8 Au) {b:AZ} (h:kD P n t us vs b) (hd:n<=10000) (I:P.eqGuardType P.depth t=false) (J:o.op=.binOp .neq t x y t'):
 CQ P o [(x,.d (.agg (us.map .lit))),(y,.d (.agg (vs.map .lit)))] es (.d (EY (!b))) es:=
 .pure fun _ _ a w _ _ q=>⟨.bool (!b),by
  have u:=(FI q).1.ahS;have z:=(FI q).2.ahS;simp only at u z;have j:(eqGuard .neq t x y (.agg us.toArray) (.agg vs.toArray)).run P w=.ok () w:=by simp[eqGuard,I]
  simp only[execOp,J,u,z,G6,j,GY,Gy,run_neq_struct,(by have :=h.run (10000-n) w;rwa [Nat.sub_add_cancel hd]at this:(Op.equalIn 10000 t (.agg us.toArray) (.agg vs.toArray)).run P w=.ok b w)],.d _ _ (.lit _)⟩
def QJ (l:A8 Int):BD:=l.foldl (fun r n=>r.push (UInt8.ofNat n.toNat)) ByteArray.empty
def ahb {ok:Nat->Prop} {w:BU} {H:A8 CP} {l:A8 Int} {j:A8 Au} (h:Fj ok w H (flat (l.map Dn)) j):j=l.map (.int .u8):=by
 rw[a1q]at h;apply wG
 ·simpa using h.1
 intro i z I;have hi:i<(l.map fun n=>Af.d (Dn n)).length:=UR
 have u:=(h.2 i hi).2;have q:i<l.length:=Gs
 have J:(l.map fun n=>Af.d (Dn n)).getD i .junk=.d (Dn l[i]):=by simp[List.getD,q]
 have L:j.getD i undef=j[i]:=by simp[List.getD,z]
 rw[J,L]at u;have :=u.lit;simpa using this
def aYj {w:BU} {v:Au} {m:Nat} {l:A8 Int} (h:Yy w v m 1 (l.map (.int .u8))):(Conv.bytesToString v).run P w=.ok (.string (QJ l)) w:=by
 rcases h.at_ with⟨ad,c,rfl,j⟩|⟨c,rfl,hm⟩
 ·refine run_bytesToString w ad m c l ?_;have hl:=h.len;have :=run_loadCells_list (P:=P) w ad (l.map (Value.int .u8)) j;rw[Dc,aH]at hl;rw[Dc,hl]at this;exact this
 have hl:=h.len;rw[hm,Nat.zero_mul,Dc]at hl;rw[Hg hl];simp[Conv.bytesToString,QJ]
def Value.isSlice:Au->AZ
 | .slice _ _ _=>true
 |_=>false
def ai2 {w:BU} {v:Au} {m size:Nat} {j:A8 Au} (h:Yy w v m size j):Value.isSlice v=true:=by
 rcases h.at_ with⟨_,_,rfl,_⟩|⟨_,rfl,_⟩<;>rfl
def aj3 {s t e:CG} {v:Au} {w:BU} {r:BD} (hs:P.underlying s=some (.slice e)) (j:P.underlying e=some (.int .u8)) (ht:P.underlying t=some .string) (q:Value.isSlice v=true)
 (h:(Conv.bytesToString v).run P w=.ok (.string r) w):(convert s t v).run P w=.ok (.string r) w:=by
 cases v<;>simp[Value.isSlice]at q
 simp[convert,underlying,hs,j,ht,h]
def aY3 {s t e:CG} {x:CM} {l:A8 Int} (hs:P.underlying s=some (.slice e)) (J:P.underlying e=some (.int .u8)) (ht:P.underlying t=some .string) (L:o.op=.convert s t x):
 CQ P o [(x,.d (Bo Dn l))] es (.d (DV (QJ l))) es:=
 .pure fun ok H a w _ _ M=>by
  have q:=LV M;simp only at q;generalize O:a.eval x=v at q;refine⟨.string (QJ l),?_,.d _ _ (.lit _)⟩;cases q with
  |d _ _ h=>
   obtain⟨I,j,u⟩:=bn H h (size:=1) (fun y U=>by obtain⟨n,_,rfl⟩:=Fh.1 U;rfl);obtain rfl:=ahb u;have z:=ai2 j;simp[execOp,L,O,aj3 hs J ht z (aYj j)]
def Qb {fn:Fn} {firsts j:C9 CM} {fi ca:A8 Af} (hl:firsts.toList.length=fi.length) (hm:j.toList.length=ca.length) (I:o.op=.makeFunc fn firsts j):
 CQ P o (G7 firsts.toList fi++G7 j.toList ca) es (.fn fn fi ca) es:=
 .pure fun ok H a w _ _ q=>by
  have key:∀(xs:C9 CM) (vs:A8 Af),xs.toList.length=vs.length->(∀n∈G7 xs.toList vs,R ok w H n.2 (a.eval n.1))->∀i,i<vs.length->R ok w H (vs.getD i .junk) ((xs.map a.eval).getD i undef):=by
   intro xs vs hl q i hi;have z:=uO hl q i hi
   have u:i<xs.size:=by have :xs.size=vs.length:=NG
                        omega
   have J:(xs.toList.map a.eval).getD i undef=(xs.map a.eval).getD i undef:=by simp[List.getD,Array.getD,u]
   rw[J]at z;exact z
  refine⟨.func fn (firsts.map a.eval) (j.map a.eval),by simp[execOp,I,Instr.makeFunc],.fn fn fi ca _ _ NG (by simpa using hm) (key _ _ hl fun n h=>q n (by simp[h])) (key _ _ hm fun n h=>q n (by simp[h]))⟩
def aHi :∀{xs:A8 CM} {vs:A8 Af} {ys:A8 CM} {us:A8 Af},xs.length=vs.length->G7 (xs++ys) (vs++us)=G7 xs vs++G7 ys us
 | [],[],_,_,_=>rfl
 | [],_::_,_,_,h=>Ip
 |_::_,[],_,_,h=>Ip
 |x::xs,v::vs,ys,us,h=>by simp[G7,aHi (xs:=xs) (vs:=vs) KY]
def aLF {ok:Nat->Prop} {w:BU} {H:A8 CP} {a:Act}:∀{us:A8 Au} {vs:A8 Af},us.length=vs.length->(∀i,i<vs.length->R ok w H (vs.getD i .junk) (us.getD i undef))->∀n∈G7 (us.map Operand.const) vs,R ok w H n.2 (a.eval n.1)
 | [],[],_,_,n,j=>by simp[G7]at j
 | [],_::_,h,_,_,_=>Ip
 |_::_,[],h,_,_,_=>Ip
 |u::us,v::vs,hl,h,n,j=>by
  simp only[JR,G7,FK]at j;rcases j with rfl|j
  ·have :=h 0 Bh;simp at this;exact this
  exact aLF (us:=us) (vs:=vs) NG (fun i hi=>by simpa using h (i+1) Gs) n j
def aU1 {f:FuncId} {x:CM} {ops:C9 CM} {ats:C9 CG} (srcs:A8 EU) {fi ca eH fH:A8 Af} {E E':A8 Bd} {u:Af} (L:Ed P f fH E u E') (M:Hd P f=true) (O:TN srcs es E E'=true) (hE:uo srcs es E)
 (ha:Nb srcs (fi++eH++ca) fH) (hl:ops.toList.length=eH.length) (U:o.op=.call { callee:=.value x,args:=ops,argTypes:=ats }):
 CQ P o ((x,.fn (.func f) fi ca)::G7 ops.toList eH) es (u.up srcs es.length) (MW srcs es E'):=by
 intro C ok H a w Q hm J;have I:=J (x,.fn (.func f) fi ca) Bh;simp only at I;generalize Y:a.eval x=v at I;cases I with
 |fn _ _ _ vs us q z Z h2=>
  unfold Oper.wp
  have he:(execOp a.eval o).run P w=.ok (.enter f ((vs++ops.map a.eval)++us)) w:=by
   have :=U9 M (vs++ops.map a.eval++us) w;rw[Array.append_assoc]at this;simp[execOp,U,resolve,Y,Deferred.ofValue,invoke,this]
  rw[he,dU]
  have e:vs++ops.map a.eval++us=((vs.toList.map Operand.const++ops.toList++us.toList.map Operand.const).map a.eval).toArray:=by
   apply aGS;simp[xM,Act.eval]
  rw[e];have l1:(vs.toList.map Operand.const).length=fi.length:=OQ
  refine(aQo hm srcs L O hE ha (by simp at hl;simp[q,z,hl]) (a:=a) ?_).mono ?_
  ·rw[aHi (by simp at hl;simp[q,hl]),aHi l1];intro n j;simp only[Iy]at j;rcases j with(j|j)|j
   ·exact aLF OQ (fun i hi=>by have :=Z i hi;simpa[List.getD,J8]using this) n j
   ·exact J n (IG _ j)
   exact aLF N8 (fun i hi=>by have :=h2 i hi;simpa[List.getD,J8]using this) n j
  rintro e w' ⟨v,ok',H',rfl,h3,h4,h5,h6⟩;exact⟨v,ok',H',rfl,h3,h4,h5,h6⟩
def R.dfn {ok:Nat->Prop} {w:BU} {H:A8 CP} {f:Fn} {fi ca:A8 D} {v:Au} (h:R ok w H (.d (.fn f fi ca)) v):R ok w H (.fn f (fi.map .d) (ca.map .d)) v:=by
 cases h with
 |d _ _ h=>
  cases h with
  |fn _ _ _ vs us u z I J=>
   refine .fn f _ _ vs us Vd N8 (fun i hi=>?_) (fun i hi=>?_)
   ·have j:i<fi.length:=Gs
    have q:(fi.map Af.d).getD i .junk=.d (fi.getD i EO):=by simp[List.getD,j]
    rw[q];exact .d _ _ (I i j)
   have j:i<ca.length:=Gs
   have q:(ca.map Af.d).getD i .junk=.d (ca.getD i EO):=by simp[List.getD,j]
   rw[q];exact .d _ _ (J i j)
def ade {f:FuncId} {x:CM} {ops:C9 CM} {ats:C9 CG} (srcs:A8 EU) {fi ca:A8 D} {eH fH:A8 Af} {E E':A8 Bd} {q:Af} (z:Ed P f fH E q E') (I:Hd P f=true) (J:TN srcs es E E'=true) (hE:uo srcs es E)
 (ha:Nb srcs (fi.map .d++eH++ca.map .d) fH) (hl:ops.toList.length=eH.length) (L:o.op=.call { callee:=.value x,args:=ops,argTypes:=ats }):
 CQ P o ((x,.d (.fn (.func f) fi ca))::G7 ops.toList eH) es (q.up srcs es.length) (MW srcs es E'):=by
 intro C ok H a w Q hm u;refine aU1 (fi:=fi.map .d) (ca:=ca.map .d) srcs z I J hE ha hl L C ok H a w Q hm (fun n j=>?_);rcases FK.1 j with rfl|j
 ·exact R.dfn (u (x,.d (.fn (.func f) fi ca)) Bh)
 exact u n (IG _ j)
def RG (S:A8 EU) (es:A8 Bd):A8 EU->A8 Bd->Prop
 |s::srcs,e::E=>(match s with | .ent k=>es[k]? =some (e.up S es.length)| .nil sz=>∃t,e=.arr t sz [])/\RG S es srcs E
 | [],_=>True
 |_::_,[]=>False
def Qy {S:A8 EU} {es:A8 Bd} {k:Nat} {e:Bd} {srcs:A8 EU} {E:A8 Bd} (h:es[k]? =some (e.up S es.length)) (hs:RG S es srcs E):RG S es (.ent k::srcs) (e::E):=⟨h,hs⟩
def adR {S:A8 EU} {es:A8 Bd} {sz t:Nat} {srcs:A8 EU} {E:A8 Bd} (hs:RG S es srcs E):RG S es (.nil sz::srcs) (.arr t sz []::E):=⟨⟨t,rfl⟩,hs⟩
def aU0 {S:A8 EU} {es:A8 Bd}:∀{srcs:A8 EU} {E:A8 Bd},RG S es srcs E->∀(i:Nat) (s:EU),srcs[i]? =some s->match s with | .ent k=>(E[i]?).map (Bd.up S es.length)=es[k]? | .nil sz=>∃e,E[i]? =some (.arr e sz [])
 | [],_,_,i,s,hs=>by simp at hs
 |_::_,[],h,_,_,_=>h.elim
 |s::srcs,e::E,h,0,j,hs=>by
  simp at hs;subst hs;have q:=h.1;cases s with
  |ent k=>simp only at q;simp[q]
  |nil sz=>obtain⟨t,rfl⟩:=q;exact⟨t,rfl⟩
 |s::srcs,e::E,h,i+1,j,hs=>by
  have :=aU0 h.2 i j wH;cases j with
  |ent k=>simpa using this
  |nil sz=>simpa using this
def aFo {es:A8 Bd} {srcs:A8 EU} {E:A8 Bd} (h:RG srcs es srcs E):uo srcs es E:=aU0 h
def ajq {f:FuncId} {ops:C9 CM} {ats:C9 CG} (srcs:A8 EU) {eH fH:A8 Af} {E E':A8 Bd} {j res':Af} (q:Ed P f fH E j E') (u:Hd P f=true) (z:TN srcs es E E'=true) (hE:RG srcs es srcs E) (ha:Nb srcs eH fH) (hl:ops.toList.length=eH.length)
 (I:res'=j.up srcs es.length) (J:o.op=.call { callee:=.value (.func f),args:=ops,argTypes:=ats }):CQ P o (G7 ops.toList eH) es res' (MW srcs es E'):=I▸aP3 srcs q u z (aFo hE) ha hl J
def adC {f:FuncId} {x:CM} {ops:C9 CM} {ats:C9 CG} (srcs:A8 EU) (fi ca:A8 Af) {eH fH:A8 Af} {E E':A8 Bd} {j res':Af} (q:Ed P f fH E j E') (u:Hd P f=true) (z:TN srcs es E E'=true) (hE:RG srcs es srcs E)
 (ha:Nb srcs (fi++eH++ca) fH) (hl:ops.toList.length=eH.length) (I:res'=j.up srcs es.length) (J:o.op=.call { callee:=.value x,args:=ops,argTypes:=ats }):
 CQ P o ((x,.fn (.func f) fi ca)::G7 ops.toList eH) es res' (MW srcs es E'):=I▸aU1 srcs q u z (aFo hE) ha hl J
def amA {f:FuncId} {x:CM} {ops:C9 CM} {ats:C9 CG} (srcs:A8 EU) (fi ca:A8 D) {eH fH:A8 Af} {E E':A8 Bd} {j res':Af} (q:Ed P f fH E j E') (u:Hd P f=true) (z:TN srcs es E E'=true) (hE:RG srcs es srcs E)
 (ha:Nb srcs (fi.map .d++eH++ca.map .d) fH) (hl:ops.toList.length=eH.length) (I:res'=j.up srcs es.length) (J:o.op=.call { callee:=.value x,args:=ops,argTypes:=ats }):
 CQ P o ((x,.d (.fn (.func f) fi ca))::G7 ops.toList eH) es res' (MW srcs es E'):=I▸ade srcs q u z (aFo hE) ha hl J
end
structure Turns (v:Value) (w w':World):Prop where
 os:w'.os=w.os
 tape:w'.tape=w.tape
 output:w'.output=w.output
 size:w.heap.size<=w'.heap.size
 block:∀c,c<w.heap.size->EK v≠some c->w'.heap[c]? =w.heap[c]?
def Turns.refl (v:Au) (w:BU):Turns v w w:=⟨rfl,rfl,rfl,EZ _,fun _ _ _=>rfl⟩
def Turns.aBw {g o n c:Nat} {s:AL Nat} {w w':BU} (h:w.grownBy w' (some g)):Turns (.slice (some ⟨g,o,s⟩) n c) w w':=
 ⟨h.os,h.tape,h.output,h.size,fun k q j=>h.block k q (fun e=>j (by cases e;rfl))⟩
def ES.ahT {ok:Nat->Prop} {w:BU} {u v:Au} (h:ES ok w (.lit u) v):v=u:=by cases h;rfl
def aHT :∀(l:A8 Int),flat (l.map Ae)=l.map fun n=>.d (Ae n)
 | []=>rfl
 |n::l=>by rw[JR,Y0,aHT l];rfl
def aBF {ok:Nat->Prop} {w:BU} {H:A8 CP} {h:CP} {e:CG} {l:A8 Int}:FY ok w H h (.arr e 1 (List.map Ae l))↔h.size=1/\oq w e 1 h.v l.length (l.map (.int .i64)):=by
 constructor
 ·rintro⟨u,_,xs,q,z,I⟩;refine⟨u,?_⟩;rw[Dc]at q
  have :xs=l.map (.int .i64):=by
   rw[aHT]at z I;rw[Dc]at z;refine wG (by simp[z]) fun i hi M=>?_;have j:i<l.length:=AB
   have J:=(I i WV).2;simp only[List.getD,Jg,EL j,JQ,Oq,EL hi]at J;cases J with |d _ _ h=>rw[ES.ahT h];simp
  rw[←this];exact q
 rintro⟨u,q⟩;refine⟨u,fun x L=>?_,l.map (.int .i64),by rw[Dc];exact q,?_⟩
 ·obtain⟨n,_,rfl⟩:=Fh.1 L;rfl
 rw[aHT];refine⟨Bh,fun i hi=>?_⟩;have j:i<l.length:=Gs
 simp only[List.getD,Jg,EL j,JQ,Oq];exact⟨rfl,.d _ _ (.lit _)⟩
def aRp {j:C9 Au} (hs:j.size=1):j= #[j.getD 0 undef]:=by
 refine iH (by simp[hs]) fun i u q=>?_;simp at q;subst q;simp[Array.getD,hs]
def Ed.aDE {P:Ce} {f:FuncId} {e:CG} {l r:A8 Int}
 (h:∀(v:Au) (w:BU),oq w e 1 v l.length (l.map (.int .i64))->Calls P f #[v] w fun x w'=>x=.returned (.tuple #[])/\oq w' e 1 v r.length (r.map (.int .i64))/\Turns v w w'):
 Ed P f [.aO 0] [.arr e 1 (List.map Ae l)] (.fC []) [.arr e 1 (List.map Ae r)]:=by
 intro ok X H w Y hm hs ha;have h0:=ha 0 Bj;rw[aRp hs];obtain⟨hd,L,M⟩:=Hl hm.ent hm.hlen (k:=0) rfl;obtain hv:=QU h0 L;rw[hv];obtain⟨hz,O⟩:=aBF.1 M;refine(h hd.v w O).mono ?_;rintro x w' ⟨rfl,z,ht⟩;have q:=fun b I=>hm.blk 0 _ hd b rfl rfl L I
 have hg:=hm.change (ok':=ok) (H':=H) (w':=w') (es':=[.arr e 1 (List.map Ae r)]) (fun c=>EK hd.v=some c) ht.os ht.tape ht.output ht.size ht.block (fun c Z _=>⟨(q c Z).1,(q c Z).2.2⟩) (fun _ h=>h) (fun _ h=>.inl h) (.refl _) hm.hlen (by
  intro k e' h' j J
  match k,j with
  |0,j=>
   simp at j;subst j;rw[L]at J;obtain rfl:=Dq J;refine .inr ⟨aBF.2 ⟨hz,z⟩,fun _ b I=>⟨(q b I).1,Ur (q b I).2.1 ht.size,(q b I).2.2,fun k' e'' h'' U u=>?_⟩⟩
   match k',u with
   |0,_=>exact absurd rfl U
   |k'+1,u=>simp at u
  |k+1,j=>simp at j)
 exact⟨_,ok,H,rfl,hg.1,.fC [] #[] rfl (fun i hi=>PV)⟩
def Ed.turned {P:Ce} {f:FuncId} {e:CG} {l r:A8 Int}
 (h:∀(v:Au) (w:BU),oq w e 1 v l.length (l.map (.int .i64))->Calls P f #[v] w fun x w'=>∃v',x=.returned v'/\oq w' e 1 v' r.length (r.map (.int .i64))/\Turns v w w'/\∀g,EK v'=some g->EK v=some g\/w.heap.size<=g):
 Ed P f [.aO 0] [.arr e 1 (List.map Ae l)] (.aO 1) [.dead,.arr e 1 (List.map Ae r)]:=by
 intro ok X H w J hm hs ha;have O:=ha 0 Bj;rw[aRp hs];obtain⟨hd,L,z⟩:=Hl hm.ent hm.hlen (k:=0) rfl;obtain U:=QU O L;rw[U];obtain⟨Y,I⟩:=aBF.1 z;refine(h hd.v w I).mono ?_;rintro x w' ⟨v',rfl,j,ht,q⟩;have u:=hm.turn (e:=.arr e 1 (List.map Ae r)) (h':=⟨v',1⟩) (w':=w') (k:=0) rfl rfl L ht.os ht.tape ht.output ht.size ht.block (fun g u=>⟨aDV j u,q g u⟩) (fun _=>aBF.2 ⟨rfl,j⟩);refine⟨v',ok,H++[⟨v',1⟩],rfl,u.1,?_⟩;have hl:H.length=1:=hm.hlen;have M:(H++[(⟨v',1⟩:CP)])[1]? =some ⟨v',1⟩:=by rw[←hl];simp
 rcases j.2 with⟨rfl,_⟩|⟨g,cap,cur,rfl,_⟩
 ·exact .aO 1 _ _ _ 1 M
 exact .aO 1 _ _ _ 1 M
def Ed.plain {P:Ce} {f:FuncId} {vs:A8 Au} {j:Af} {v:Au} (M:∀ok w H,R ok w H j v)
 (h:∀w,Calls P f vs.toArray w fun x w'=>x=.returned v/\Below w.heap.size w w'):Ed P f (vs.map fun u=>.d (.lit u)) [] j []:=by
 intro ok X H w q hm hs ha
 have e:q=vs.toArray:=by
  refine iH wH fun i O U=>?_;have z:i<vs.length:=aBj
  have L:=ha i N8;simp only[List.getD,Jg,EL z,JQ,Oq]at L;cases L with |d _ _ h=>have :=ES.ahT h;simpa[Array.getD,O]using this
 rw[e];refine(h w).mono ?_;rintro x w' ⟨rfl,I⟩
 have Y:=hm.change (ok':=ok) (H':=H) (w':=w') (es':=[]) (fun _=>False) I.os I.tape I.output I.size (fun c Z _=>I.block c Z) (fun _ h=>h.elim) (fun _ h=>h) (fun _ h=>.inl h) (.refl _) hm.hlen (by
  intro k e' h' J hh'
  simp at J)
 exact⟨v,ok,H,rfl,Y.1,M _ _ _⟩
def Chain.azR {P:Ce} {ops:C9 Oper} {l O:A8 Oper} {σ σ':BO} (h:Chain P ops l σ σ') {ro:AL Nat} {C:Ey} {H0:A8 CP} {Q:Exit->Act->BU->Prop}:
 ∀{ok:Nat->Prop} {H:A8 CP} {a:Act} {w:BU},Holds C ok H σ a w->Names H0 H->(∀ok' H' a' w',Holds C ok' H' σ' a' w'->Names H0 H'->wpListIn (JO ro) 0 P ops Q O a' w')->wpListIn (JO ro) 0 P ops Q (l++O) a w:=by
 induction h with
 |nil σ=>intro ok H a w j U z;exact z ok H a w j U
 | @op o rest σ σ' ns x d Y U L hd k M=>
   intro ok H a w j q z;subst hd;rw[aF];unfold wpListIn;rw[Di (Qe j L)];refine S9 ?_ (Y.inR ro C ok H a w Q j.mem (fun n I=>RX U n I▸j.get n.1));rintro a' w' ⟨v,ok',H',rfl,J,u,hm,Z⟩;exact M (j.put o.dst J u hm Z) (q.trans u) z
 | @oe o rest σ σ' ns x es' d E Y he U L hd k M=>
   intro ok H a w j q z;subst hd;subst he;rw[aF];unfold wpListIn;rw[Di (Qe j L)];refine S9 ?_ (Y.inR ro C ok H a w Q j.mem (fun n I=>RX U n I▸j.get n.1));rintro a' w' ⟨v,ok',H',rfl,J,u,hm,Z⟩;exact M (j.put o.dst J u hm Z) (q.trans u) z
 | @skip o rest σ σ' d L hd k M=>
   intro ok H a w j q z;subst hd;rw[aF];unfold wpListIn;rw[Dp kZ];exact⟨fun _ _=>trivial,M (j.put o.dst (.refl _ _) (.refl _) j.mem (.d _ _ (.lit _))) q z⟩
 | @any o rest σ σ' x d hs hd k M=>
   intro ok H a w j q z;subst hd;rw[aF];unfold wpListIn;rcases hs.1 with⟨ns,Y,U,_,L⟩|⟨rfl,_,L⟩
   ·rw[Di (Qe j L)];refine S9 ?_ (Y.inR ro C ok H a w Q j.mem (fun n I=>RX U n I▸j.get n.1));rintro a' w' ⟨v,ok',H',rfl,J,u,hm,Z⟩;exact M (j.put o.dst J u hm Z) (q.trans u) z
   rw[Dp kZ];exact⟨fun _ _=>trivial,M (j.put o.dst (.refl _ _) (.refl _) j.mem (.d _ _ (.lit _))) q z⟩
 | @ahM o rest σ σ' x E bar d hs hd k M=>
   intro ok H a w j q z;subst hd;rw[aF];unfold wpListIn;rcases hs.1 with⟨ns,Y,U,_,L⟩|⟨rfl,rfl,L⟩
   ·rw[Di (Qe j L)];refine S9 ?_ (Y.inR ro C ok H a w Q j.mem (fun n I=>RX U n I▸j.get n.1));rintro a' w' ⟨v,ok',H',rfl,J,u,hm,Z⟩;exact M (j.put o.dst J u hm Z) (q.trans u) z
   rw[Dp kZ];exact⟨fun _ _=>trivial,M (j.put o.dst (.refl _ _) (.refl _) j.mem (.d _ _ (.lit _))) q z⟩
 |conv σ2 hc k M=>
  intro ok H a w j q z;obtain⟨ok',hh'⟩:=hc C ok H a w j;exact M hh' q z
def Bv.ax8 {P:Ce} {σ I:BO} {Q:Exit->BO->Prop} {id:Nat} {ops:C9 Oper} {q:Oper} {x:CM} {t t' e d:Nat} {es:A8 D} (k:Nat) (j:ops.toList.drop k=[q]) (h:Chain P ops (ops.toList.take k) σ I)
 (O:q.op=.binOp .eql t x (.const (.slice none 0 0)) t') (hd:q.dst=some d) (U:q.guard=none) (ht:P.underlying t=some (.slice e)) (Y:I.get x=.d (.sl es)) (Z:∀b,(es≠[]->b=false)->Q .normal (I.sG (some d) (.d (.lit (.bool b))))):Bv P (.region id ops false) σ Q:=by
 refine⟨fun ro _ C ok H a w hh=>aRJ ?_⟩;rw[←Rs k ops.toList,j];refine h.azR hh (.refl H) fun ok' H' a' w' J _=>?_;have z:=Y▸J.get x
 obtain⟨b,hb,hr⟩:∃b,(es≠[]->b=false)/\(execOp a'.eval q).run P w'=.ok (.value (.bool b)) w':=by
  cases z with
  |d _ _ z=>
   generalize u:a'.eval x=v at z
   have key:∀(ad:AL Addr) (n c:Nat),v=.slice ad n c->(execOp a'.eval q).run P w'=.ok (.value (.bool ad.isNone)) w':=fun ad n c L=>by
    have M:(eqGuard .eql t x (.const (.slice none 0 0)) (.slice ad n c) (.slice none 0 0)).run P w'=.ok () w':=by simp[eqGuard]
    have e0:a'.eval (.const (.slice none 0 0))=.slice none 0 0:=rfl;rw[L]at u;simp only[execOp,O,u,e0,G6,M,GY,Lib.run_eql_slice_nil w' t e ad n c 0 0 ht,Gy]
   cases z with
   |sl0 ad cap=>exact⟨ad.isNone,fun h=>absurd rfl h,key _ _ _ rfl⟩
   |sl es b off cap size=>exact⟨false,fun _=>rfl,key _ _ _ rfl⟩
 unfold wpListIn;rw[Di (by unfold Region.wanted;rw[U])];unfold Oper.wpIn;rw[mJ _ _ _ (by rw[O];intro c h;cases h),hr,Oper.uponIn_value];refine⟨fun _ _=>trivial,?_⟩;unfold wpListIn;exact⟨ok',H',_,by rw[hd];exact J.put (some d) (.refl _ _) (.refl _) J.mem (.d _ _ (.lit _)),Z b hb⟩
def aAd {P:Ce} {σ u:BO} {Q:Exit->BO->Prop} {id:Nat} {ops:C9 Oper} {y:Code} {q:Oper} {x:CM} {t t' e d:Nat} {es:A8 D} (k:Nat) (j:ops.toList.drop k=[q]) (h:Chain P ops (ops.toList.take k) σ u)
 (I:q.op=.binOp .eql t x (.const (.slice none 0 0)) t') (hd:q.dst=some d) (J:q.guard=none) (ht:P.underlying t=some (.slice e)) (L:u.get x=.d (.sl es)) (M:∀b,(es≠[]->b=false)->Bv P y (u.sG (some d) (.d (.lit (.bool b)))) Q):Bv P (.seq (.region id ops false) y) σ Q:=
 Bv.seq (fun s=>∃b,(es≠[]->b=false)/\s=u.sG (some d) (.d (.lit (.bool b)))) (Bv.ax8 k j h I hd J ht L fun b z=>⟨b,z,rfl⟩) (by rintro _ ⟨b,z,rfl⟩;exact M b z)
def aAs {α:Type} {l:A8 α} {e:α->D} (h:List.map e l≠[]->true=false):l=[]:=by
 cases l with
 |nil=>rfl
 |cons a l=>exact absurd (h Bh) Bj
def aVV {α:Type} {p:Nat->α->Prop}:∀n,(∀i,i<n->∃x,p i x)->∃l:A8 α,l.length=n/\∀i (h:i<l.length),p i l[i]
 |0,_=>⟨[],rfl,fun i h=>Ip⟩
 |n+1,h=>by
  obtain⟨l,j,q⟩:=aVV n (fun i hi=>h i AB);obtain⟨x,u⟩:=h n AB;refine⟨l++[x],by simp[j],fun i hi=>?_⟩;simp at hi;by_cases e:i<l.length
  ·rw[aIv e];exact q i e
  have :i=n:=AB
  subst this;rw[aPg AB];simpa[j]using u
def pieces :A8 Nat->Nat->A8 Au->A8 Au
 | [],_,_=>[]
 |n::r,o,cs=>(cs.drop o).take n++pieces r (o+n) cs
def pieces_eq :∀(ns:A8 Nat) (o:Nat) (cs:A8 Au),cs.length=o+ns.sum->pieces ns o cs=cs.drop o
 | [],o,cs,h=>by simp at h;simp[pieces,h]
 |n::r,o,cs,h=>by
  simp only[List.sum_cons]at h;unfold pieces;rw[pieces_eq r (o+n) cs AB,←aKM,Rs]
def DY (w:BU) (q:A8 D) (cs:A8 Au):Prop:=cs.length=q.length/\∀j,j<q.length->(q.getD j EO).leaf=true/\ES (fun b=>b<w.heap.size) w (q.getD j EO) (cs.getD j undef)
def DY.nil (w:BU):DY w [] []:=⟨rfl,fun j h=>Ip⟩
def DY.append {w:BU} {q es:A8 D} {cs us:A8 Au} (h:DY w q cs) (k:DY w es us):DY w (q++es) (cs++us):=by
 refine⟨by simp[h.1,k.1],fun j J=>?_⟩;by_cases e:j<q.length
 ·have u:(q++es).getD j EO=q.getD j EO:=aMG
  have z:(cs++us).getD j undef=cs.getD j undef:=by simp[List.getD,Hu (show j<cs.length by rw[h.1];exact e)]
  rw[u,z];exact h.2 j e
 have I:j-q.length<es.length:=iT
 have u:(q++es).getD j EO=es.getD (j-q.length) EO:=by simp[List.getD,Kt (VU e)]
 have z:(cs++us).getD j undef=us.getD (j-q.length) undef:=by
  have L:=h.1;simp only[List.getD,Kt (show cs.length<=j by omega),L]
 rw[u,z];exact k.2 _ I
section
variable {H:Type} {enc:CG×Au->H} {w:BU} {base:Nat} {spare:Nat->AZ} {held:AZ} {P:Ce} {t:CG}
def Lu {α:Type} (enc:CG×Au->H) (P:Ce) (w:BU) (base:Nat) (spare:Nat->AZ) (held:AZ) (t:CG) (e:α->D) (V:α->Prop):Prop:=
 ∀Ap cs x,DataW.trod enc P w base spare held Ap t cs=some x->∃a:α,V a/\DY w (e a).cells cs
def DY.one {w:BU} {x:D} {v:Au} (q:x.cells=[x]) (hl:x.leaf=true) (h:ES (fun b=>b<w.heap.size) w x v):DY w x.cells [v]:=by
 rw[q];refine⟨rfl,fun j u=>?_⟩
 match j,u with
 |0,_=>exact⟨hl,h⟩
def QX {α:Type} {e:CG} {sz:Nat} {U:α->D} {V:α->Prop} (ht:P.underlying t=some (.slice e)) (hc:P.cellsOf e=sz) (Z:0<sz) (hsz:∀a,(U a).cells.length=sz) (hR:Lu enc P w base spare held e U V):
 Lu enc P w base spare held t (Bo U) (fun l=>l.length<=maxLen/\∀x∈l,V x):=by
 intro Ap cs x h;rcases Go.Deep.open_slice ht h with⟨rfl, -⟩|⟨a,len,cap,m,n,D,Pl,rfl, -,hl,hm,hmm, -,hx⟩
 ·exact⟨[],⟨Ea _,fun x h=>Ip⟩,.one rfl rfl (.sl0 none 0)⟩
 have hlm:len<=m:=by rw[hmm];split<;>omega
 rw[hc]at hx
 have hex:∀i,i<len->∃y:α,V y/\∃z:A8 Au,w.cells? base (a.add (i*sz)) sz=some z/\DY w (U y).cells z:=by
  intro i hi;obtain⟨z,Y,h2⟩:=hx i AB;obtain⟨y,h3,I⟩:=hR _ _ _ h2;exact⟨y,h3,z,Y,I⟩
 obtain⟨l,hlen,hall⟩:=aVV len hex;subst hlen;refine⟨l,⟨AB,fun x hx=>?_⟩,?_⟩
 ·obtain⟨i,hi,rfl⟩:=I5 hx;exact(hall i hi).1
 rcases XP l.length with h0|hlp
 ·have :l=[]:=Hg h0;subst this;exact .one rfl rfl (.sl0 _ _)
 have q:∀i,(hi:i<l.length)->∀j,j<sz->∃u,w.cell? ((a.add (i*sz)).add j)=some u/\((U l[i]).cells.getD j EO).leaf=true/\ES (fun b=>b<w.heap.size) w ((U l[i]).cells.getD j EO) u:=by
  intro i hi j hj;obtain⟨-,z,Y,h2⟩:=hall i hi;obtain⟨-,h6,h5⟩:=World.cells?_some Y;have hcl:z.length=sz:=by rw[h2.1,hsz]
  have h7:=h5 j hj;rw[EL AB]at h7;refine⟨_,h7,?_⟩;have h8:=h2.2 j (by rw[hsz];exact hj);simpa[List.getD,show j<z.length by omega]using h8
 have L:a.spot=none:=by
  obtain⟨u,I, -⟩:=q 0 hlp 0 Z;have e0:(a.add (0*sz)).add 0=a:=by simp[Addr.add]
  rw[e0]at I;unfold World.cell? at I;cases hsp:a.spot with
  |none=>rfl
  |some s=>
   rw[hsp]at I;cases hh:w.heap[a.block]? with
   |none=>rw[hh]at I;simp at I
   |some o=>rw[hh]at I;cases o<;>simp at I
 have hblk:a.block<w.heap.size:=by
  obtain⟨u,I, -⟩:=q 0 hlp 0 Z;have e0:(a.add (0*sz)).add 0=a:=by simp[Addr.add]
  rw[e0]at I;unfold World.cell? at I;apply aS;intro hn;rw[Array.getElem?_eq_none (VU hn)]at I;simp at I
 obtain⟨b,o,s⟩:=a;simp only at L hblk;subst L;have J:(List.map U l).length=l.length:=Dc _;have M:∀i,(hi:i<l.length)->(List.map U l).getD i EO=U l[i]:=fun i hi=>Nh
 have O:∀i j,((⟨b,o,none⟩:Addr).add (i*sz)).add j=⟨b,o+(i*sz+j),none⟩:=fun i j=>by simp only[Addr.add];split<;>split<;>simp_all<;>omega
 refine .one rfl rfl ?_
 have :=ES.sl (ok:=fun b=>b<w.heap.size) (w:=w) (List.map U l) b o cap sz (by rw[J];exact hl) (fun _ _=>hblk) (fun i hi=>by rw[J]at hi;rw[M i hi];exact hsz _)
  (fun i hi j hj=>by rw[J]at hi;obtain⟨u,_,h2,_⟩:=q i hi j hj;rw[M i hi];exact h2)
  (fun i hi j hj=>by rw[J]at hi;obtain⟨u,Y,_,_⟩:=q i hi j hj;rw[O]at Y;rw[Y];rfl)
  (fun i hi j hj=>by rw[J]at hi;obtain⟨u,Y,_,h3⟩:=q i hi j hj;rw[O]at Y;rw[M i hi];unfold cellAt;rw[Y];exact h3)
 rw[J]at this;exact this
def GX {k:IntKind} (ht:P.underlying t=some (.int k)):Lu enc P w base spare held t (fun n=>D.lit (.int k n)) (fun n:Int=>k.min<=n/\n<=k.max):=by
 intro Ap cs x h;obtain⟨n,rfl, -,j⟩:=DataW.trod_int ht h;exact⟨n,by simpa[Lit.wf]using j,.one rfl rfl (.lit _)⟩
def KT (ht:P.underlying t=some .string):Lu enc P w base spare held t DV (fun s=>s.size<=maxLen):=by
 intro Ap cs x h;obtain⟨n,rfl, -,j⟩:=DataW.trod_string ht h;exact⟨n,j,.one rfl rfl (.lit _)⟩
def aF0 (ht:P.underlying t=some .bool):Lu enc P w base spare held t EY (fun _=>True):=by
 intro Ap cs x h;obtain⟨n,rfl, -⟩:=DataW.trod_bool ht h;exact⟨n,trivial,.one rfl rfl (.lit _)⟩
def EI {α:Type} {I:C9 Field} {Ap:Nat} {cs:A8 Au} {x:DataW H×A8 MemPlace} (ht:P.underlying t=some (.struct I)) (h:DataW.trod enc P w base spare held Ap t cs=some x) (i:Nat) (u o n:Nat) (q:(I[i]?).map (fun f=>(f.type,f.offset,P.cellsOf f.type))=some (u,o,n))
 {J:α->D} {V:α->Prop} (M:Lu enc P w base spare held u J V):∃a:α,V a/\DY w (J a).cells ((cs.drop o).take n):=by
 obtain⟨xs,k, -, -, -,hlen,z⟩:=DataW.trod_struct ht h;cases j:I[i]? with
 |none=>rw[j]at q;simp at q
 |some f=>
  rw[j]at q;simp only[JQ,Mc,RV]at q;obtain⟨rfl,rfl,rfl⟩:=q;have L:=z i f j;have hi:i<I.size:=(H6.1 j).1;rw[EL AB]at L;exact M _ _ _ L
def Q7 {j:C9 Field} {Ap:Nat} {cs:A8 Au} {x:DataW H×A8 MemPlace} (ht:P.underlying t=some (.struct j)) (h:DataW.trod enc P w base spare held Ap t cs=some x) (n:Nat) (q:P.cellsOf t=n):cs.length=n:=by
 obtain⟨xs,k, -, -,hlen, -⟩:=DataW.trod_struct ht h;rw[hlen,q]
def QB {cs:A8 Au} {j:A8 D} (ns:A8 Nat) (hl:cs.length=ns.sum) (h:DY w j (pieces ns 0 cs)):DY w j cs:=by
 rw[pieces_eq ns 0 cs AB]at h;simpa using h
end
def aP8 {w:BU} {x:D} {j:A8 D} {cs:C9 Au} (q:x=.agg j) (h:DY w x.cells (Value.agg cs).cells.toList):ES (fun b=>b<w.heap.size) w x (.agg cs):=by
 subst q;have h':DY w j cs.toList:=h
 exact .agg j cs (by simpa using h'.1) (fun i hi=>(h'.2 i hi).1) fun i hi=>by
  have :=(h'.2 i hi).2;simpa[J8,List.getD]using this
def aWH {w:BU} {x:D} {v:Au} (j:x.cells=[x]) (q:v.cells= #[v]) (h:DY w x.cells v.cells.toList):ES (fun b=>b<w.heap.size) w x v:=by
 rw[j,q]at h;exact(h.2 0 Bh).2
def Ed.start {P:Ce} {f:FuncId} {xs:A8 D} {j:C9 Au} {W:BU} {x:D} (h:Ed P f (xs.map .d) [] (.d x) []) (hs:j.size=xs.length) (ha:∀i,i<xs.length->ES (fun b=>b<W.heap.size) W (xs.getD i EO) (j.getD i undef)):
 Calls P f j W fun e W'=>∃v ok,e=.returned v/\ES ok W' x v/\Below W.heap.size W W':=by
 refine(h (fun b=>b<W.heap.size) [] [] W j ⟨.refl _ _,fun _ h=>h,fun _ h=>.inl h,fun _ h=>h,.refl _,rfl,fun k e h q=>zk,fun k e h b q=>zk,fun k k' e e' h h' b q=>zk⟩ wH (fun i hi=>?_)).mono ?_
 ·have u:i<xs.length:=Gs
  have :(xs.map Af.d).getD i .junk=.d (xs.getD i EO):=aO7
  rw[this];exact .d _ _ (ha i u)
 rintro e W' ⟨v,ok',H',rfl,hm,z⟩;cases z with
 |d _ _ z=>exact⟨v,ok',rfl,z,hm.fr.below⟩
def Ed.law {P:Ce} {f:FuncId} {xs:A8 D} {j:C9 Au} {W:BU} (h:Ed P f (xs.map .d) [] (.d (EY true)) []) (hs:j.size=xs.length) (ha:∀i,i<xs.length->ES (fun b=>b<W.heap.size) W (xs.getD i EO) (j.getD i undef)):
 Calls P f j W fun e W'=>e=.returned (.bool true)/\Below W.heap.size W W':=by
 refine(h.start hs ha).mono ?_;rintro e W' ⟨v,ok,rfl,q,u⟩;exact⟨by rw[ES.ahT q],u⟩
end
section
def ER (l:A8 Int) (x:Int):AZ:=l.contains x
def LZ {l:A8 Int} {x:Int}:ER l x=true↔x∈l:=by unfold ER;simp
def P9 {l:A8 Int} {x:Int}:ER l x=false↔x∉l:=by unfold ER;simp
def put (l:A8 Int) (x:Int):A8 Int:=if ER l x then l else l.takeWhile (decide<| · <x)++x::l.dropWhile (decide<| · <x)
def Ee (l:A8 Int):A8 Int:=l.foldl put []
def Il (a b:A8 Int):A8 Int:=b.foldl put (Ee a)
def Pe (a b:A8 Int):A8 Int:=(Ee a).filter (fun x=> !ER b x)
abbrev Inc (l:A8 Int):Prop:=l.Pairwise (· < ·)
def am7 {l:A8 Int} {x:Int}:∀y∈l.takeWhile (decide<| · <x),y<x:=by
 intro y j;have :=List.all_takeWhile (l:=l) (p:=(decide<| · <x));rw[El]at this;simpa using this y j
def aOS :∀{l:A8 Int} {x:Int},Inc l->∀y∈l.dropWhile (decide<| · <x),x<=y
 | [],x,_,y,j=>qI
 |a::l,x,h,y,j=>by
  have h':=Pj.1 h;by_cases ha:a<x
  ·rw[aOz (by simpa using ha)]at j;exact aOS h'.2 y j
  rw[aVp (by simpa using ha)]at j;rcases FK.1 j with rfl|j
  ·omega
  have :=h'.1 y j;omega
def Wx {l:A8 Int} {x y:Int}:y∈put l x↔y∈l\/y=x:=by
 unfold put;split
 ·rename_i h;have j:x∈l:=LZ.1 h;constructor
  ·exact .inl
  rintro(h|rfl)
  ·exact h
  exact j
 have e:l.takeWhile (decide<| · <x)++l.dropWhile (decide<| · <x)=l:=vI
 have :y∈l↔y∈l.takeWhile (decide<| · <x)\/y∈l.dropWhile (decide<| · <x):=by
  conv=>lhs;rw[←e]
  exact Iy
 rw[this,Iy,FK];constructor
 ·rintro(h|h|h)
  ·exact .inl (.inl h)
  ·exact .inr h
  exact .inl (.inr h)
 rintro((h|h)|h)
 ·exact .inl h
 ·exact .inr (.inr h)
 exact .inr (.inl h)
def SN {l:A8 Int} {x:Int} (h:Inc l):Inc (put l x):=by
 unfold put;split
 ·exact h
 rename_i I;have j:x∉l:=fun h=>I (LZ.2 h)
 have hd:∀y∈l.dropWhile (decide<| · <x),x<y:=by
  intro y u;have z:=aOS h y u;have J:y∈l:=(aNK _).mem u;have :y≠x:=fun e=>j (e▸J);omega
 refine lM.2 ⟨h.sublist (List.takeWhile_sublist _),Pj.2 ⟨hd,h.sublist (aNK _)⟩,?_⟩;intro a ha b q;have z:=am7 a ha;rcases FK.1 q with rfl|q
 ·exact z
 have :=hd b q;omega
def aJX {l:A8 Int}:∀{acc:A8 Int} {y:Int},y∈l.foldl put acc↔y∈acc\/y∈l:=by
 induction l with
 |nil=>intro acc y;simp
 |cons a l j=>intro acc y;rw[Gt,j,Wx,FK,or_assoc]
def aE5 {l:A8 Int}:∀{acc:A8 Int},Inc acc->Inc (l.foldl put acc):=by
 induction l with
 |nil=>intro acc h;exact h
 |cons a l j=>intro acc h;exact j (SN h)
def KN {l:A8 Int} {y:Int}:y∈Ee l↔y∈l:=by unfold Ee;rw[aJX];simp
def KW (l:A8 Int):Inc (Ee l):=aE5 List.Pairwise.nil
def Ci :∀{a b:A8 Int},Inc a->Inc b->(∀x,x∈a↔x∈b)->a=b
 | [],[],_,_,_=>rfl
 | [],b::bs,_,_,h=>by have :=(h b).2 Bh;simp at this
 |a::aMP,[],_,_,h=>by have :=(h a).1 Bh;simp at this
 |a::aMP,b::bs,ha,J,h=>by
  have q:=Pj.1 ha;have u:=Pj.1 J
  have e:a=b:=by
   rcases FK.1 ((h a).1 Bh)with j|j
   ·exact j
   rcases FK.1 ((h b).2 Bh)with z|z
   ·exact z.symm
   have :=q.1 b z;have :=u.1 a j;omega
  subst e;congr 1;refine Ci q.2 u.2 fun x=>?_;have I:=h x;rw[FK,FK]at I;constructor
  ·intro j;rcases I.1 (.inr j)with rfl|z
   ·exact absurd (q.1 x j) AB
   exact z
  intro j;rcases I.2 (.inr j)with rfl|z
  ·exact absurd (u.1 x j) AB
  exact z
def aYg {l:A8 Int} (h:Inc l):Ee l=l:=Ci (KW l) h fun _=>KN
def rW (a b:A8 Int):Il a b=Ee (a++b):=by unfold Il Ee;rw[Ve]
def dB {a b:A8 Int} {x:Int}:x∈Il a b↔x∈a\/x∈b:=by rw[rW,KN,Iy]
def rH (a b:A8 Int):Inc (Il a b):=by rw[rW];exact KW _
def aRz {a b:A8 Int} {x:Int}:x∈Pe a b↔x∈a/\x∉b:=by unfold Pe;rw[Hy,KN];simp[ER]
def aJb (a b:A8 Int):Inc (Pe a b):=(KW a).sublist Qo
def alb (Dl:A8 Int):∀m,m<=Dl.length->∀x,x∈Lib.compactUpTo Dl.toArray m↔x∈Dl.take m:=by
 intro m
 induction m with
 |zero=>intro _ x;simp[Lib.compactUpTo]
 |succ m u=>
  intro hm x;rw[Lib.compactUpTo_succ,Iy,u AB,Ot AB,Iy];have z:Dl.toArray[m]! =Dl[m]' AB:=by simp[show m<Dl.length by omega]
  by_cases q:Lib.keeps Dl.toArray m=true
  ·rw[Di q,z]
  rw[Dp q];have j:Lib.keeps Dl.toArray m=false:=OQ
  have I:m≠0:=by intro e;subst e;simp[Lib.keeps]at j
  have J:Dl[m]' AB=Dl[m-1]' AB:=by
   simp[Lib.keeps,I]at j;simpa[show m<Dl.length by omega,show m-1<Dl.length by omega]using j
  constructor
  ·intro h;rcases h with h|h
   ·exact .inl h
   simp at h
  rintro(h|h)
  ·exact .inl h
  refine .inl ?_;simp at h;subst h;rw[J];rw[List.mem_take_iff_getElem];exact⟨m-1,AB,rfl⟩
def agl (Dl:A8 Int) (hs:Dl.Pairwise (· <= ·)):∀m,m<=Dl.length->Inc (Lib.compactUpTo Dl.toArray m)/\∀x∈Lib.compactUpTo Dl.toArray m,∃i,∃_:i<m,∃u:i<Dl.length,x=Dl[i]:=by
 intro m
 induction m with
 |zero=>intro _;refine⟨by simp[Lib.compactUpTo],fun x q=>by simp[Lib.compactUpTo]at q⟩
 |succ m O=>
  intro hm;obtain⟨L,u⟩:=O AB;have U:Dl.toArray[m]! =Dl[m]' AB:=by simp[show m<Dl.length by omega]
  rw[Lib.compactUpTo_succ];by_cases z:Lib.keeps Dl.toArray m=true
  ·rw[Di z,U];refine⟨lM.2 ⟨L,Bh,?_⟩,?_⟩
   ·intro a ha b M;simp at M;subst M;obtain⟨i,hi,Y,rfl⟩:=u a ha
    have I:∀j,(Z:j<m)->Dl[j]' AB<=Dl[m-1]' AB:=by
     intro j Z;by_cases e:j=m-1
     ·subst e;omega
     exact KC.1 hs j (m-1) AB AB AB
    have h3:=I i hi;have h4:=KC.1 hs (m-1) m AB AB AB
    have h5:Dl[m]' AB≠Dl[m-1]' AB:=by
     have J:m≠0:=AB
     simp[Lib.keeps,J]at z;simpa[show m<Dl.length by omega,show m-1<Dl.length by omega]using z
    omega
   intro x q;rcases Iy.1 q with q|q
   ·obtain⟨i,a,b,c⟩:=u x q;exact⟨i,AB,b,c⟩
   simp at q;exact⟨m,AB,AB,q⟩
  rw[Dp z,PK];refine⟨L,fun x q=>?_⟩;obtain⟨i,a,b,c⟩:=u x q;exact⟨i,AB,b,c⟩
def aKR (l:A8 Int):Lib.compact (l.mergeSort fun x y=>x<=y)=Ee l:=by
 have hs:(l.mergeSort fun x y=>x<=y).Pairwise (· <= ·):=by
  have :=List.pairwise_mergeSort (le:=fun x y:Int=>x<=y) (by intro a b c;simp;omega) (by intro a b;simp;omega) l;exact this.imp (by intro a b h;simpa using h)
 refine Ci (agl _ hs _ (EZ _)).1 (KW l) fun x=>?_;rw[KN];unfold Lib.compact;rw[alb _ _ (EZ _),Gg];exact List.mem_mergeSort
def eP {R:Type} (o:AL R) (Q:R->Prop):Prop:=∃r,o=some r/\Q r
section
variable {R A B α:Type} {Q:R->Prop}
def eP.ret {r:R} (h:Q r):eP (some r) Q:=⟨r,rfl,h⟩
def eP.bind {o:AL A} {f:A->AL R} {P:A->Prop} (h:eP o P) (k:∀x,P x->eP (f x) Q):eP (o.bind f) Q:=by
 obtain⟨x,rfl,j⟩:=h;exact k x j
def eP.mono {o:AL R} {P:R->Prop} (h:eP o P) (k:∀r,P r->Q r):eP o Q:=by
 obtain⟨x,rfl,j⟩:=h;exact⟨x,rfl,k x j⟩
def eP.bif {b:AZ} {x y:AL R} (j:b=true->eP x Q) (q:b=false->eP y Q):eP (bif b then x else y) Q:=by
 cases b with
 |true=>exact j rfl
 |false=>exact q rfl
def eP.eq {o:AL R} {r:R} (h:eP o (· =r)):o=some r:=by obtain⟨x,rfl,rfl⟩:=h;rfl
def eP.of {o:AL R} {r:R} (h:o=some r):eP o (· =r):=⟨r,h,rfl⟩
def a0U (l:A8 α) (i:Nat):Ak l (i:Int)=l[i]? :=by unfold Ak;rw[Di (aKs i)];simp
def Cx {l:A8 α} {i:Nat} (h:i<l.length):Ak l (i:Int)=some l[i]:=by rw[a0U];simp[h]
def EC {b:Nat} {l m:A8 α} (h:(l.length+m.length)*b<=140737488355328):DU b l m=some (l++m):=by unfold DU;rw[Di h]
def jF {l:A8 α} {lo hi:Nat} (j:lo<=hi) (q:hi<=l.length):IB l (lo:Int) (hi:Int)=some ((l.drop lo).take (hi-lo)):=by
 unfold IB;rw[Di ⟨AB,AB,AB⟩];simp
def wrap_succ (i:Nat) (h:i<9223372036854775807):Aw ((i:Int)+1)=((i+1:Nat):Int):=by
 rw[bg];omega
def O8 {x:Int} (j: -9223372036854775808<=x) (q:x<=9223372036854775807):Aw x=x:=by
 rw[bg];omega
def aWs {body:(A->AL R)->A->AL R} (I:Nat->A->Prop) (hs:∀m a k,I m a->(∀j a',j<m->I j a'->eP (k a') Q)->eP (body k a) Q):
 ∀n m a,m<n->I m a->eP (bJ body n a) Q
 |0,m,a,h,_=>AB
 |n+1,m,a,h,hi=>hs m a _ hi fun j a' h' q=>aWs I hs n j a' AB q
def Yr {body:(A->B->AL R)->A->B->AL R} (I:Nat->A->B->Prop) (hs:∀m a b k,I m a b->(∀j a' q,j<m->I j a' q->eP (k a' q) Q)->eP (body k a b) Q):
 ∀n m a b,m<n->I m a b->eP (aU body n a b) Q
 |0,m,a,b,h,_=>AB
 |n+1,m,a,b,h,hi=>hs m a b _ hi fun j a' q h' u=>Yr I hs n j a' q AB u
def kR {body:(Int->AL R)->Int->AL R} (N:Nat) (j:N<Ap) (I:Nat->Prop) (q:I 0)
 (hs:∀i k,i<N->I i->(I (i+1)->eP (k ((i+1:Nat):Int)) Q)->eP (body k (i:Int)) Q) (u:∀k,I N->eP (body k (N:Int)) Q):eP (bJ body Ap 0) Q:=by
 refine aWs (body:=body) (Q:=Q) (fun m a=>∃i:Nat,a=i/\i+m=N/\I i) ?_ Ap N 0 j ⟨0,rfl,AB,q⟩;rintro m a k ⟨i,rfl,hm,hi⟩ z;by_cases e:i<N
 ·exact hs i k e hi fun h=>z (m-1) _ AB ⟨i+1,rfl,AB,h⟩
 have :i=N:=AB
 subst this;exact u k hi
def JX {body:(A->Int->AL R)->A->Int->AL R} (N:Nat) (j:N<Ap) (I:Nat->A->Prop) {a0:A} (q:I 0 a0)
 (hs:∀i a k,i<N->I i a->(∀a',I (i+1) a'->eP (k a' ((i+1:Nat):Int)) Q)->eP (body k a (i:Int)) Q) (u:∀a k,I N a->eP (body k a (N:Int)) Q):eP (aU body Ap a0 0) Q:=by
 refine Yr (body:=body) (Q:=Q) (fun m a b=>∃i:Nat,b=i/\i+m=N/\I i a) ?_ Ap N a0 0 j ⟨0,rfl,AB,q⟩;rintro m a b k ⟨i,rfl,hm,hi⟩ z;by_cases e:i<N
 ·exact hs i a k e hi fun a' h=>z (m-1) _ _ AB ⟨i+1,rfl,AB,h⟩
 have :i=N:=AB
 subst this;exact u a k hi
end
end
end Go.Proofs.YtkkdimcnpacjhaaGreat
section
namespace Go.Proofs
open Go.Proofs.YtkkdimcnpacjhaaGreat
open Go.Shelf
def Tryz.avH:Go.Shelf.Ren:=⟨fun |137=>140|217=>231|266=>316|n=>n,fun |9=>9|5=>5|3=>3|n=>n,fun |n=>n⟩
noncomputable abbrev Am:=Tryz.prog
def Tryz.lays137:Go.Proofs.Lays.n137 Am Tryz.avH:={
 mixed:=AA
 f137:=Tryz.func140.trans (BK some AA)
 f217:=Tryz.func231.trans (BK some AA)
 f266:=Tryz.func316.trans (BK some AA)
 t3:=GR
 a3:=jC
 z3:=l7
 v3:=nG
 t5:=yw
 a5:=oK
 z5:=rJ
 v5:=rC
 t9:=JB
 a9:=yB
 z9:=zo
 v9:=uQ }
open Go.RowKit in
def Tryz.strings_IndexByte (s:BD) (c:Int) (w:BU):
 Calls Am 140 #[.string s,.int .u8 c] w fun e w'=>e=.returned (.int .i64 (Lib.indexByte s.data.toList c.toNat.toUInt8))/\w'=w:=Any.strings_IndexByte Tryz.lays137 s c w
def Tryz.avI:Go.Shelf.Ren:=⟨fun |219=>317|217=>231|225=>370|224=>371|267=>372|266=>316|314=>399|n=>n,fun |9=>9|3=>3|4=>4|5=>5|46=>148|146=>328|51=>212|n=>n,fun |1=>0|n=>n⟩
def Tryz.lays219:Go.Proofs.Lays.n219 Am Tryz.avI:={
 mixed:=AA
 f217:=Tryz.func231.trans (BK some AA)
 f219:=Tryz.func317.trans (BK some AA)
 f224:=Tryz.func371.trans (BK some AA)
 f225:=Tryz.func370.trans (BK some AA)
 f266:=Tryz.func316.trans (BK some AA)
 f267:=Tryz.func372.trans (BK some AA)
 f314:=Tryz.func399.trans (BK some AA)
 t3:=GR
 a3:=jC
 z3:=l7
 v3:=nG
 t4:=U6
 a4:=qG
 z4:=qX
 v4:=sV
 t5:=yw
 a5:=oK
 z5:=rJ
 v5:=rC
 t9:=JB
 a9:=yB
 z9:=zo
 v9:=uQ
 t46:=aEq
 a46:=Tryz.isAgg148
 z46:=a0N
 v46:=aAD
 t51:=aD5
 a51:=Tryz.isAgg212
 z51:=a1a
 v51:=aEF
 t146:=Tryz.underlying328
 a146:=Tryz.isAgg328
 z146:=Tryz.sizeOf328
 v146:=Tryz.zeroValue328
 g1:=by kernel_rfl }
open Go.RowKit Go.Lib in
def Tryz.stringslite_Index_one (s:BD) (c:UInt8) (w:BU):
 Calls Am 317 #[.string s,.string ⟨#[c]⟩] w fun e w'=>e=.returned (.int .i64 (Lib.indexByte s.data.toList c))/\w'=w:=Any.stringslite_Index_one Tryz.lays219 s c w
def Tryz.avJ:Go.Shelf.Ren:=⟨fun |189=>61|125=>124|257=>123|128=>215|129=>216|294=>207|295=>208|296=>209|297=>210|298=>211|299=>212|216=>205|300=>213|301=>214|328=>306|329=>307|330=>308|331=>309|332=>310|215=>270|343=>362|n=>n,fun |28=>35|3=>3|46=>148|0=>0|51=>212|53=>214|4=>4|183=>206|182=>205|131=>47|5=>5|9=>9|218=>279|222=>283|228=>305|229=>306|n=>n,fun |n=>n⟩
def Tryz.lays189:Go.Proofs.Lays.n189 Am Tryz.avJ:={
 mixed:=AA
 f125:=Tryz.func124.trans (BK some AA)
 f128:=Tryz.func215.trans (BK some AA)
 f129:=Tryz.func216.trans (BK some AA)
 f189:=Tryz.func61.trans (BK some AA)
 f215:=Tryz.func270.trans (BK some AA)
 f216:=Tryz.func205.trans (BK some AA)
 f257:=Tryz.func123.trans (BK some AA)
 f294:=Tryz.func207.trans (BK some AA)
 f295:=Tryz.func208.trans (BK some AA)
 f296:=Tryz.func209.trans (BK some AA)
 f297:=Tryz.func210.trans (BK some AA)
 f298:=Tryz.func211.trans (BK some AA)
 f299:=Tryz.func212.trans (BK some AA)
 f300:=Tryz.func213.trans (BK some AA)
 f301:=Tryz.func214.trans (BK some AA)
 f328:=Tryz.func306.trans (BK some AA)
 f329:=Tryz.func307.trans (BK some AA)
 f330:=Tryz.func308.trans (BK some AA)
 f331:=Tryz.func309.trans (BK some AA)
 f332:=Tryz.func310.trans (BK some AA)
 f343:=Tryz.func362.trans (BK some AA)
 t0:=aFW
 a0:=Tryz.isAgg0
 z0:=Tryz.sizeOf0
 v0:=aD9
 t3:=GR
 a3:=jC
 z3:=l7
 v3:=nG
 t4:=U6
 a4:=qG
 z4:=qX
 v4:=sV
 t5:=yw
 a5:=oK
 z5:=rJ
 v5:=rC
 t9:=JB
 a9:=yB
 z9:=zo
 v9:=uQ
 t28:=iW
 a28:=Tryz.isAgg35
 z28:=Tryz.sizeOf35
 v28:=Tryz.zeroValue35
 t46:=aEq
 a46:=Tryz.isAgg148
 z46:=a0N
 v46:=aAD
 t51:=aD5
 a51:=Tryz.isAgg212
 z51:=a1a
 v51:=aEF
 t53:=Tryz.underlying214
 a53:=Tryz.isAgg214
 z53:=Tryz.sizeOf214
 v53:=Tryz.zeroValue214
 t131:=Tryz.underlying47
 a131:=Tryz.isAgg47
 z131:=Tryz.sizeOf47
 v131:=Tryz.zeroValue47
 t182:=Tryz.underlying205
 a182:=Tryz.isAgg205
 z182:=Tryz.sizeOf205
 v182:=Tryz.zeroValue205
 t183:=Tryz.underlying206
 a183:=Tryz.isAgg206
 z183:=Tryz.sizeOf206
 v183:=Tryz.zeroValue206
 t218:=Tryz.underlying279
 a218:=Tryz.isAgg279
 z218:=Tryz.sizeOf279
 v218:=Tryz.zeroValue279
 t222:=Tryz.underlying283
 a222:=Tryz.isAgg283
 z222:=Tryz.sizeOf283
 v222:=Tryz.zeroValue283
 t228:=Tryz.underlying305
 a228:=Tryz.isAgg305
 z228:=Tryz.sizeOf305
 v228:=Tryz.zeroValue305
 t229:=Tryz.underlying306
 a229:=Tryz.isAgg306
 z229:=Tryz.sizeOf306
 v229:=Tryz.zeroValue306 }
open Go.Sort Go.RowKit in
def Tryz.slices_Sort_int (blk off cap:Nat) (Dl:A8 Int) (w:BU) (hH:Holds Dj w blk off Dl.toArray) (hblk:blk<w.heap.size) (hsz:Dl.length<4611686018427387904):
 Calls Am 61 #[.slice (some ⟨blk,off,none⟩) Dl.length cap] w fun e w'=>
  e=.returned (.tuple #[])/\∃n os,w'=grow (putRow Dj (Sort.ahead w n) blk off (Dl.mergeSort fun x y=>x<=y).toArray) os:=Any.slices_Sort_int Tryz.lays189 blk off cap Dl w hH hblk hsz
def Tryz.ark:Go.Shelf.Ren:=⟨fun |20=>62|n=>n,fun |22=>35|3=>3|4=>4|0=>0|n=>n,fun |n=>n⟩
def Tryz.aqv:Go.Proofs.Lays2.n20 Am Tryz.ark:={
 mixed:=AA
 f20:=Tryz.func62.trans (BK some AA)
 t0:=aFW
 a0:=Tryz.isAgg0
 z0:=Tryz.sizeOf0
 v0:=aD9
 t3:=GR
 a3:=jC
 z3:=l7
 v3:=nG
 t4:=U6
 a4:=qG
 z4:=qX
 v4:=sV
 t22:=iW
 a22:=Tryz.isAgg35
 z22:=Tryz.sizeOf35
 v22:=Tryz.zeroValue35
 i3:=by kernel_rfl }
open Go.RowKit Go.Lib Go.Sort in
def Tryz.slices_Compact_int (blk off cap:Nat) (Dl:A8 Int) (w:BU) (hH:Holds Dj w blk off Dl.toArray) (hsz:Dl.length<=9223372036854775807) (hcap:Dl.length<=cap):
 Calls Am 62 #[.slice (some ⟨blk,off,none⟩) Dl.length cap] w fun e w'=>e=.returned (.slice (some ⟨blk,off,none⟩) (Lib.compact Dl).length cap)/\∃q,w'=putRow Dj (Sort.ahead w q) blk off (Lib.compact Dl++List.replicate (Dl.length-(Lib.compact Dl).length) 0).toArray:=Any.slices_Compact_int Tryz.aqv blk off cap Dl w hH hsz hcap
open Go.RowKit Go.Lib Go.Sort in
def Tryz.slices_Compact_int_empty (a:AL Addr) (cap:Nat) (w:BU):
 Calls Am 62 #[.slice a 0 cap] w fun e w'=>e=.returned (.slice a 0 cap)/\w'=w:=Any.slices_Compact_int_empty Tryz.aqv a cap w
open Go.RowKit Go.Sort in
def Tryz.slices_Sort_int_none (p:AL Addr) (cap:Nat) (w:BU):
 Calls Am 61 #[.slice p 0 cap] w fun e w'=>e=.returned (.tuple #[])/\w'=w:=Any.slices_Sort_int_none Tryz.lays189 p cap w
end Go.Proofs
end
namespace Go.Proofs.YtkkdimcnpacjhaaGreat
open Go.RowKit Go.Proofs.Tryz
section
def bD (x:Int):A8 Int->A8 Int
 | []=>[x]
 |y::l=>bif x<=y then x::y::l else y::bD x l
def Qc (l:A8 Int):A8 Int:=l.foldr bD []
def aHL (x:Int):∀l,(bD x l).Perm (x::l)
 | []=>.refl _
 |y::l=>by
  unfold bD;cases h:decide (x<=y)with
  |true=>exact .refl _
  |false=>exact((aHL x l).cons y).trans (.swap x y l)
def UJ :∀l,(Qc l).Perm l
 | []=>.refl _
 |x::l=>(aHL x (Qc l)).trans ((UJ l).cons x)
def aQx (x:Int):∀l,l.Pairwise (· <= ·)->(bD x l).Pairwise (· <= ·)
 | [],_=>by simp[bD]
 |y::l,h=>by
  have h':=Pj.1 h;unfold bD;cases u:decide (x<=y)with
  |true=>
   have q:x<=y:=SG u;refine Pj.2 ⟨fun z j=>?_,h⟩;rcases FK.1 j with rfl|j
   ·exact q
   have :=h'.1 z j;omega
  |false=>
   have q:¬x<=y:=KI u;refine Pj.2 ⟨fun z j=>?_,aQx x l h'.2⟩;rcases FK.1 ((aHL x l).mem_iff.1 j)with rfl|j
   ·omega
   exact h'.1 z j
def tH :∀l,(Qc l).Pairwise (· <= ·)
 | []=>.nil
 |x::l=>aQx x _ (tH l)
def aLz (l:A8 Int):Qc l=l.mergeSort fun x y=>decide (x<=y):=by
 have hs:(l.mergeSort fun x y=>x<=y).Pairwise (· <= ·):=by
  have :=List.pairwise_mergeSort (le:=fun x y:Int=>x<=y) (by intro a b c;simp;omega) (by intro a b;simp;omega) l;exact this.imp (by intro a b h;simpa using h)
 exact((UJ l).trans (List.mergeSort_perm l _).symm).eq_of_pairwise (fun a b _ _ h k=>AB) (tH l) hs
abbrev AO:=A8 Int
def Me (l:A8 Int):AL AO:=if l.length<=1099511627776 then some (Qc l)else none
def X4 (l:A8 Int):AL AO:=if l.length<=1099511627776 then some (Lib.compact l)else none
def oq.nil (w:BU) (e size:Nat):oq w e size (.slice none 0 0) 0 []:=.of (aEE w 0 e size)
def air {w:BU} {g cap n:Nat} {e:CG} {os:C9 Obj} {cur:C9 Au} {j q:A8 Int} (hl:q.length=j.length) (u:w.heap[g]? =some (.cells cur e (0,0)))
 (z:j.length<=cap) (I:cap<=maxLen) (J:cap*1<=cur.size):
 oq (Go.Sort.grow (Go.Sort.putRow Dj (Go.Sort.ahead w n) g 0 q.toArray) os) e 1 (.slice (some ⟨g,0,none⟩) j.length cap) j.length (q.map Dj):=
 ⟨fP,.inr ⟨g,cap,_,rfl,Ea _,heap_sortedI _ u,z,I,by simpa[Go.Sort.putCells]using J,by rw[aH,←hl];exact take_putCellsI cur q AB⟩⟩
def ane {w:BU} {e:CG} {g n cap q k:Nat} {Dl ys:A8 Int} (h:oq w e 1 (.slice (some ⟨g,0,none⟩) n cap) n (Dl.map Dj)) (J:ys.length=n) (L:k<=n):
 oq (Go.Sort.putRow Dj (Go.Sort.ahead w q) g 0 ys.toArray) e 1 (.slice (some ⟨g,0,none⟩) k cap) k ((ys.take k).map Dj):=by
 rcases h.2 with⟨j,_⟩|⟨M,u,cur,j,z,I,O,hm,hs,ht⟩
 ·cases j
 injection j with e1 _ e3
 injection e1 with e1
 injection e1 with e1
 subst e1;subst e3;refine⟨EW,.inr ⟨g,cap,Go.Sort.putCells Dj 0 ys.toArray cur,rfl,z,?_,AB,hm,by simpa[Go.Sort.putCells]using hs,?_⟩⟩
 ·simp[Go.Sort.putRow,Go.Sort.mapBlock,Go.Sort.ahead,P8,I,Go.Sort.onCells]
 have :=take_putCellsI cur ys AB;rw[aH,aK,←this,List.take_take,aJn AB]
def akV {l m:A8 Int} (h:l.Perm m):Qc l=Qc m:=by
 have hs:∀(l:A8 Int),(Qc l).Pairwise (· <= ·):=tH;exact((UJ l).trans (h.trans (UJ m).symm)).eq_of_pairwise (fun a b _ _ j q=>AB) (hs l) (hs m)
def agh {l m:A8 Int} (h:l.Perm m):Me l=Me m:=by
 unfold Me;rw[h.length_eq,akV h]
abbrev BA:=Ed Am
def xk (l r:A8 Int) (h:Me l=some r):BA 61 [.aO 0] [.arr 3 1 (List.map Ae l)] (.fC []) [.arr 3 1 (List.map Ae r)]:=by
 unfold Me at h;split at h
 ·rename_i O;obtain rfl:=Dq h;refine Ed.aDE fun v w q=>?_;rcases q.2 with⟨rfl,M⟩|⟨g,cap,cur,rfl,u,z,I,J,L,j⟩
  ·have hl:l=[]:=Hg M;subst hl;refine(Tryz.slices_Sort_int_none _ _ _).mono ?_;rintro e w' ⟨rfl,h⟩;subst h;exact⟨rfl,oq.nil _ _ _,Turns.refl _ _⟩
  have hs:(l.mergeSort fun x y=>x<=y).length=l.length:=List.length_mergeSort _;refine(Tryz.slices_Sort_int g 0 cap l w (holds_of_blockI z WV) (H6.1 z).1 AB).mono ?_;rintro e w' ⟨rfl,n,os,rfl⟩;rw[aLz];refine⟨rfl,?_,Turns.aBw (grownBy_sortedI _)⟩;rw[hs];exact air (os:=os) (n:=n) hs z I J L
 cases h
def aMn (l r:A8 Int) (h:X4 l=some r):BA 62 [.aO 0] [.arr 3 1 (List.map Ae l)] (.aO 1) [.dead,.arr 3 1 (List.map Ae r)]:=by
 unfold X4 at h;split at h
 ·rename_i hn;obtain rfl:=Dq h;refine Ed.turned fun v w u=>?_;rcases u.2 with⟨rfl,O⟩|⟨g,cap,cur,rfl,I,z,J,U,Y,j⟩
  ·have hl:l=[]:=Hg O;subst hl;refine(Tryz.slices_Compact_int_empty _ _ _).mono ?_;rintro e w' ⟨rfl,h⟩;subst h;exact⟨_,rfl,oq.nil _ _ _,Turns.refl _ _,fun g z=>by simp[EK]at z⟩
  refine(Tryz.slices_Compact_int g 0 cap l w (holds_of_blockI z WV) AB J).mono ?_;rintro e w' ⟨rfl,q,rfl⟩;have L:=Lib.compact_length_le l;have Z:(Lib.compact l++List.replicate (l.length-(Lib.compact l).length) 0).length=l.length:=EW
  refine⟨_,rfl,?_,?_,fun g z=>.inl z⟩
  ·have :=ane (q:=q) u Z L;rw[List.take_left' rfl]at this;exact this
  exact⟨rfl,rfl,rfl,by simp[Sort.putRow,Sort.mapBlock,Sort.ahead],fun k hk M=>by
   have :g≠k:=fun e=>M (by rw[e];rfl)
   simp[Sort.putRow,Sort.mapBlock,Sort.ahead,P8,this]⟩
 cases h
def strings_IndexByte (s:BD) (c:Int):AL Int:=some (Lib.indexByte s.data.toList c.toNat.toUInt8)
def an9 (s:BD) (c:Int) (r:Int) (h:strings_IndexByte s c=some r):BA 140 [.d (DV s),.d (Dn c)] [] (.d (Ae r)) []:=by
 rw[←Dq h];exact Ed.plain (vs:=[.string s,.int .u8 c]) (v:=.int .i64 (Lib.indexByte s.data.toList c.toNat.toUInt8)) (fun _ _ _=>.d _ _ (.lit _)) fun w=>(Tryz.strings_IndexByte s c w).mono fun e w' ⟨j,q⟩=>⟨j,by rw[q];exact⟨rfl,rfl,rfl,EZ _,fun _ _=>rfl⟩⟩
def a0Q (s t:BD):AL Int:=match t.data.toList with
 | [c]=>some (Lib.indexByte s.data.toList c)
 |_=>none
def adQ (s t:BD) (r:Int) (h:a0Q s t=some r):BA 317 [.d (DV s),.d (DV t)] [] (.d (Ae r)) []:=by
 unfold a0Q at h;split at h
 ·rename_i c j;rw[←Dq h];obtain⟨⟨l⟩⟩:=t;simp only at j;subst j;exact Ed.plain (vs:=[.string s,.string ⟨#[c]⟩]) (v:=.int .i64 (Lib.indexByte s.data.toList c)) (fun _ _ _=>.d _ _ (.lit _)) fun w=>(Tryz.stringslite_Index_one s c w).mono fun e w' ⟨q,u⟩=>⟨q,by rw[u];exact⟨rfl,rfl,rfl,EZ _,fun _ _=>rfl⟩⟩
 cases h
structure Xm (P:Program) (t:TypeId) (s:Nat) (z:Value):Prop where
 und:∃n e,P.underlying t=some (.array n e)/\∃i,P.info? e=some i/\i.size=s
 zero:(P.info? t).bind (·.zero)=some z
 one:z.cells.all (·.oneCell')=true
def aRR (P:Ce) (t:CG) (s:Nat):AZ:=
 match P.underlying t with
 |some (.array _ e)=>match P.info? e with
  |some i=>i.size=s
  |none=>false
 |_=>false
def qW {P:Ce} {t:CG} {s:Nat} {z:Au} (h:aRR P t s=true) (j:(P.info? t).bind (·.zero)=some z) (q:z.cells.all (·.oneCell')=true):Xm P t s z:=by
 unfold aRR at h;split at h
 ·rename_i n e u;split at h
  ·rename_i i hi;exact⟨⟨n,e,u,i,hi,SG h⟩,j,q⟩
  cases h
 cases h
section
variable {P:Ce} {o:Oper} {es:A8 Bd} {α:Type}
def afg {t:CG} {j:C9 (Nat×CM)} {s:Nat} {z:Au} (hA:Xm P t s z) (vs:A8 Af) (hp:OI (fun i=>some (i*s,s)) (GI z).length j.toList vs=true)
 (hd:(Kr (fun i=>some (i*s,s)) (GI z) j.toList vs).all Af.Bf=true) (ho:o.op=.build t j):
 CQ P o (Np j.toList vs) es (.d (.agg (JI (Kr (fun i=>some (i*s,s)) (GI z) j.toList vs)))) es:=
 .pure fun ok H a w _ _ hn=>by
  obtain⟨⟨n,e,hu,i,hi,hs⟩,hz,h1⟩:=hA;have u:=aDs (P:=P) hz w;have I:(underlying t).run P w=.ok (.array n e) w:=aA0
  have J:(sizeOf e).run P w=.ok s w:=aGV
  obtain⟨q,hc,L⟩:=uX (place:=fun i=>some (i*s,s)) j.toList vs (GI z) z.cells (aKe (ok:=ok) (w:=w) (H:=H) h1) hp hn;refine⟨.agg q,?_,.d _ _ ?_⟩
  ·have e:(j.map fun(i,x)=>(i,a.eval x)).toList=j.toList.map fun p=>(p.1,a.eval p.2):=Bh
   simp only[execOp,ho,Instr.build,G6,u,I,J,GY];rw[e,hc];rfl
  rw[aQk hd]at L;generalize JI (Kr (fun i=>some (i*s,s)) (GI z) j.toList vs)=xs at L ⊢;obtain⟨Z,M⟩:=L;simp only[Dc]at Z M
  have hg:∀i,i<xs.length->(xs.map Af.d).getD i .junk=.d (xs.getD i EO):=by
   intro i hi;simp[List.getD,hi]
  have O:q.size=xs.length:=by simpa using Z
  refine .agg xs q O ?_ ?_<;>intro i hi
  ·have :=(M i hi).1;rw[hg i hi]at this;exact this
  have U:=(M i hi).2;rw[hg i hi]at U;have Y:i<q.size:=AB
  have e:q.toList.getD i undef=q.getD i undef:=by simp[List.getD,Array.getD,Y]
  rw[e]at U;cases U with |d _ _ h=>exact h
def NZ (enc:α->D) (l:A8 α):D:=.agg (l.map enc)
def a0q {x y:CM} {t e:CG} {n:Nat} {k:IntKind} {i:Int} (enc:α->D) {l:A8 α} {a:α} (h:Ak l i=some a) (ht:P.underlying t=some (.array n e)) (I:Em P e false 1) (hl:l.length=n) (U:o.op=.index t x y):
 CQ P o [(x,.d (NZ enc l)),(y,.d (.lit (.int k i)))] es (.d (enc a)) es:=
 .pure fun ok H Y w _ _ J=>by
  obtain⟨Z,L⟩:=Gx h;have q:=(FI J).1;have M:=(FI J).2.lit;simp only at q M;have u:=(GH.1 L).1;have hu:(underlying t).run P w=.ok (.array n e) w:=Ox
  generalize hv:Y.eval x=v at q;cases q with
  |d _ _ q=>
   cases q with
   |agg _ vs z hf O=>
    rw[Dc]at z hf O;have j:i.toNat<vs.size:=AB
    refine⟨vs[i.toNat],?_,?_⟩
    ·have hb:0<=i/\i<n:=⟨Z,AB⟩
     simp only[execOp,U,hv,M,Instr.index,asIntOf,G6,Gy,hu,GY,hb,and_self,Ku,I.size w,part,I.agg w];simp[j]
    have :=O i.toNat u;simp only[Array.getD,j,dif_pos]at this;have e2:(l.map enc).getD i.toNat EO=enc a:=by simp[List.getD,L]
    rw[e2]at this;exact .d _ _ this
def agx {x:CM} {k off:Nat} (q:o.op=.nilCheck x):CQ P o [(x,.ptr k off)] es (.ptr k off) es:=
 .pure fun ok H a w _ _ z=>by
  have j:=LV z;simp only at j;generalize I:a.eval x=u at j;cases j with
  |ptr _ _ b s h=>exact⟨_,by simp[execOp,q,I],.ptr _ _ b s h⟩
def akE {x:CM} {k i off:Nat} (q:o.op=.nilCheck x):CQ P o [(x,.lq k i off)] es (.lq k i off) es:=
 .pure fun ok H a w _ _ z=>by
  have j:=LV z;simp only at j;generalize I:a.eval x=u at j;cases j with
  |lq _ _ _ b n cap s h=>exact⟨_,by simp[execOp,q,I],.lq _ _ _ b n cap s h⟩
def aer {x:CM} {cs:A8 D} {off:Nat} (z:o.op=.nilCheck x):CQ P o [(x,.d (.ref cs off))] es (.d (.ref cs off)) es:=
 .pure fun ok H a w _ _ I=>by
  have j:=LV I;simp only at j;generalize J:a.eval x=u at j;cases j with
  |d _ _ h=>cases h with
   |ref _ _ b p q L M O=>exact⟨_,by simp[execOp,z,J],.d _ _ (.ref _ _ b p q L M O)⟩
def aW0 (n:Nat):D:=.fn (.func n) [] []
end
def RY {α:Type} (p:α->Prop):A8 α->Prop
 | []=>True
 |x::l=>p x/\RY p l
def RY.mem {α:Type} {p:α->Prop}:∀{l:A8 α},RY p l->∀x∈l,p x
 | [],_,x,h=>Ip
 |y::l,hl,x,h=>by
  rcases FK.1 h with rfl|h
  ·exact hl.1
  exact hl.2.mem x h
class Kn (P:Program) where
 und:List (Nat×TypeDesc)
 amm:RY (fun p:Nat×TypeDesc=>P.underlying p.1=some p.2) und
 ty:List (Nat×Bool×Nat)
 hty:RY (fun p:Nat×Bool×Nat=>Em P p.1 p.2.1 p.2.2) ty
 fld:List ((Nat×Nat)×Nat)
 hfld:RY (fun p:(Nat×Nat)×Nat=>ED P p.1.1 p.1.2 p.2) fld
 part:List ((Nat×Nat)×Nat×Bool×Nat)
 hpart:RY (fun p:(Nat×Nat)×Nat×Bool×Nat=>jk P p.1.1 p.1.2 p.2.1 p.2.2.1 p.2.2.2=true) part
 zero:List (Nat×Value)
 hzero:RY (fun p:Nat×Value=>(P.info? p.1).bind (·.zero)=some p.2/\p.2.cells.all (·.oneCell')=true) zero
 st:List (Nat×List (Nat×Nat)×Value)
 hst:RY (fun p:Nat×List (Nat×Nat)×Value=>Ji P p.1 p.2.1 p.2.2) st
 arr:List (Nat×Nat×Value)
 harr:RY (fun p:Nat×Nat×Value=>Xm P p.1 p.2.1 p.2.2) arr
def RP {β:Type} (t:Nat):A8 (Nat×β)->AL β
 | []=>none
 |(u,b)::l=>match Nat.beq t u with |true=>some b|false=>RP t l
def OV {β:Type} {t:Nat} {b:β}:∀{l:A8 (Nat×β)},RP t l=some b->(t,b)∈l
 | [],h=>Ib
 |(u,c)::l,h=>by
  unfold RP at h;split at h
  ·rename_i e;cases h;rw[aIs e];exact H8
  exact IG _ (OV h)
def xQ {β:Type} (t f:Nat):A8 ((Nat×Nat)×β)->AL β
 | []=>none
 |((u,g),b)::l=>match Nat.beq t u&&Nat.beq f g with |true=>some b|false=>xQ t f l
def yD {β:Type} {t f:Nat} {b:β}:∀{l:A8 ((Nat×Nat)×β)},xQ t f l=some b->((t,f),b)∈l
 | [],h=>Ib
 |((u,g),c)::l,h=>by
  unfold xQ at h;split at h
  ·rename_i e;cases h;rw[Du]at e;rw[aIs e.1,aIs e.2];exact H8
  exact IG _ (yD h)
structure Q9 where
 ns:List (Operand×Af)
 x:Af
 E:List Bd
 bar:Bool
def aNr (op:BinOp) (k:IntKind) (a b:Int):AL Au:=
 match op with
 | .add=>some (.int k (k.wrap (a+b)))
 | .sub=>some (.int k (k.wrap (a-b)))
 | .mul=>some (.int k (k.wrap (a*b)))
 | .eql=>some (.bool (a==b))
 | .neq=>some (.bool (a != b))
 | .lss=>some (.bool (decide (a<b)))
 | .leq=>some (.bool (decide (a<=b)))
 | .gtr=>some (.bool (decide (a>b)))
 | .geq=>some (.bool (decide (a>=b)))
 |_=>none
def adq {op:BinOp} {k:IntKind} {a b:Int} {r:Au} {t:CG} {P:Ce} (h:aNr op k a b=some r) (w:BU):(binOp op t (.int k a) (.int k b)).run P w=.ok r w:=by
 unfold aNr at h;cases op<;>first|(cases h;done)|(cases h;simp[binOp,Op.intArith,Op.intCmp];done)|(cases h;cases k<;>rfl)
def aGQ (op:BinOp) (a b:BD):AL Au:=
 match op with
 | .eql=>some (.bool (a.toList==b.toList))
 | .neq=>some (.bool (!(a.toList==b.toList)))
 | .lss=>some (.bool (Op.bytesLess a.toList b.toList))
 | .leq=>some (.bool (Op.bytesLess a.toList b.toList||a.toList==b.toList))
 | .gtr=>some (.bool (!(Op.bytesLess a.toList b.toList||a.toList==b.toList)))
 | .geq=>some (.bool (!Op.bytesLess a.toList b.toList))
 |_=>none
def ae6 {op:BinOp} {a b:BD} {r:Au} {t:CG} {P:Ce} (h:aGQ op a b=some r) (w:BU):(binOp op t (.string a) (.string b)).run P w=.ok r w:=by
 unfold aGQ at h;cases op<;>first|(cases h;done)|(cases h;rfl)
def CQ.aE1 {P:Ce} {o:Oper} {ns j:A8 (CM×Af)} {es es':A8 Bd} {x:Af} (h:CQ P o ns es x es') (q:∀n∈ns,n∈j\/n=(.const (.slice none 0 0),.d (.sl []))):CQ P o j es x es':=by
 intro C ok H a w Q hm z;refine h C ok H a w Q hm (fun n u=>?_);rcases q n u with I|rfl
 ·exact z n I
 exact .d _ _ (.sl0 none 0)
def Af.aMO:Af->AL Au
 | .d (.lit v)=>some v
 |_=>none
def aLH {P:Ce} (K:Kn P) (σ:BO) (o:Oper):AL Q9:=
 match o.op with
 | .move x=>match x with
   | .const (.slice none 0 0)=>some ⟨[],.d (.sl []),σ.ents,false⟩
   |x=>some ⟨[(x,σ.get x)],σ.get x,σ.ents,false⟩
 | .assign x=>match x with
   | .const (.slice none 0 0)=>some ⟨[],.d (.sl []),σ.ents,false⟩
   |x=>some ⟨[(x,σ.get x)],σ.get x,σ.ents,false⟩
 | .pick c x y=>match σ.get c with
   | .d (.lit (.bool true))=>some ⟨[(c,.d (.lit (.bool true))),(x,σ.get x)],σ.get x,σ.ents,false⟩
   | .d (.lit (.bool false))=>some ⟨[(c,.d (.lit (.bool false))),(y,σ.get y)],σ.get y,σ.ents,false⟩
   |_=>none
 | .binOp op t x y _=>match σ.get x,σ.get y with
   | .d (.lit (.int k a)),.d (.lit (.int k' b))=>if k=k' then(aNr op k a b).map fun r=>⟨[(x,.d (.lit (.int k a))),(y,.d (.lit (.int k b)))],.d (.lit r),σ.ents,false⟩else none
   | .d (.lit (.string a)),.d (.lit (.string b))=>(aGQ op a b).map fun r=>⟨[(x,.d (.lit (.string a))),(y,.d (.lit (.string b)))],.d (.lit r),σ.ents,false⟩
   | .d (.lit (.bool a)),.d (.lit (.bool b))=>match RP t K.und with
     |some .bool=>match op with
      | .eql=>some ⟨[(x,.d (EY a)),(y,.d (EY b))],.d (EY (a==b)),σ.ents,false⟩
      | .neq=>some ⟨[(x,.d (EY a)),(y,.d (EY b))],.d (EY (!(a==b))),σ.ents,false⟩
      |_=>none
     |_=>none
   |_,_=>none
 | .unOp op _ x=>match σ.get x with
   | .d (.lit (.bool b))=>match op with
     | .not=>some ⟨[(x,.d (.lit (.bool b)))],.d (.lit (.bool !b)),σ.ents,false⟩
     |_=>none
   | .d (.lit (.int k n))=>match op with
     | .neg=>some ⟨[(x,.d (.lit (.int k n)))],.d (.lit (.int k (k.wrap (0-n)))),σ.ents,false⟩
     |_=>none
   |_=>none
 | .convert s t x=>match RP s K.und,RP t K.und,σ.get x with
   |some (.int J),some (.int k),.d (.lit (.int L n))=>if J=L then some ⟨[(x,.d (.lit (.int J n)))],.d (.lit (.int k (k.wrap n))),σ.ents,false⟩else none
   |some .string,some .string,.d (.lit (.string u))=>some ⟨[(x,.d (DV u))],.d (DV u),σ.ents,false⟩
   |_,_,_=>none
 | .extract x i=>match σ.get x with
   | .fC xs=>match xs[i]? with
     |some v=>some ⟨[(x,.fC xs)],v,σ.ents,false⟩
     |none=>none
   |_=>none
 | .fieldAddr t x f=>match xQ t f K.fld,σ.get x with
   |some off,.ptr k I=>some ⟨[(x,.ptr k I)],.ptr k (I+off),σ.ents,false⟩
   |some off,.lq k i I=>some ⟨[(x,.lq k i I)],.lq k i (I+off),σ.ents,false⟩
   |some off,.d (.ref cs I)=>some ⟨[(x,.d (.ref cs I))],.d (.ref cs (I+off)),σ.ents,false⟩
   |_,_=>none
 | .nilCheck x=>match σ.get x with
   | .ptr k I=>some ⟨[(x,.ptr k I)],.ptr k I,σ.ents,false⟩
   | .lq k i I=>some ⟨[(x,.lq k i I)],.lq k i I,σ.ents,false⟩
   | .d (.ref cs I)=>some ⟨[(x,.d (.ref cs I))],.d (.ref cs I),σ.ents,false⟩
   |_=>none
 | .field t x f=>match xQ t f K.part,σ.get x with
   |some (off,agg,n),.d (.agg cs)=>if off+n<=cs.length/\(agg=false->n=1)then some ⟨[(x,.d (.agg cs))],.d (QI agg cs off n),σ.ents,false⟩else none
   |_,_=>none
 | .load t x=>match RP t K.ty,σ.get x with
   |some (agg,n),.d (.ref cs off)=>if off+n<=cs.length/\(agg=false->n=1)then some ⟨[(x,.d (.ref cs off))],.d (QI agg cs off n),σ.ents,false⟩else none
   |some (agg,n),.ptr k off=>match σ.ents[k]? with
    |some (.box cs)=>if(off+n<=cs.length/\(agg=false->n=1))/\cs.all Af.Bf=true then some ⟨[(x,.ptr k off)],.d (QI agg (JI cs) off n),σ.ents,false⟩else match agg,n,cs[off]? with
     |false,1,some v=>some ⟨[(x,.ptr k off)],v,σ.ents,false⟩
     |_,_,_=>none
    |_=>none
   |_,_=>none
 | .box _ x=>if(σ.get x).cells.all Af.leaf=true then some ⟨[(x,σ.get x)],.ptr σ.ents.length 0,σ.ents++[.box (σ.get x).cells],true⟩else none
 | .alloc t=>match RP t K.zero with
   |some z=>some ⟨[],.ptr σ.ents.length 0,σ.ents++[.box (GI z)],true⟩
   |none=>none
 | .store t x y=>match RP t K.ty,σ.get x with
   |some (_,n),.ptr k off=>match σ.ents[k]? with
    |some (.box cs)=>match y with
     | .const (.slice none 0 0)=>if n=1/\off+1<=cs.length then some ⟨[(x,.ptr k off)],.junk,σ.ents.set k (.box (setAt cs off [.d (.sl [])])),true⟩else none
     |y=>if((σ.get y).cells.all Af.leaf=true/\(σ.get y).cells.length=n)/\off+n<=cs.length then some ⟨[(x,.ptr k off),(y,σ.get y)],.junk,σ.ents.set k (.box (setAt cs off (σ.get y).cells)),true⟩else none
    |_=>none
   |_,_=>none
 | .build t j=>match RP t K.st with
   |some (q,z)=>
    if OI (fun(i:Nat)=>q[i]?) (GI z).length j.toList (j.toList.map fun p=>σ.get p.2)=true/\(Kr (fun(i:Nat)=>q[i]?) (GI z) j.toList (j.toList.map fun p=>σ.get p.2)).all Af.Bf=true
    then some ⟨Np j.toList (j.toList.map fun p=>σ.get p.2),.d (.agg (JI (Kr (fun(i:Nat)=>q[i]?) (GI z) j.toList (j.toList.map fun p=>σ.get p.2)))),σ.ents,false⟩
    else none
   |none=>match RP t K.arr with
    |some (s,z)=>
     if OI (fun i=>some (i*s,s)) (GI z).length j.toList (j.toList.map fun p=>σ.get p.2)=true/\(Kr (fun i=>some (i*s,s)) (GI z) j.toList (j.toList.map fun p=>σ.get p.2)).all Af.Bf=true
     then some ⟨Np j.toList (j.toList.map fun p=>σ.get p.2),.d (.agg (JI (Kr (fun i=>some (i*s,s)) (GI z) j.toList (j.toList.map fun p=>σ.get p.2)))),σ.ents,false⟩
     else none
    |none=>none
 | .call c=>match c.callee,c.args.toList,c.argTypes.toList with
   | .builtin .len,[x],[t]=>match RP t K.und,σ.get x with
     |some .string,.d (.lit (.string s))=>some ⟨[(x,.d (DV s))],.d (Ae s.size),σ.ents,false⟩
     |_,_=>none
   |_,_,_=>none
 |_=>none
def aJ1 (σ:BO):∀(l:A8 (Nat×CM)),needs σ (Np l (l.map fun p=>σ.get p.2))
 | []=>trivial
 |(_,x)::l=>⟨rfl,aJ1 σ l⟩
def aha {P:Ce} (K:Kn P) {σ:BO} {o:Oper} {r:Q9} (h:aLH K σ o=some r):CQ P o r.ns σ.ents r.x r.E/\needs σ r.ns/\(r.bar=false->r.E=σ.ents):=by
 unfold aLH at h;split at h
 ·rename_i x j;split at h
  ·cases h;exact⟨acM j,trivial,fun _=>rfl⟩
  cases h;exact⟨aiJ j,⟨rfl,trivial⟩,fun _=>rfl⟩
 ·rename_i x j;split at h
  ·cases h;exact⟨aeo j,trivial,fun _=>rfl⟩
  cases h;exact⟨amQ j,⟨rfl,trivial⟩,fun _=>rfl⟩
 ·rename_i c x y j;split at h
  ·rename_i e;cases h;exact⟨ajB true rfl j,⟨e,rfl,trivial⟩,fun _=>rfl⟩
  ·rename_i e;cases h;exact⟨aZ8 false rfl j,⟨e,rfl,trivial⟩,fun _=>rfl⟩
  cases h
 ·rename_i op t x y t' j;split at h
  ·rename_i k a k' b U Y;split at h
   ·rename_i J;subst J;rw[Uu]at h;obtain⟨v,M,rfl⟩:=h;exact⟨GV j (adq M) ⟨rfl,rfl⟩,⟨U,Y,trivial⟩,fun _=>rfl⟩
   cases h
  ·rename_i a b U Y;rw[Uu]at h;obtain⟨v,M,rfl⟩:=h;exact⟨GV j (ae6 M) ⟨rfl,rfl⟩,⟨U,Y,trivial⟩,fun _=>rfl⟩
  ·rename_i a b U Y;split at h
   ·rename_i Z;have Z:=K.amm.mem _ (OV Z);split at h
    ·cases h;exact⟨aZh Z j,⟨U,Y,trivial⟩,fun _=>rfl⟩
    ·cases h;exact⟨aml Z j,⟨U,Y,trivial⟩,fun _=>rfl⟩
    cases h
   cases h
  cases h
 ·rename_i op t x j;split at h
  ·rename_i b e;split at h
   ·cases h;exact⟨aLy j (fun _=>rfl),⟨e,trivial⟩,fun _=>rfl⟩
   cases h
  ·rename_i k n e;split at h
   ·cases h;exact⟨aLy j (fun _=>rfl),⟨e,trivial⟩,fun _=>rfl⟩
   cases h
  cases h
 ·rename_i s t x j;split at h
  ·rename_i k0 k k1 n I h2 e;split at h
   ·rename_i J;subst J;cases h;exact⟨acC (K.amm.mem _ (OV I)) (K.amm.mem _ (OV h2)) j,⟨e,trivial⟩,fun _=>rfl⟩
   cases h
  ·rename_i u I h2 e;cases h;exact⟨afy (K.amm.mem _ (OV I)) (K.amm.mem _ (OV h2)) j,⟨e,trivial⟩,fun _=>rfl⟩
  cases h
 ·rename_i x i j;split at h
  ·rename_i xs e;split at h
   ·rename_i v M;cases h;exact⟨aij j M,⟨e,trivial⟩,fun _=>rfl⟩
   cases h
  cases h
 ·rename_i t x f j;split at h
  ·rename_i off k o' I e;cases h;exact⟨acn (K.hfld.mem _ (yD I)) j,⟨e,trivial⟩,fun _=>rfl⟩
  ·rename_i off k i o' I e;cases h;exact⟨alH (K.hfld.mem _ (yD I)) j,⟨e,trivial⟩,fun _=>rfl⟩
  ·rename_i off cs o' I e;cases h;exact⟨aeH (K.hfld.mem _ (yD I)) j,⟨e,trivial⟩,fun _=>rfl⟩
  cases h
 ·rename_i x j;split at h
  ·rename_i e;cases h;exact⟨agx j,⟨e,trivial⟩,fun _=>rfl⟩
  ·rename_i e;cases h;exact⟨akE j,⟨e,trivial⟩,fun _=>rfl⟩
  ·rename_i e;cases h;exact⟨aer j,⟨e,trivial⟩,fun _=>rfl⟩
  cases h
 ·rename_i t x f j;split at h
  ·rename_i off agg n cs I e;split at h
   ·rename_i q;cases h;exact⟨aek rfl (K.hpart.mem _ (yD I)) q.1 q.2 j,⟨e,trivial⟩,fun _=>rfl⟩
   cases h
  cases h
 ·rename_i t x j;split at h
  ·rename_i agg n cs off I e;split at h
   ·rename_i q;cases h;exact⟨acG rfl (K.hty.mem _ (OV I)) q.1 q.2 j,⟨e,trivial⟩,fun _=>rfl⟩
   cases h
  ·rename_i agg n k off I e;split at h
   ·rename_i cs J;split at h
    ·rename_i q;cases h;exact⟨adL rfl J q.2 (K.hty.mem _ (OV I)) q.1.1 q.1.2 j,⟨e,trivial⟩,fun _=>rfl⟩
    split at h
    ·rename_i v M _;cases h;exact⟨aY4 J M (K.hty.mem _ (OV I)) j,⟨e,trivial⟩,fun _=>rfl⟩
    cases h
   cases h
  cases h
 ·rename_i t x j;split at h
  ·rename_i q;cases h;exact⟨ai9 q j,⟨rfl,trivial⟩,fun O=>by cases O⟩
  cases h
 ·rename_i t j;split at h
  ·rename_i z hz;cases h;exact⟨aiK (K.hzero.mem _ (OV hz)).1 (K.hzero.mem _ (OV hz)).2 j,trivial,fun O=>by cases O⟩
  cases h
 ·rename_i t x y j;split at h
  ·rename_i agg n k off I e;split at h
   ·rename_i cs J;split at h
    ·split at h
     ·rename_i q;cases h;refine⟨CQ.aE1 (aP5 (v:=.d (.sl [])) J rfl (by have h9:=(K.hty.mem _ (OV I)).size;rw[q.1]at h9;exact h9) rfl q.2 j) (fun n hn=>?_),⟨e,trivial⟩,fun O=>by cases O⟩;simp only[FK,G5,iY]at hn;rcases hn with rfl|rfl
      ·exact .inl Bh
      exact .inr rfl
     cases h
    split at h
    ·rename_i q;cases h;exact⟨aP5 J q.1.1 (K.hty.mem _ (OV I)).size q.1.2 q.2 j,⟨e,rfl,trivial⟩,fun O=>by cases O⟩
    cases h
   cases h
  cases h
 ·rename_i t parts j;split at h
  ·rename_i places z hs;split at h
   ·rename_i q;cases h;exact⟨aZ0 (K.hst.mem _ (OV hs)) _ j rfl q.1 q.2,aJ1 σ _,fun _=>rfl⟩
   cases h
  split at h
  ·rename_i s z hs;split at h
   ·rename_i q;cases h;exact⟨afg (K.harr.mem _ (OV hs)) _ q.1 q.2 j,aJ1 σ _,fun _=>rfl⟩
   cases h
  cases h
 ·rename_i c j;split at h
  ·rename_i x t L ha ht
   have j:o.op=.call { callee:=.builtin .len,args:= #[x],argTypes:= #[t] }:=by
    obtain⟨cal,aMP,ts⟩:=c;simp only at L ha ht;rw[j,L,show aMP= #[x]from by rw[←au (xs:=aMP),ha],show ts= #[t]from by rw[←au (xs:=ts),ht]]
   split at h
   ·rename_i s I e;cases h;exact⟨akh s (K.amm.mem _ (OV I)) j,⟨e,trivial⟩,fun _=>rfl⟩
   cases h
  cases h
 cases h
def JD (ops:C9 Oper) (σ:BO):AL (Nat×AZ)->AL AZ
 |none=>some true
 |some (j,q)=>match(ops[j]?).bind (·.dst)with
  |some d=>match σ.slots.getD d .junk with
   | .d (.lit (.bool b))=>some (b==q)
   | .d (.lit (.tuple a))=>match a.toList with
     | []=>some false
     |_=>none
   |_=>none
  |none=>none
def NS {ops:C9 Oper} {σ:BO} {g:AL (Nat×AZ)} (h:JD ops σ g=some true):X8 ops σ g:=by
 unfold JD at h;split at h
 ·exact .inl rfl
 rename_i j q;split at h
 ·rename_i d hd;split at h
  ·rename_i b hs;refine .inr ⟨j,q,d,b,rfl,hd,hs,?_⟩;simpa using h
  ·split at h<;>cases h
  cases h
 cases h
def ac2 {ops:C9 Oper} {σ:BO} {g:AL (Nat×AZ)} (h:JD ops σ g=some false):Yj ops σ g:=by
 unfold JD at h;split at h
 ·cases h
 rename_i j q;split at h
 ·rename_i d hd;split at h
  ·rename_i b hs;refine aaL j q d b rfl hd hs ?_;have :(b==q)=false:=Dq h;cases b<;>cases q<;>first|rfl|cases this
  ·rename_i a hs;split at h
   ·rename_i ha;have ha:a= #[]:=by rw[←au (xs:=a),ha]
    subst ha;exact afa j q d rfl hd hs
   cases h
  cases h
 cases h
def Wj {P:Ce} (K:Kn P) (ops:C9 Oper) (σ:BO) (o:Oper):AL Q9:=
 match JD ops σ o.guard with
 |some true=>match aLH K σ o with
  |some r=>if(NJ r.ns).all (tmpsOf o).contains=true then some r else none
  |none=>none
 |some false=>some ⟨[],.d (.lit undef),σ.ents,false⟩
 |none=>none
def Y6 {P:Ce} (K:Kn P) {ops:C9 Oper} {σ:BO} {o:Oper} {r:Q9} (h:Wj K ops σ o=some r):Ry P ops σ r.x r.E r.bar o:=by
 unfold Wj at h;split at h
 ·rename_i j;split at h
  ·rename_i J q;split at h
   ·rename_i ht;cases h;obtain⟨u,z,I⟩:=aha K q;exact⟨.inl ⟨_,u,z,ht,NS j⟩,I⟩
   cases h
  cases h
 ·rename_i j;cases h;exact⟨.inr ⟨rfl,rfl,ac2 j⟩,fun _=>rfl⟩
 cases h
def Gv {P:Ce} (K:Kn P) (ops:C9 Oper):Nat->A8 Oper->BO->AL (BO×A8 Q9)
 |0,_,σ=>some (σ,[])
 |n+1,l,σ=>match l with
  |o::l=>match Wj K ops σ o with
   |some r=>match Gv K ops n l (σ.put o.dst r.x r.E)with
    |some (σ',rs)=>some (σ',r::rs)
    |none=>none
   |none=>none
  | []=>none
def Oj :AL (BO×A8 Q9)->BO
 |some (σ,_)=>σ
 |none=>⟨[],[],0⟩
def Zb :AL (BO×A8 Q9)->A8 Q9
 |some (_,rs)=>rs
 |none=>[]
def Chain.auto {P:Ce} (K:Kn P) {ops:C9 Oper}:∀(n:Nat) {l:A8 Oper} {σ σ':BO},(Gv K ops n l σ).isSome=true->Chain P ops (l.drop n) (Oj (Gv K ops n l σ)) σ'->Chain P ops l σ σ'
 |0,l,σ,σ',_,k=>by simpa[Gv,Oj]using k
 |n+1,l,σ,σ',h,k=>by
  unfold Gv at h k;split at h
  ·rename_i o l';split at h
   ·rename_i r q;split at h
    ·rename_i u rs j;simp only[q,j]at k;refine .ahM o.dst (Y6 K q) rfl (Chain.auto K n (by rw[j];rfl) ?_);rw[j];exact k
    cases h
   cases h
  cases h
def FZ.auto {P:Ce} (K:Kn P) {ops:C9 Oper}:∀(n:Nat) {l:A8 Oper} {σ σ':BO} {rs:A8 Af} {ess:A8 (A8 Bd)} {bs:A8 AZ},(Gv K ops n l σ).isSome=true->FZ P ops (l.drop n) (Oj (Gv K ops n l σ)) rs ess bs σ'->
 FZ P ops l σ ((Zb (Gv K ops n l σ)).map Q9.x++rs) ((Zb (Gv K ops n l σ)).map Q9.E++ess) ((Zb (Gv K ops n l σ)).map Q9.bar++bs) σ'
 |0,l,σ,σ',rs,ess,bs,_,k=>by simpa[Gv,Oj,Zb]using k
 |n+1,l,σ,σ',rs,ess,bs,h,k=>by
  unfold Gv at h k ⊢;split at h
  ·rename_i o l';split at h
   ·rename_i r q;split at h
    ·rename_i z u j;simp only[q,j]at k ⊢;refine .ahM o.dst (Y6 K q) rfl ?_;have :=FZ.auto K n (l:=l') (σ:=σ.put o.dst r.x r.E) (σ':=σ') (rs:=rs) (ess:=ess) (bs:=bs) (by rw[j];rfl) (by rw[j];exact k);rw[j]at this;exact this
    cases h
   cases h
  cases h
def Chain.a {P:Ce} [T:Kn P] {ops:C9 Oper} {l:A8 Oper} {σ σ':BO} (n:Nat) (k:Chain P ops (l.drop n) (Oj (Gv T ops n l σ)) σ') (h:(Gv T ops n l σ).isSome=true:=by kernel_rfl):Chain P ops l σ σ':=Chain.auto T n h k
def FZ.a {P:Ce} [T:Kn P] {ops:C9 Oper} {l:A8 Oper} {σ σ':BO} {rs:A8 Af} {ess:A8 (A8 Bd)} {bs:A8 AZ} (n:Nat) (k:FZ P ops (l.drop n) (Oj (Gv T ops n l σ)) rs ess bs σ') (h:(Gv T ops n l σ).isSome=true:=by kernel_rfl):
 FZ P ops l σ ((Zb (Gv T ops n l σ)).map Q9.x++rs) ((Zb (Gv T ops n l σ)).map Q9.E++ess) ((Zb (Gv T ops n l σ)).map Q9.bar++bs) σ':=FZ.auto T n h k
def Chain.c {P:Ce} [T:Kn P] {ops:C9 Oper} {o:Oper} {rest:A8 Oper} {σ σ':BO} {e c:AZ} (h:some e=some c) (k:Chain P ops rest (σ.sG o.dst (.d (.lit (.bool c)))) σ') (hs:(Wj T ops σ o).map (fun r=>(r.x,r.E,r.bar))=some (.d (.lit (.bool e)),σ.ents,false):=by kernel_rfl):Chain P ops (o::rest) σ σ':=by
 rw[Uu]at hs;obtain⟨r,u,j⟩:=hs;have q:=Y6 T u;simp only[RV]at j;rw[j.1,j.2.1,j.2.2,Dq h]at q;exact .ahM o.dst q rfl k
def FZ.c {P:Ce} [T:Kn P] {ops:C9 Oper} {o:Oper} {rest:A8 Oper} {σ σ':BO} {rs:A8 Af} {ess:A8 (A8 Bd)} {bs:A8 AZ} {e c:AZ} (h:some e=some c) (k:FZ P ops rest (σ.sG o.dst (.d (.lit (.bool c)))) rs ess bs σ') (hs:(Wj T ops σ o).map (fun r=>(r.x,r.E,r.bar))=some (.d (.lit (.bool e)),σ.ents,false):=by kernel_rfl):
 FZ P ops (o::rest) σ (.d (.lit (.bool c))::rs) (σ.ents::ess) (false::bs) σ':=by
 rw[Uu]at hs;obtain⟨r,u,j⟩:=hs;have q:=Y6 T u;simp only[RV]at j;rw[j.1,j.2.1,j.2.2,Dq h]at q;exact .ahM o.dst q rfl k
def aX8 (σ:BO) (ns:A8 (CM×Af)):Prop:=(ns.map fun n=>σ.get n.1)=ns.map (·.2)
def Ub {σ:BO}:∀{ns:A8 (CM×Af)},aX8 σ ns->needs σ ns
 | [],_=>trivial
 |n::ns,h=>by
  simp only[aX8,JR,aGz]at h;exact⟨h.1,Ub h.2⟩
def Chain.p {P:Ce} {ops:C9 Oper} {o:Oper} {rest:A8 Oper} {σ σ':BO} {ns:A8 (CM×Af)} {x:Af} (h:CQ P o ns σ.ents x σ.ents) (k:Chain P ops rest (σ.sG o.dst x) σ') (j:(ns.map fun n=>σ.get n.1)=ns.map (·.2):=by kernel_rfl) (q:JD ops σ o.guard=some true:=by kernel_rfl):Chain P ops (o::rest) σ σ':=
 .op o.dst h (Ub j) (NS q) rfl k
def FZ.p {P:Ce} {ops:C9 Oper} {o:Oper} {rest:A8 Oper} {σ σ':BO} {ns:A8 (CM×Af)} {x:Af} {rs:A8 Af} {ess:A8 (A8 Bd)} {bs:A8 AZ} (h:CQ P o ns σ.ents x σ.ents) (k:FZ P ops rest (σ.sG o.dst x) rs ess bs σ') (j:(ns.map fun n=>σ.get n.1)=ns.map (·.2):=by kernel_rfl) (q:JD ops σ o.guard=some true:=by kernel_rfl)
 (ht:(NJ ns).all (tmpsOf o).contains=true:=by kernel_rfl):FZ P ops (o::rest) σ (x::rs) (σ.ents::ess) (false::bs) σ':=
 .op o.dst h (Ub j) (NS q) rfl ht k
def Chain.e {P:Ce} {ops:C9 Oper} {o:Oper} {rest:A8 Oper} {σ σ':BO} {ns:A8 (CM×Af)} {x:Af} {es':A8 Bd} (E:A8 Bd) (h:CQ P o ns σ.ents x es') (k:Chain P ops rest (σ.put o.dst x E) σ') (j:es'=E:=by kernel_rfl) (q:(ns.map fun n=>σ.get n.1)=ns.map (·.2):=by kernel_rfl) (u:JD ops σ o.guard=some true:=by kernel_rfl):Chain P ops (o::rest) σ σ':=
 .oe o.dst E h j (Ub q) (NS u) rfl k
def FZ.e {P:Ce} {ops:C9 Oper} {o:Oper} {rest:A8 Oper} {σ σ':BO} {ns:A8 (CM×Af)} {x:Af} {es':A8 Bd} {rs:A8 Af} {ess:A8 (A8 Bd)} {bs:A8 AZ} (E:A8 Bd) (h:CQ P o ns σ.ents x es') (k:FZ P ops rest (σ.put o.dst x E) rs ess bs σ') (j:es'=E:=by kernel_rfl) (q:(ns.map fun n=>σ.get n.1)=ns.map (·.2):=by kernel_rfl) (u:JD ops σ o.guard=some true:=by kernel_rfl)
 (ht:(NJ ns).all (tmpsOf o).contains=true:=by kernel_rfl):FZ P ops (o::rest) σ (x::rs) (E::ess) (true::bs) σ':=
 .oe o.dst E h j (Ub q) (NS u) rfl ht k
def UU (σ:BO) (o:Oper):AL (FuncId×A8 Af):=
 match o.op with
 | .call c=>match c.callee with
   | .value (.func f)=>some (f,c.args.toList.map σ.get)
   |_=>none
 |_=>none
def aP7 {srcs:A8 EU}:∀{l:A8 Af},l.all Af.Bf=true->Nb srcs l l
 | [],_=>trivial
 |x::l,h=>by
  simp only[yE,Du]at h;refine⟨?_,aP7 h.2⟩;cases x with
  |d x=>exact .inl rfl
  |_=>cases h.1
def aTZ (σ:BO):∀(l:A8 CM),needs σ (G7 l (l.map σ.get))
 | []=>trivial
 |_::l=>⟨rfl,aTZ σ l⟩
def a04 {P:Ce} {σ:BO} {o:Oper} {f:FuncId} {eH:A8 Af} {u:Af} (L:Ed P f eH [] u []) (M:Hd P f=true) (q:UU σ o=some (f,eH)) (hd:eH.all Af.Bf=true):∃ns,CQ P o ns σ.ents (u.up [] σ.ents.length) σ.ents/\needs σ ns/\(NJ ns).all (tmpsOf o).contains=true:=by
 unfold UU at q;split at q
 ·rename_i c J;split at q
  ·rename_i Y j;cases q;obtain⟨callee,args,ats⟩:=c;simp only at j;subst j;refine⟨_,aWg L M (aP7 hd) Bh rfl J,aTZ σ _,?_⟩;rw[El];intro t ht;unfold NJ at ht;rw[VA]at ht;obtain⟨n,O,I⟩:=ht
   have z:n.1∈args.toList:=by
    have :∀(l:A8 CM) (vs:A8 Af),n∈G7 l vs->n.1∈l:=by
     intro l
     induction l with
     |nil=>intro vs h;cases vs<;>simp[G7]at h
     |cons x l U=>
      intro vs h;cases vs with
      |nil=>simp[G7]at h
      |cons v vs=>
       simp only[G7,FK]at h;rcases h with rfl|h
       ·exact H8
       exact IG _ (U vs h)
    exact this _ _ O
   unfold tmpsOf;simp only[List.contains_iff_mem,VA];refine⟨n.1,?_,I⟩;rw[J];show n.1∈(#[Operand.func f]++args).toList;simp[z]
  cases q
 cases q
def Chain.call {P:Ce} {ops:C9 Oper} {o:Oper} {rest:A8 Oper} {σ σ':BO} {f:FuncId} {eH:A8 Af} {j:Af} (q:Ed P f eH [] j []) (u:Hd P f=true) (k:Chain P ops rest (σ.sG o.dst (j.up [] σ.ents.length)) σ') (z:UU σ o=some (f,eH):=by kernel_rfl)
 (hd:eH.all Af.Bf=true:=by kernel_rfl) (I:JD ops σ o.guard=some true:=by kernel_rfl):Chain P ops (o::rest) σ σ':=by
 obtain⟨ns,J,L,_⟩:=a04 q u z hd;exact .op o.dst J L (NS I) rfl k
def FZ.call {P:Ce} {ops:C9 Oper} {o:Oper} {rest:A8 Oper} {σ σ':BO} {f:FuncId} {eH:A8 Af} {j:Af} {rs:A8 Af} {ess:A8 (A8 Bd)} {bs:A8 AZ} (q:Ed P f eH [] j []) (u:Hd P f=true) (k:FZ P ops rest (σ.sG o.dst (j.up [] σ.ents.length)) rs ess bs σ') (z:UU σ o=some (f,eH):=by kernel_rfl)
 (hd:eH.all Af.Bf=true:=by kernel_rfl) (I:JD ops σ o.guard=some true:=by kernel_rfl):FZ P ops (o::rest) σ (j.up [] σ.ents.length::rs) (σ.ents::ess) (false::bs) σ':=by
 obtain⟨ns,J,L,M⟩:=a04 q u z hd;exact .op o.dst J L (NS I) rfl M k
def uq (v:Au):Exit:=.panic [{ v,recovered:=false }]
structure Dv (P:Program) (ops:Array Oper) (l:List Oper) (σ:BO) (K:Exit->BO->Prop):Prop where
 run:∀(ro:Option Nat) (l2:List Oper) (Q:Exit->Act->World->Prop) (C:Ey) (ok:Nat->Prop) (H:List CP) (a:Act) (w:World),Holds C ok H σ a w->
  ((∀σ' ok' H' a' w',K .normal σ'->Holds C ok' H' σ' a' w'->wpListIn (JO ro) 0 P ops Q l2 a' w')/\(∀v σ' ok' H' a' w',K (uq v) σ'->Holds C ok' H' σ' a' w'->Q (uq v) a' w'))->wpListIn (JO ro) 0 P ops Q (l++l2) a w
section
variable {P:Ce} {ops:C9 Oper} {o:Oper} {rest l:A8 Oper} {σ:BO} {K:Exit->BO->Prop}
def Dv.nil (h:K .normal σ):Dv P ops [] σ K:=⟨fun _ _ _ _ _ _ _ _ j q=>q.1 _ _ _ _ _ h j⟩
def Dv.aY {M:BO->Prop} (h:M σ):Dv P ops [] σ (Jp M K):=.nil h
def Dv.step {x:Af} {E:A8 Bd} {bar:AZ} (hs:Ry P ops σ x E bar o) (k:Dv P ops rest (σ.put o.dst x E) K):Dv P ops (o::rest) σ K:=by
 refine⟨fun ro q Q C ok H a w j L=>?_⟩;show wpListIn (JO ro) 0 P ops Q (o::(rest++q)) a w;unfold wpListIn;rcases hs.1 with⟨ns,M,O,_,u⟩|⟨rfl,rfl,u⟩
 ·rw[Di (Qe j u)];refine S9 ?_ (M.inR ro C ok H a w Q j.mem (fun n z=>RX O n z▸j.get n.1));rintro a' w' ⟨v,ok',H',rfl,I,J,hm,U⟩;exact k.run ro q Q C _ _ _ _ (j.put o.dst I J hm U) L
 rw[Dp (by rw[aMc j u];simp)];exact⟨fun _ _=>trivial,k.run ro q Q C _ _ _ _ (j.put o.dst (.refl _ _) (.refl _) j.mem (.d _ _ (.lit _))) L⟩
def Dv.conv (q:BO) (h:∀C ok H a w,Holds C ok H σ a w->∃ok',Holds C ok' H q a w) (k:Dv P ops l q K):Dv P ops l σ K:=⟨fun ro u Q C ok H a w z I=>by
 obtain⟨ok',j⟩:=h C ok H a w z
 exact k.run ro u Q C _ _ _ _ j I⟩
def Dv.auto (T:Kn P):∀(n:Nat) {l:A8 Oper} {σ:BO},(Gv T ops n l σ).isSome=true->Dv P ops (l.drop n) (Oj (Gv T ops n l σ)) K->Dv P ops l σ K
 |0,l,σ,_,k=>by simpa[Gv,Oj]using k
 |n+1,l,σ,h,k=>by
  unfold Gv at h k;split at h
  ·rename_i o l';split at h
   ·rename_i r q;split at h
    ·rename_i u rs j;simp only[q,j]at k;refine .step (Y6 T q) (Dv.auto T n (by rw[j];rfl) ?_);rw[j];exact k
    cases h
   cases h
  cases h
def Dv.a [T:Kn P] (n:Nat) (k:Dv P ops (l.drop n) (Oj (Gv T ops n l σ)) K) (h:(Gv T ops n l σ).isSome=true:=by kernel_rfl):Dv P ops l σ K:=Dv.auto T n h k
def Dv.p {ns:A8 (CM×Af)} {x:Af} (h:CQ P o ns σ.ents x σ.ents) (k:Dv P ops rest (σ.sG o.dst x) K) (j:(ns.map fun n=>σ.get n.1)=ns.map (·.2):=by kernel_rfl) (q:JD ops σ o.guard=some true:=by kernel_rfl) (ht:(NJ ns).all (tmpsOf o).contains=true:=by kernel_rfl):Dv P ops (o::rest) σ K:=
 .step (aRc h (Ub j) (NS q) ht) k
def Dv.e {ns:A8 (CM×Af)} {x:Af} {es':A8 Bd} (E:A8 Bd) (h:CQ P o ns σ.ents x es') (k:Dv P ops rest (σ.put o.dst x E) K) (j:es'=E:=by kernel_rfl) (q:(ns.map fun n=>σ.get n.1)=ns.map (·.2):=by kernel_rfl) (u:JD ops σ o.guard=some true:=by kernel_rfl) (ht:(NJ ns).all (tmpsOf o).contains=true:=by kernel_rfl):Dv P ops (o::rest) σ K:=
 .step (bar:=true) ⟨.inl ⟨ns,j▸h,Ub q,ht,NS u⟩,fun h=>Ib⟩ k
def Dv.call {f:FuncId} {eH:A8 Af} {j:Af} (q:Ed P f eH [] j []) (u:Hd P f=true) (k:Dv P ops rest (σ.sG o.dst (j.up [] σ.ents.length)) K) (z:UU σ o=some (f,eH):=by kernel_rfl)
 (hd:eH.all Af.Bf=true:=by kernel_rfl) (I:JD ops σ o.guard=some true:=by kernel_rfl):Dv P ops (o::rest) σ K:=by
 obtain⟨ns,J,L,M⟩:=a04 q u z hd;exact .step (aRc J L (NS I) M) k
def Dv.c [T:Kn P] {e c:AZ} (h:some e=some c) (k:Dv P ops rest (σ.sG o.dst (.d (.lit (.bool c)))) K) (hs:(Wj T ops σ o).map (fun r=>(r.x,r.E,r.bar))=some (.d (.lit (.bool e)),σ.ents,false):=by kernel_rfl):Dv P ops (o::rest) σ K:=by
 rw[Uu]at hs;obtain⟨r,u,j⟩:=hs;have q:=Y6 T u;simp only[RV]at j;rw[j.1,j.2.1,j.2.2,Dq h]at q;exact .step q k
def BO.wipe (j:A8 Nat) (σ:BO):BO:=⟨j.foldl (fun l d=>l.set d .junk) σ.slots,σ.ents,σ.base⟩
def Holds.wipe {C:Ey} {ok:Nat->Prop} {H:A8 CP} {a:Act} {w:BU}:∀(j:A8 Nat) {σ:BO},Holds C ok H σ a w->Holds C ok H (σ.wipe j) a w
 | [],σ,h=>h
 |d::j,σ,h=>by
  refine Holds.wipe j (σ:=⟨σ.slots.set d .junk,σ.ents,σ.base⟩) ⟨h.mem,by simpa using h.size,h.defers,h.base,fun t ht=>?_⟩;simp only[kC]at ht;by_cases e:d=t
  ·subst e;have q:(σ.slots.set d .junk).getD d .junk=.junk:=aKT
   rw[q];exact .junk _
  have q:(σ.slots.set d .junk).getD t .junk=σ.slots.getD t .junk:=aM6
  rw[q];exact h.slot t ht
def aYf (n:Nat) (l j:A8 Oper):l++j=l.take n++(l.drop n++j):=by
 rw[←Jd,Rs]
def Dv.join (n:Nat) (M:BO->Prop) (z:∀s,M s->Dv P ops (l.drop n) s K) (I:Dv P ops (l.take n) σ (Jp M K)):Dv P ops l σ K:=⟨fun ro q Q C ok H a w J u=>by
 rw[aYf n l q]
 exact I.run ro _ Q C ok H a w J ⟨fun σ' ok' H' a' w' L j=>(z σ' L).run ro q Q C ok' H' a' w' j u,u.2⟩⟩
def Dv.merge (n:Nat) (j:A8 Nat) (d:Nat) (x:Af) (u:Dv P ops (l.take n) σ (Jp (fun s=>s.wipe j=(σ.wipe j).sG (some d) x) K)) (z:Dv P ops (l.drop n) ((σ.wipe j).sG (some d) x) K):Dv P ops l σ K:=
 .join n _ (fun s hs=>⟨fun ro I Q C ok H a w J L=>by
  have e:s.wipe j=(σ.wipe j).sG (some d) x:=hs;have q:=J.wipe j;rw[e]at q
  exact z.run ro I Q C ok H a w q L⟩) u
def Ar {id:Nat} {Q:Exit->BO->Prop} (h:Dv P ops ops.toList σ Q):Bv P (.region id ops false) σ Q:=⟨fun ro _ C ok H a w u=>by
 refine aRJ ?_;have :=h.run ro [] (fun e a' w'=>∃ok' H' σ',Holds C ok' H' σ' a' w'/\Q e σ') C ok H a w u ⟨fun σ' ok' H' a' w' q j=>⟨ok',H',σ',j,q⟩,fun v σ' ok' H' a' w' q j=>⟨ok',H',σ',j,q⟩⟩
 rwa [PK]at this⟩
def BR {id:Nat} {y:Code} {Q:Exit->BO->Prop} (h:Dv P ops ops.toList σ (Jp (fun s=>Bv P y s Q) Q)):Bv P (.seq (.region id ops false) y) σ Q:=
 Bv.seq (fun s=>Bv P y s Q) (Ar h) (fun _ h=>h)
def AU [T:Kn P] {id:Nat} {y:Code} {Q:Exit->BO->Prop} (n:Nat) (k:Dv P ops (ops.toList.drop n) (Oj (Gv T ops n ops.toList σ)) (Jp (fun s=>Bv P y s Q) Q)) (h:(Gv T ops n ops.toList σ).isSome=true:=by kernel_rfl):Bv P (.seq (.region id ops false) y) σ Q:=BR (Dv.a n k h)
end
def BF (n:Nat) (l:A8 (Nat×Af)):A8 Af:=(List.range n).map fun i=>(RP i l).getD .junk
def mk (n w:Nat):A8 AZ:=(List.range n).map fun i=>Nat.testBit w i
def aiz {σ S:BO} (m:A8 AZ) (π:A8 (Nat×AZ)) (j:Ut σ.base σ.ents π=true:=by kernel_rfl) (q:S=⟨MR π m σ.slots,Sl σ.ents π,σ.base⟩:=by kernel_rfl):CX σ S:=aDY.sub ⟨m,π,j,q⟩
inductive LM (P:Program) where
 |call (i:Nat) (f:FuncId) (eH:List Af) (res:Af) (run:Ed P f eH [] res []) (ent:Hd P f=true) (dat:eH.all Af.Bf=true)
 |dat (i:Nat) (op:Op) (ns:List (Operand×Af)) (x:Af) (h:∀(o:Oper) (es:List Bd),o.op=op->CQ P o ns es x es)
 |at_ (i:Nat) (op:Op) (ns:List (Operand×Af)) (k:Nat) (e:Bd) (x:Af) (h:∀(o:Oper) (es:List Bd),es[k]? =some e->o.op=op->CQ P o ns es x es)
 |fix (i:Nat) (op:Op) (ns:List (Operand×Af)) (es:List Bd) (x:Af) (E:List Bd) (h:∀(o:Oper),o.op=op->CQ P o ns es x E)
def LM.ix {P:Ce}:LM P->Nat
 | .call i .. =>i
 | .dat i .. =>i
 | .at_ i .. =>i
 | .fix i .. =>i
inductive Xl where
 |call (c:Option (FuncId×List Af))
 |dat (op:Op) (vs:List Af)
 |at_ (op:Op) (vs:List Af) (e:Option Bd)
 |fix (op:Op) (vs:List Af) (es:List Bd)
def aLq {P:Ce} (i:Nat):A8 (LM P)->AL (LM P)
 | []=>none
 |c::l=>match Nat.beq i c.ix with |true=>some c|false=>aLq i l
section
variable {P:Ce}
def xI (σ:BO) (o:Oper):LM P->BO×AL Xl
 | .call _ _ _ j _ _ _=>(σ.sG o.dst (j.up [] σ.ents.length),some (.call (UU σ o)))
 | .dat _ _ ns x _=>(σ.sG o.dst x,some (.dat o.op (ns.map fun n=>σ.get n.1)))
 | .at_ _ _ ns k _ x _=>(σ.sG o.dst x,some (.at_ o.op (ns.map fun n=>σ.get n.1) σ.ents[k]?))
 | .fix _ _ ns _ x E _=>(σ.put o.dst x E,some (.fix o.op (ns.map fun n=>σ.get n.1) σ.ents))
def og :LM P->Xl
 | .call _ f eH _ _ _ _=>.call (some (f,eH))
 | .dat _ op ns _ _=>.dat op (ns.map (·.2))
 | .at_ _ op ns _ e _ _=>.at_ op (ns.map (·.2)) (some e)
 | .fix _ op ns es _ _ _=>.fix op (ns.map (·.2)) es
def U5 (T:Kn P) (L:A8 (LM P)) (ops:C9 Oper) (σ:BO) (i:Nat):AL (BO×AL Xl):=
 match ops[i]? with
 |none=>none
 |some o=>match aLq i L with
  |some c=>match JD ops σ o.guard with
   |some true=>some (xI σ o c)
   |_=>none
  |none=>match Wj T ops σ o with
   |some r=>some (σ.put o.dst r.x r.E,none)
   |none=>none
def KD (T:Kn P) (L:A8 (LM P)) (ops:C9 Oper) (σ:BO):A8 Nat->BO
 | []=>σ
 |i::l=>match U5 T L ops (KD T L ops σ l) i with
  |some (σ',_)=>σ'
  |none=>σ
def dL (ops:C9 Oper) (m:A8 Nat) (i:Nat):AZ:=match ops[i]? with
 |some o=>o.after.toList.all fun e=> !Region.binds .any e||(m.contains e.on&&(e.on<ops.size))
 |none=>false
def aJF (ops:C9 Oper) (N:A8 (A8 Nat)) (F:A8 Nat) (k:Nat) (m:A8 Nat) (T:A8 (Nat×Nat×Nat)):AZ:=
 ((List.range ops.size).all fun i=>m.contains i|| !dL ops m i||
   T.any fun t=>t.2.1==i&&(t.2.2<N.length)&&(fun q=>(List.range ops.size).all fun j=>q.contains j==(m.contains j||j==i)) (N.getD t.2.2 []))&&
 (F.contains k||(List.range ops.size).any fun i=> !m.contains i&&dL ops m i)
def aAH (ops:C9 Oper) (N:A8 (A8 Nat)) (F:A8 Nat):Nat->A8 (A8 Nat)->A8 (Nat×Nat×Nat)->AZ
 |_,[],_=>true
 |k,m::M,Tr=>aJF ops N F k m (Tr.takeWhile fun t=>t.1==k)&&aAH ops N F (k+1) M (Tr.dropWhile fun t=>t.1==k)
def dG (ops:C9 Oper) (N:A8 (A8 Nat)) (Tr:A8 (Nat×Nat×Nat)) (F:A8 Nat):AZ:=aAH ops N F 0 N Tr
def aTo {α:Type} {p:α->AZ}:∀{l:A8 α} {x:α},x∈l.takeWhile p->p x=true
 | [],_,h=>Ip
 |y::l,x,h=>by
  rw[List.takeWhile_cons]at h;cases j:p y with
  |true=>
   rw[j]at h;rcases FK.1 h with rfl|h
   ·exact j
   exact aTo h
  |false=>rw[j]at h;simp at h
def aQU {ops:C9 Oper} {N:A8 (A8 Nat)} {F:A8 Nat}:∀(M:A8 (A8 Nat)) (k:Nat) (Tr:A8 (Nat×Nat×Nat)),aAH ops N F k M Tr=true->∀j,j<M.length->
 ∃T,aJF ops N F (k+j) (M.getD j []) T=true/\∀t∈T,t∈Tr/\t.1=k+j
 | [],_,_,_,j,q=>zk
 |m::M,k,Tr,h,j,q=>by
  unfold aAH at h;rw[Du]at h;cases j with
  |zero=>exact⟨_,h.1,fun t ht=>⟨(List.takeWhile_sublist _).subset ht,by have :=aTo ht;simpa using this⟩⟩
  |succ j=>
   obtain⟨T,z,u⟩:=aQU M (k+1) _ h.2 j OQ;refine⟨T,?_,fun t ht=>⟨(aNK _).subset (u t ht).1,?_⟩⟩
   ·rw[show k+(j+1)=k+1+j by omega];simpa using z
   rw[(u t ht).2];omega
def Vg (L:A8 (LM P)) (i:Nat):AL Xl:=(aLq i L).map og
def akA (T:Kn P) {L:A8 (LM P)} {ops:C9 Oper} {σ σ':BO} {i:Nat} {o:Oper} (I:ops[i]? =some o) (h:U5 T L ops σ i=some (σ',Vg L i)):
 ∃x E,((∃ns,CQ P o ns σ.ents x E/\needs σ ns/\X8 ops σ o.guard)\/(x=.d (.lit undef)/\E=σ.ents/\Yj ops σ o.guard))/\σ'=σ.put o.dst x E:=by
 unfold U5 Vg at h;rw[I]at h;simp only at h;split at h
 ·rename_i c J;split at h
  ·rename_i q;simp only[J,JQ,Mc]at h;cases c with
   |call i f eH M run ent dat=>
    simp only[xI,og,RV,Mc,Xl.call.injEq]at h;obtain⟨ns,u,z,U⟩:=a04 run ent h.2 dat;exact⟨_,_,.inl ⟨ns,u,z,NS q⟩,h.1.symm⟩
   |dat i op ns x j=>
    simp only[xI,og,RV,Mc,Xl.dat.injEq]at h;exact⟨_,_,.inl ⟨ns,j o _ h.2.1,Ub h.2.2,NS q⟩,h.1.symm⟩
   |at_ i op ns k e x j=>
    simp only[xI,og,RV,Mc,Xl.at_.injEq]at h;exact⟨_,_,.inl ⟨ns,j o _ h.2.2.2 h.2.1,Ub h.2.2.1,NS q⟩,h.1.symm⟩
   |fix i op ns es x E j=>
    simp only[xI,og,RV,Mc,Xl.fix.injEq]at h;exact⟨_,_,.inl ⟨ns,h.2.2.2▸j o h.2.1,Ub h.2.2.1,NS q⟩,h.1.symm⟩
  cases h
 split at h
 ·rename_i r O;simp only[Mc,RV]at h;obtain⟨u,z⟩:=Y6 T O;refine⟨_,_,?_,h.1.symm⟩;rcases u with⟨ns,a,b,_,c⟩|⟨a,b,c⟩
  ·exact .inl ⟨ns,a,b,c⟩
  exact .inr ⟨a,b,c⟩
 cases h
def tJ (s t:BO):Prop:=∀C ok H a w,Holds C ok H s a w->∃ok' H',Holds C ok' H' t a w
def aQN (s:BO):tJ s s:=fun _ ok H _ _ h=>⟨ok,H,h⟩
def jw {s t:BO} (h:CX s t):tJ s t:=h
def Bv.nodes (T:Kn P) {id:Nat} {ops:C9 Oper} {σ:BO} {Q:Exit->BO->Prop} (L:A8 (LM P)) (N:A8 (A8 Nat)) (Tr:A8 (Nat×Nat×Nat)) (F:A8 Nat) (fin:BO) (hm:P.follows .mixedOrders=true) (hN:dG ops N Tr F=true) (h0:N.getD 0 [0]=[])
 (hT:(Tr.map fun t=>U5 T L ops (KD T L ops σ (N.getD t.1 [])) t.2.1)=Tr.map fun t=>some (KD T L ops σ (N.getD t.2.2 []),Vg L t.2.1))
 (hF:RY (fun k=>tJ (KD T L ops σ (N.getD k [])) fin) F) (hQ:Q .normal fin):Bv P (.region id ops true) σ Q:=by
 refine⟨fun ro _ C ok H a w q=>?_⟩;refine wpIn_region_any hm ?_
 let S:Nat->BO:=fun k=>KD T L ops σ (N.getD k [])
 let I:C9 AZ->Act->BU->Prop:=fun l a w=>l.size=ops.size/\∃k ok H,k<N.length/\(∀i,i<ops.size->l.getD i false=(N.getD k []).contains i)/\Holds C ok H (S k) a w
 have hNN:∀k,k<N.length->(((List.range ops.size).all fun i=>(N.getD k []).contains i|| !dL ops (N.getD k []) i||
  Tr.any fun t=>t.1==k&&t.2.1==i&&(t.2.2<N.length)&&(List.range ops.size).all fun j=>(N.getD t.2.2 []).contains j==((N.getD k []).contains j||j==i))&&
  (F.contains k||(List.range ops.size).any fun i=> !(N.getD k []).contains i&&dL ops (N.getD k []) i))=true:=fun k hk=>by
  obtain⟨T,J,O⟩:=aQU N 0 Tr hN k hk;unfold aJF at J;rw[Kz,Du,El]at J;rw[Du,El];refine⟨fun i hi=>?_,J.2⟩;have u:=J.1 i hi;rw[ZN]at u ⊢;rcases u with u|u
  ·exact .inl u
  obtain⟨t,ht,h4⟩:=Iu.1 u;obtain⟨Z,U⟩:=O t ht;rw[Kz]at U;refine .inr (Iu.2 ⟨t,Z,?_⟩);rw[show(t.1==k)=true by simpa using U,Gw];exact h4
 refine aMj I (fun l a w h=>h.1) ?_ ?_ ops.size _ _ _ ?_ ?_
 ·rintro l a w ⟨J,k,ok,H,hk,hl,q⟩ i hi;unfold Region.ready at hi;rw[Hy]at hi;obtain⟨hi1,hi2⟩:=hi;have hi':i<ops.size:=by simpa using hi1
  have ho:ops[i]? =some ops[i]:=by simp[hi']
  simp only[Du]at hi2;have z:=hi2.2;rw[ho]at z;simp only[JQ,Oq]at z;have Y:=fun e he=>(UW.1 z) e he
  have hself:l.getD i false=false:=by
   have h8:=hi2.1;have hil:i<l.size:=AB
   simp[Array.getD,hil]at h8 ⊢;exact h8
  have hnc:(N.getD k []).contains i=false:=by rw[←hl i hi'];exact hself
  have hrd:dL ops (N.getD k []) i=true:=by
   unfold dL;rw[ho];simp only[El];intro e he;have h9:=Y e aEX;cases hb:Region.binds .any e with
   |false=>simp
   |true=>
    simp only[hb,FB,Nr]at h9 ⊢;by_cases hon:e.on<ops.size
    ·rw[←hl e.on hon,h9];simp[hon]
    have :l.getD e.on false=false:=by simp[Array.getD,show ¬e.on<l.size by omega]
    rw[this]at h9;cases h9
  have O:=hNN k hk;simp only[Du,El]at O;have u:=O.1 i (by simpa using hi');rw[hnc,hrd]at u;simp only[FB,Bool.or_self,Nr,Iu]at u;obtain⟨⟨k',M,t⟩,htm,h4⟩:=u;simp only[Du,PU,I8,El]at h4;obtain⟨⟨⟨rfl,rfl⟩,ht⟩,Z⟩:=h4;have U:U5 T L ops (S k') M=some (S t,Vg L M):=List.map_inj_left.1 hT (k',M,t) htm;obtain⟨x,E,hs,he⟩:=akA T ho U
  have hnew:∀(a':Act) (w':BU) (ok':Nat->Prop) (H':A8 CP),Holds C ok' H' ((S k').put ops[M].dst x E) a' w'->I (l.setIfInBounds M true) a' w':=by
   intro a' w' ok' H' hp;refine⟨by simp[J],t,ok',H',ht,fun j hj=>?_,he▸hp⟩;have h7:=Z j (by simpa using hj);rw[h7,←hl j hj];by_cases hij:M=j
   ·subst hij;simp[Array.getD,J,hj]
   have :(j==M)=false:=EW
   rw[this,ML];simp only[J8,Ol hij]
  unfold wpOpIn;rw[ho];show if Region.wanted ops[M] (yielded ops a.tmps)=true then _ else _
  rcases hs with⟨ns,hop,ant,hg⟩|⟨rfl,rfl,hg⟩
  ·rw[Di (Qe q hg)];refine S9 ?_ (hop.inR ro C ok H a w _ q.mem (fun n hn'=>RX ant n hn'▸q.get n.1));rintro a' w' ⟨v,ok',H',rfl,hgr,hnn,hm',hx⟩;exact hnew _ _ _ _ (q.put ops[M].dst hgr hnn hm' hx)
  rw[Dp (by rw[aMc q hg];simp)];exact⟨fun _ _=>trivial,hnew _ _ _ _ (q.put ops[M].dst (.refl _ _) (.refl _) q.mem (.d _ _ (.lit _)))⟩
 ·rintro l a w ⟨J,k,ok,H,hk,hl,q⟩ hr;have O:=hNN k hk;simp only[Du,ZN]at O
  have hFk:k∈F:=by
   rcases O.2 with h|h
   ·simpa using h
   rw[Iu]at h;obtain⟨i,hi,u⟩:=h;simp only[zK]at hi;simp only[Du,ND]at u;obtain⟨h4,Z⟩:=u;have ho:ops[i]? =some ops[i]:=Tt
   have hmem:i∈Region.ready .any ops l:=by
    unfold Region.ready;rw[Hy];refine⟨Gs,?_⟩;have hf:l.getD i false=false:=by rw[hl i hi];exact h4
    have hil:i<l.size:=AB
    have hf':l.getD i true=false:=aKj
    rw[hf',ho];simp only[JC,Gw,JQ,Oq];rw[UW];intro e he;unfold dL at Z;rw[ho]at Z;simp only[El]at Z;have U:=Z e aEX;cases hb:Region.binds .any e with
    |false=>simp
    |true=>
     simp only[hb,FB,Nr]at U ⊢;rw[Du,I8]at U;rw[hl e.on U.2];exact U.1
   rw[hr]at hmem;simp at hmem
  obtain⟨ok',H',u⟩:=hF.mem k hFk C ok H a w q;exact⟨ok',H',fin,u,hQ⟩
 ·unfold toCome;simp
 refine⟨Bh,0,ok,H,?_,fun i hi=>?_,?_⟩
 ·cases N with
  |nil=>cases h0
  |cons x l=>simp
 ·have e:N.getD 0 []=[]:=by
   cases N with
   |nil=>rfl
   |cons x l=>simpa using h0
  rw[e];simp[Array.getD]
 have e:S 0=σ:=by
  show KD T L ops σ (N.getD 0 [])=σ;cases N with
  |nil=>rfl
  |cons x l=>have :x=[]:=by simpa using h0
             subst this;rfl
 rw[e];refine⟨⟨⟨q.mem.fr.os,q.mem.fr.tape,q.mem.fr.output,q.mem.fr.size,q.mem.fr.block⟩,q.mem.yY,q.mem.yZ,q.mem.kS,q.mem.names,q.mem.hlen,fun k e h J O=>(q.mem.ent k e h J O).drew,q.mem.blk,q.mem.Fe⟩,q.size,q.defers.mono (fun b hb=>⟨hb,rfl⟩),q.base,fun t ht=>R.mono (w:=w) (ok:=ok) (w':={ w with drawn:=w.drawn+1 }) (fun b hb=>⟨hb,rfl⟩) (.refl _) (q.slot t ht)⟩
def aI2 {f:FuncId} {eH:A8 Af} {j:Af} (i:Nat) (run:Ed P f eH [] j []) (ent:Hd P f=true) (dat:eH.all Af.Bf=true:=by kernel_rfl):LM P:=.call i f eH j run ent dat
def bW {ns:A8 (CM×Af)} {x:Af} (i:Nat) (op:Op) (h:∀(o:Oper) (es:A8 Bd),o.op=op->CQ P o ns es x es):LM P:=.dat i op ns x h
def a0K {ns:A8 (CM×Af)} {x:Af} (i:Nat) (op:Op) (k:Nat) (e:Bd) (h:∀(o:Oper) (es:A8 Bd),es[k]? =some e->o.op=op->CQ P o ns es x es):LM P:=.at_ i op ns k e x h
def jB {ns:A8 (CM×Af)} {x:Af} (i:Nat) (op:Op) (es E:A8 Bd) (h:∀(o:Oper),o.op=op->CQ P o ns es x E):LM P:=.fix i op ns es x E h
section
variable [T:Kn P] {id:Nat} {ops:C9 Oper} {σ:BO} {Q:Exit->BO->Prop} {y:Code}
def Bv.node1 (L:A8 (LM P)) (N:A8 (A8 Nat)) (Tr:A8 (Nat×Nat×Nat)) (j:Nat) (q:Q .normal (KD T L ops σ (N.getD j []))) (hm:P.follows .mixedOrders=true:=by kernel_rfl) (u:dG ops N Tr [j]=true:=by kernel_rfl) (z:N.getD 0 [0]=[]:=by kernel_rfl)
 (I:(Tr.map fun t=>U5 T L ops (KD T L ops σ (N.getD t.1 [])) t.2.1)=Tr.map fun t=>some (KD T L ops σ (N.getD t.2.2 []),Vg L t.2.1):=by kernel_rfl):Bv P (.region id ops true) σ Q:=
 Bv.nodes T L N Tr [j] _ hm u z I ⟨aQN _,trivial⟩ q
def Bv.aGc (L:A8 (LM P)) (N:A8 (A8 Nat)) (Tr:A8 (Nat×Nat×Nat)) (j:Nat) (q:Bv P y (KD T L ops σ (N.getD j [])) Q) (hm:P.follows .mixedOrders=true:=by kernel_rfl) (u:dG ops N Tr [j]=true:=by kernel_rfl) (z:N.getD 0 [0]=[]:=by kernel_rfl)
 (I:(Tr.map fun t=>U5 T L ops (KD T L ops σ (N.getD t.1 [])) t.2.1)=Tr.map fun t=>some (KD T L ops σ (N.getD t.2.2 []),Vg L t.2.1):=by kernel_rfl):Bv P (.seq (.region id ops true) y) σ Q:=
 Bv.seq1 _ (Bv.nodes T L N Tr [j] _ hm u z I ⟨aQN _,trivial⟩ rfl) q
def Bv.aGd (L:A8 (LM P)) (N:A8 (A8 Nat)) (Tr:A8 (Nat×Nat×Nat)) (F:A8 Nat) (j:BO) (q:RY (fun k=>tJ (KD T L ops σ (N.getD k [])) j) F) (u:Bv P y j Q) (hm:P.follows .mixedOrders=true:=by kernel_rfl) (z:dG ops N Tr F=true:=by kernel_rfl) (I:N.getD 0 [0]=[]:=by kernel_rfl)
 (J:(Tr.map fun t=>U5 T L ops (KD T L ops σ (N.getD t.1 [])) t.2.1)=Tr.map fun t=>some (KD T L ops σ (N.getD t.2.2 []),Vg L t.2.1):=by kernel_rfl):Bv P (.seq (.region id ops true) y) σ Q:=
 Bv.seq1 j (Bv.nodes T L N Tr F j hm z I J q rfl) u
end
end
section
variable {P:Ce} {ops:C9 Oper} {es:A8 Bd}
def Y2 (n:Nat) (sl:A8 Nat):A8 (Nat×Nat):=sl.flatMap fun i=>((List.range (n+1)).filter fun m=>i<=m).map fun m=>(i,m)
def xF (ops:C9 Oper) (σ:BO) (rs:A8 Af) (ess:A8 (A8 Bd)) (i:Nat):BO:=GU ops σ (fun i=>rs.getD i .junk) (fun i=>ess.getD i []) i
def aEA (T:Kn P) (ops:C9 Oper) (σ:BO) (rs:A8 Af) (ess:A8 (A8 Bd)) (p:Nat×Nat):AL (Af×A8 Bd×AZ):=
 match ops[p.1]? with
 |some o=>(Wj T ops ⟨(xF ops σ rs ess p.1).slots,(xF ops σ rs ess p.2).ents,σ.base⟩ o).map fun r=>(r.x,r.E,r.bar)
 |none=>none
def aQz (T:Kn P) {σ:BO} {rs:A8 Af} {ess:A8 (A8 Bd)} {bs:A8 AZ} {sl:A8 Nat} (u:(sl.all fun i=> !(bs.getD i false))=true)
 (z:(Y2 ops.size sl).map (aEA T ops σ rs ess)=(Y2 ops.size sl).map fun p=>some (rs.getD p.1 .junk,(xF ops σ rs ess p.2).ents,false)):
 ∀i,i∈sl->bs.getD i false=false/\∀m,i<=m->m<=ops.size->∀o,ops[i]? =some o->Ry P ops ⟨(GU ops σ (fun i=>rs.getD i .junk) (fun i=>ess.getD i []) i).slots,(GU ops σ (fun i=>rs.getD i .junk) (fun i=>ess.getD i []) m).ents,σ.base⟩ (rs.getD i .junk) (GU ops σ (fun i=>rs.getD i .junk) (fun i=>ess.getD i []) m).ents false o:=by
 intro i hi;refine⟨by have :=El.1 u i hi;simpa using this,fun m J O o L=>?_⟩
 have hp:(i,m)∈Y2 ops.size sl:=by
  unfold Y2;rw[Vy];exact⟨i,hi,Fh.2 ⟨m,Hy.2 ⟨EW,SS⟩,rfl⟩⟩
 have j:=List.map_inj_left.1 z (i,m) hp;unfold aEA at j;rw[L]at j;simp only[Uu]at j;obtain⟨r,M,q⟩:=j;have I:=Y6 T M;simp only[RV]at q;rw[q.1,q.2.1,q.2.2]at I;exact I
def Bv.aDa [T:Kn P] {id:Nat} {σ σ':BO} {Q:Exit->BO->Prop} {rs:A8 Af} {ess:A8 (A8 Bd)} {bs:A8 AZ} (sl:A8 Nat) (h:FZ P ops ops.toList σ rs ess bs σ') (I:Q .normal σ') (hm:P.follows .mixedOrders=true:=by kernel_rfl)
 (j:(Xa ops&&XR ops&&Vq ops σ.slots.length&&Xe ops)=true:=by kernel_rfl) (q:UM ops bs sl=true:=by kernel_rfl) (u:(sl.all fun i=> !(bs.getD i false))=true:=by kernel_rfl)
 (z:(Y2 ops.size sl).map (aEA T ops σ rs ess)=(Y2 ops.size sl).map fun p=>some (rs.getD p.1 .junk,(xF ops σ rs ess p.2).ents,false):=by kernel_rfl):Bv P (.region id ops true) σ Q:=
 Bv.axU hm j sl q h (aQz T u z) I
def Bv.aDb [T:Kn P] {id:Nat} {y:Code} {σ σ':BO} {Q:Exit->BO->Prop} {rs:A8 Af} {ess:A8 (A8 Bd)} {bs:A8 AZ} (sl:A8 Nat) (h:FZ P ops ops.toList σ rs ess bs σ') (I:Bv P y σ' Q) (hm:P.follows .mixedOrders=true:=by kernel_rfl)
 (j:(Xa ops&&XR ops&&Vq ops σ.slots.length&&Xe ops)=true:=by kernel_rfl) (q:UM ops bs sl=true:=by kernel_rfl) (u:(sl.all fun i=> !(bs.getD i false))=true:=by kernel_rfl)
 (z:(Y2 ops.size sl).map (aEA T ops σ rs ess)=(Y2 ops.size sl).map fun p=>some (rs.getD p.1 .junk,(xF ops σ rs ess p.2).ents,false):=by kernel_rfl):Bv P (.seq (.region id ops true) y) σ Q:=
 Bv.seq1 σ' (Bv.axU hm j sl q h (aQz T u z) rfl) I
def BO.akk (σ:BO) (k j:Nat) (xs:A8 D) (cs:A8 Af):BO:=⟨σ.slots.map (Af.thaw k xs),(σ.ents.set k .dead).set j (.box (cs.map (Af.thaw k xs))),σ.base⟩
def ajL {σ:BO} (k j:Nat) {e s:Nat} {xs:A8 D} {cs:A8 Af} (hk:σ.ents[k]? =some (.arr e s xs)) (hj:σ.ents[j]? =some (.box cs)) (hl:(cs.map (Af.thaw k xs)).all Af.leaf=true):∀C ok H a w,Holds C ok H σ a w->∃ok',Holds C ok' H (σ.akk k j xs cs) a w:=by
 intro C ok H a w u;have hkj:k≠j:=fun e=>by subst e;rw[hk]at hj;cases hj
 obtain⟨hd,Z,hok⟩:=Hl u.mem.ent u.mem.hlen hk;have hkl:k<σ.ents.length:=(GH.1 hk).1;have hjl:j<(σ.ents.set k .dead).length:=by rw[kC];exact(GH.1 hj).1
 let ok':Nat->Prop:=fun b=>ok b\/EK hd.v=some b
 have O:=fun b q=>u.mem.blk k _ hd b hk rfl Z q;have hg:Et ok w ok' w:=fun b q=>⟨.inl q,rfl⟩
 have z:∀{x:Af} {v:Au},R ok w H x v->R ok' w H (x.thaw k xs) v:=by
  intro x v hR0;have hR:=hR0.mono hg (aT H);cases x with
  |aO i=>
   simp only[Af.thaw];split
   ·rename_i hi;subst hi;obtain rfl:=QU hR Z;exact .d _ _ (dN hok (fun b q=>.inl q) (fun b q=>.inr q))
   exact hR
  |lq i i2 off=>
   simp only[Af.thaw];split
   ·exact .junk _
   exact hR
  |_=>exact hR
 have U:∀(i:Nat) (e':Bd),((σ.ents.set k .dead).set j (.box (cs.map (Af.thaw k xs))))[i]? =some e'->(i=j/\e'=.box (cs.map (Af.thaw k xs)))\/(i≠j/\((i=k/\e'=.dead)\/(i≠k/\σ.ents[i]? =some e'))):=by
  intro i e' he;rcases MO hjl he with⟨rfl,rfl⟩|⟨h1,h2⟩
  ·exact .inl ⟨rfl,rfl⟩
  refine .inr ⟨h1,?_⟩;rcases MO hkl h2 with⟨rfl,rfl⟩|⟨Y,h4⟩
  ·exact .inl ⟨rfl,rfl⟩
  exact .inr ⟨Y,h4⟩
 have I:∀(i:Nat) (e':Bd),((σ.ents.set k .dead).set j (.box (cs.map (Af.thaw k xs))))[i]? =some e'->e'.live=true->i≠k/\∃e0,σ.ents[i]? =some e0/\e0.live=true:=by
  intro i e' he M;rcases U i e' he with⟨rfl,rfl⟩|⟨h1,⟨rfl,rfl⟩|⟨h2,Y⟩⟩
  ·exact⟨Ne.symm hkj,_,hj,rfl⟩
  ·cases M
  exact⟨h2,_,Y,M⟩
 refine⟨ok',⟨u.mem.fr,fun b q=>.inl (u.mem.yY b q),?_,?_,u.mem.names,by simp[BO.akk,u.mem.hlen],?_,?_,?_⟩,by simp[BO.akk,u.size],u.defers.mono hg,u.base,?_⟩
 ·rintro b (q|q)
  ·exact u.mem.yZ b q
  exact .inr (O b q).2.2
 ·rintro b (q|q)
  ·exact u.mem.kS b q
  exact(O b q).2.1
 ·intro i e' h' he J;rcases U i e' he with⟨rfl,rfl⟩|⟨_,⟨rfl,rfl⟩|⟨_,he'⟩⟩
  ·obtain⟨b,vs,T,h1,h2,Y,h4⟩:=u.mem.ent i _ h' hj J;refine⟨b,vs,T,h1,h2,Vj,fun n hn=>?_⟩;rw[Dc]at hn;rw[Si _ _ _ hn];refine⟨?_,z (h4 n hn).2⟩;rw[El]at hl;exact hl _ (Fh.2 ⟨_,by simp[List.getD,hn],rfl⟩)
  ·trivial
  exact(u.mem.ent i e' h' he' J).mono hg (.refl _) (fun _ _ _=>rfl)
 ·intro i e' h' b he M J q;obtain⟨hik,e0,he0,hl0⟩:=I i e' he M;have Y:=u.mem.blk i e0 h' b he0 hl0 J q;refine⟨fun L=>?_,Y.2⟩;rcases L with L|L
  ·exact Y.1 L
  exact hik (u.mem.Fe i k e0 _ h' hd b he0 hk hl0 rfl J Z q L)
 ·intro i i' e1 e2 h1 h2 b he1 he2 hl1 hl2 hh1 hh2 hb1 hb2;obtain⟨_,e1',asV,aG9⟩:=I i e1 he1 hl1;obtain⟨_,e2',amg,aHa⟩:=I i' e2 he2 hl2;exact u.mem.Fe i i' e1' e2' h1 h2 b asV amg aG9 aHa hh1 hh2 hb1 hb2
 intro t ht;simp only[BO.akk,Dc]at ht
 have e1:(σ.akk k j xs cs).slots.getD t .junk=(σ.slots.getD t .junk).thaw k xs:=by
  simp only[BO.akk];exact Si _ _ _ ht
 rw[e1];exact z (u.slot t ht)
def Bv.conv {c:Code} {σ q:BO} {Q:Exit->BO->Prop} (h:∀C ok H a w,Holds C ok H σ a w->∃ok',Holds C ok' H q a w) (k:Bv P c q Q):Bv P c σ Q:=⟨fun ro u C ok H a w z=>by
 obtain⟨ok',j⟩:=h C ok H a w z
 exact k.run ro u C ok' H a w j⟩
end
def a02 (es:A8 Bd) (H:A8 CP):A8 Nat:=(es.zip H).filterMap fun p=>if p.1.live then EK p.2.v else none
def aWc {es:A8 Bd} {H:A8 CP} {b:Nat}:b∈a02 es H↔∃(k:Nat) (e:Bd) (h:CP),es[k]? =some e/\e.live=true/\H[k]? =some h/\EK h.v=some b:=by
 unfold a02;rw[VA];constructor
 ·rintro⟨⟨e,h⟩,hm,j⟩;obtain⟨k,q⟩:=List.mem_iff_getElem?.1 hm;rw[aYA]at q;split at j
  ·rename_i hl;exact⟨k,e,h,q.1,hl,q.2,j⟩
  cases j
 rintro⟨k,e,h,u,z,I,J⟩;exact⟨(e,h),List.mem_iff_getElem?.2 ⟨k,aYA.2 ⟨u,I⟩⟩,by simp[z,J]⟩
def Ey.now (w:BU) (ok:Nat->Prop) (es:A8 Bd) (H:A8 CP):Ey:=⟨w,ok,a02 es H,H⟩
section
variable {C:Ey} {ok ok':Nat->Prop} {H H':A8 CP} {es es':A8 Bd} {w w':BU}
def E5.inner (hm:E5 C ok H es w):E5 (Ey.now w ok es H) ok H es w:=
 ⟨.refl _ _,fun _ h=>h,fun _ h=>.inl h,hm.kS,.refl _,hm.hlen,hm.ent,
  fun k e h b j hl q u=>⟨(hm.blk k e h b j hl q u).1,(hm.blk k e h b j hl q u).2.1,.inr (aWc.2 ⟨k,e,h,j,hl,q,u⟩)⟩,hm.Fe⟩
def E5.outer (hm:E5 C ok H es w) (h:E5 (Ey.now w ok es H) ok' H' es' w'):Et ok w ok' w'/\Names H H'/\E5 C ok' H' es' w':=by
 have z:∀b,b∈a02 es H->¬ok b/\b<w.heap.size/\(C.w0.heap.size<=b\/b∈C.X):=fun b q=>by
  obtain⟨k,e,hd,j,J,u,U⟩:=aWc.1 q;exact hm.blk k e hd b j J u U
 refine⟨fun b q=>⟨h.yY b q,h.fr.block b (hm.kS b q) fun I=>(z b I).1 q⟩,h.names,⟨h.fr.os.trans hm.fr.os,h.fr.tape.trans hm.fr.tape,h.fr.output.trans hm.fr.output,FC hm.fr.size h.fr.size,fun k O I=>?_⟩,fun b q=>h.yY b (hm.yY b q),fun b q=>?_,h.kS,hm.names.trans h.names,h.hlen,h.ent,fun k e hd b Y hl Z q=>?_,h.Fe⟩
 ·have L:k<w.heap.size:=Ur O hm.fr.size;refine(h.fr.block k L fun M=>?_).trans (hm.fr.block k O I);rcases(z k M).2.2 with j|j
  ·omega
  exact I j
 ·rcases h.yZ b q with j|j|j
  ·exact hm.yZ b j
  ·exact .inr (.inl (FC hm.fr.size j))
  exact .inr ((z b j).2.2)
 obtain⟨j,J,u⟩:=h.blk k e hd b Y hl Z q;refine⟨j,J,?_⟩;rcases u with u|u
 ·exact .inl (FC hm.fr.size u)
 exact(z b u).2.2
def E5.akl (hm:E5 C ok H es w) {n:Nat} {e e':Bd} {h:CP} {b:Nat} {o:Obj} (J:es[n]? =some e) (hl:e.live=true) (L:H[n]? =some h) (M:EK h.v=some b) (he:Et ok w ok (w.putObj b o)->FY ok (w.putObj b o) H h e'):
 E5 C ok H (es.set n e') (w.putObj b o)/\Et ok w ok (w.putObj b o):=by
 obtain⟨O,h2,h3⟩:=hm.blk n e h b J hl L M;have hg:Et ok w ok (w.putObj b o):=fun c j=>⟨j,Z4 fun e=>O (e▸j)⟩
 have z:=(GH.1 J).1;refine hm.change (fun c=>c=b) rfl rfl rfl Bh (fun c _ j=>Z4 j) (fun c j _=>by subst j;exact⟨O,h3⟩) (fun _ h=>h) (fun _ h=>.inl h) (.refl _) (by simpa using hm.hlen) fun k e2 h4 hk q=>?_;rcases MO z hk with⟨rfl,rfl⟩|⟨u,I⟩
 ·right;rw[L]at q;obtain rfl:=Dq q;refine⟨he hg,fun _ c j=>?_⟩;rw[M]at j;obtain rfl:=Dq j;refine⟨O,qJ,h3,fun k' e3 h5 u U Y Z hb3=>?_⟩;rcases MO z U with⟨rfl,_⟩|⟨_,hk4⟩
  ·exact u rfl
  exact u (hm.Fe k' _ e3 e h5 h _ hk4 J Y hl Z L hb3 M)
 left;exact⟨I,q,fun hl2 c j hcb=>u (hm.Fe k n e2 e h4 h c I J hl2 hl q L j (by rw[hcb];exact M))⟩
def dn :A8 Tmp->A8 Af->A8 Af->A8 Af
 |p::j,x::xs,sl=>dn j xs (sl.set p x)
 |_,_,sl=>sl
def aRW :∀(j:A8 Tmp) (xs:A8 Af) (vs:A8 Au) (sl:A8 Af) (tm:C9 Au),xs.length=j.length->vs.length=j.length->(∀i,i<xs.length->R ok w H (xs.getD i .junk) (vs.getD i undef))->
 tm.size=sl.length->(∀t,t<sl.length->R ok w H (sl.getD t .junk) (tm.getD t undef))->
 ((j.zip vs).foldl (fun t p=>t.setIfInBounds p.1 p.2) tm).size=(dn j xs sl).length/\∀t,t<(dn j xs sl).length->R ok w H ((dn j xs sl).getD t .junk) (((j.zip vs).foldl (fun t p=>t.setIfInBounds p.1 p.2) tm).getD t undef)
 | [],xs,vs,sl,tm,_,_,_,hs,q=>by
   have e:dn [] xs sl=sl:=by cases xs<;>rfl
   rw[e];exact⟨hs,q⟩
 |p::j,[],vs,sl,tm,h,_,_,_,_=>Ip
 |p::j,x::xs,[],sl,tm,_,h,_,_,_=>Ip
 |p::j,x::xs,v::vs,sl,tm,J,L,I,hs,q=>by
  refine aRW j xs vs (sl.set p x) (tm.setIfInBounds p v) SS YM (fun i hi=>by simpa using I (i+1) Gs) wH (fun t ht=>?_);rw[kC]at ht;by_cases e:p=t
  ·subst e;have u:(sl.set p x).getD p .junk=x:=aKT
   have z:(tm.setIfInBounds p v).getD p undef=v:=by simp[Array.getD,hs,ht]
   rw[u,z];simpa using I 0 Bh
  have u:(sl.set p x).getD t .junk=sl.getD t .junk:=aM6
  have z:(tm.setIfInBounds p v).getD t undef=tm.getD t undef:=by simp[J8,Ol e]
  rw[u,z];exact q t ht
end
def Xr :Exit->AL (LoopState×AL Code)
 | .normal=>some (.ready,none)
 | .ret=>some (.done,some .ret)
 | .exit i=>some (.done,some (.exit i))
 |_=>none
section
variable {P:Ce} {ops:C9 Oper} {o:Oper} {rest l:A8 Oper} {σ:BO} {K:Exit->BO->Prop}
def aBQ {h:CP} {l:Nat} (e:h.v=.func (.yield l) #[] #[]):EK h.v=some l:=by rw[e];rfl
def Dv.yield {f:CM} {xs:C9 CM} {ts:C9 CG} {tm:C9 Au} {slots:A8 Af} {rc:C9 Tmp×Code×Code} (k:Nat) (eH:A8 Af)
 (ho:o.op=.call { callee:=.value f,args:=xs,argTypes:=ts }) (hf:σ.get f=.mp k) (hk:σ.ents[k]? =some (.loop tm slots rc .ready none)) (hx:xs.toList.map σ.get=eH) (I:rc.1.size=xs.size)
 (hg:JD ops σ o.guard=some true) (J:(QL rc.2.1&&QL rc.2.2)=true)
 (h:Bv P rc.2.1 ⟨dn rc.1.toList eH slots,σ.ents,σ.ents.length⟩ fun e s=>e=.normal/\∃sl,s.ents[k]? =some (.loop tm sl rc .ready none)/\
  Bv P rc.2.2 ⟨s.slots,s.ents.set k (.loop tm sl rc .busy none),s.base⟩ fun e s2=>∃z j,s2.ents[k]? =some (.loop tm z rc .busy none)/\Xr e=some j/\
   Dv P ops rest (BO.sG ⟨σ.slots,s2.ents.set k (.loop tm z rc j.1 j.2),σ.base⟩ o.dst (.d (.lit (.bool j.2.isNone)))) K):Dv P ops (o::rest) σ K:=by
 rw[Du]at J;refine⟨fun ro l2 Q C ok H a w u L=>?_⟩;show wpListIn (JO ro) 0 P ops Q (o::(rest++l2)) a w;unfold wpListIn;rw[Di (Qe u (NS hg))];have hv:=hf▸u.get f;obtain⟨hd,M,Y⟩:=Hl u.mem.ent u.mem.hlen hk;obtain⟨l,fn,D,e1,e2,e3,e4⟩:=Y
 have Z:a.eval f=.func (.yield l) #[] #[]:=by
  cases hv with
  |mp _ v s hl hH=>
   rw[M]at hH;obtain rfl:=Dq hH;exact e1
 have hrun:(execOp a.eval o).run P w=.ok (.round l fn ((rc.1.zip (xs.map a.eval)).foldl (fun tmps (t,a)=>tmps.setIfInBounds t a) tm) rc.2.1 rc.2.2) w:=by
  have :=run_yield (P:=P) e2 (args:=xs.map a.eval) (by simp[I]);simp[execOp,ho,resolve,Z,Deferred.ofValue,invoke,this]
 unfold Oper.wpIn;rw[mJ _ _ _ (by rw[ho];intro c h;cases h),hrun,Oper.uponIn_round];refine⟨fun _ _=>trivial,fun h=>Ib,roundIn_of_wpIn trivial ?_⟩
 have hT:(rc.1.zip (xs.map a.eval)).foldl (fun tmps (t,a)=>tmps.setIfInBounds t a) tm=(rc.1.toList.zip (xs.toList.map a.eval)).foldl (fun t p=>t.setIfInBounds p.1 p.2) tm:=by
  rw[←Array.foldl_toList,Array.toList_zip,Array.toList_map]
 rw[hT];have hpl:eH.length=rc.1.toList.length:=by rw[←hx];simp[I]
 obtain⟨p1,p2⟩:=aRW (ok:=ok) (w:=w) (H:=H) rc.1.toList eH (xs.toList.map a.eval) slots tm hpl (by simp[I]) (fun i hi=>by
  have hi':i<xs.toList.length:=by rw[←hx]at hi;simpa using hi
  have hi2:i<xs.size:=by simpa using hi'
  have U:eH.getD i .junk=σ.get xs.toList[i]:=by rw[←hx];simp[List.getD,hi2]
  have q2:(xs.toList.map a.eval).getD i undef=a.eval xs.toList[i]:=by simp[List.getD,hi2]
  rw[U,q2];exact u.get _) e3 e4
 have hin:Holds (Ey.now w ok σ.ents H) ok H ⟨dn rc.1.toList eH slots,σ.ents,σ.ents.length⟩ { tmps:=(rc.1.toList.zip (xs.toList.map a.eval)).foldl (fun t p=>t.setIfInBounds p.1 p.2) tm,defers:=[] } w:=
  ⟨u.mem.inner,p1,.nil _ _ _,u.mem.hlen,p2⟩
 show Code.wpIn (JO (some l)) 0 P _ _ _ _;refine Ua (h.run (some l) (.inr J.1) _ _ _ _ _ hin) ?_;rintro e a1 w1 ⟨ok1,H1,s1,q,rfl,sl,hs1,h2⟩;obtain⟨g1,n1,m1⟩:=u.mem.outer q.mem;have hk1:=n1 k hd M;obtain⟨l',fn',D',U,q2,q3,q4⟩:=q.mem.ent k _ hd hs1 hk1;have O:l'=l:=by rw[e1]at U;cases U;rfl
 subst O
 obtain⟨m2,g2⟩:=q.mem.akl (o:=.loop { state:=.busy,pending:=none,fn:=fn',tmps:=tm,params:=rc.1,assign:=rc.2.1,body:=rc.2.2,defers:=D' }) (e':=.loop tm sl rc .busy none) hs1 rfl hk1 (aBQ U)
  (fun g=>⟨l',fn',D',U,WQ (H6.1 q2).1,q3,fun t ht=>(q4 t ht).mono g (.refl _)⟩)
 refine⟨_,run_beginRound q2 rfl,?_⟩;refine Ua (h2.run (some l') (.inr J.2) _ _ _ _ _ ⟨m2,q.size,q.defers.mono g2,q.base,fun t ht=>(q.slot t ht).mono g2 (.refl _)⟩) ?_;rintro e a2 w3 ⟨ok2,H2,s2,hh2,z,j,hs2,hj,hL⟩;obtain⟨g3,n3,m3⟩:=u.mem.outer hh2.mem;have hk2:=n3 k hd M;obtain⟨l3,fn3,D3,r1,r2,r3,r4⟩:=hh2.mem.ent k _ hd hs2 hk2;have O:l3=l':=by rw[e1]at r1;cases r1;rfl
 subst O
 have key:j.1=(if j.2.isNone then LoopState.ready else .done)->∃v w',(Instr.endRound l3 j.2).run P w3=.ok v w'/\wpListIn (JO ro) 0 P ops Q (rest++l2) (a.put o.dst v) w':=by
  intro hst
  obtain⟨m4,g4⟩:=m3.akl (o:=.loop { state:=(if j.2.isNone then LoopState.ready else .done),pending:=j.2,fn:=fn3,tmps:=tm,params:=rc.1,assign:=rc.2.1,body:=rc.2.2,defers:=D3 }) (e':=.loop tm z rc j.1 j.2) hs2 rfl hk2 (aBQ r1)
   (fun g=>⟨l3,fn3,D3,r1,by rw[hst];exact WQ (H6.1 r2).1,r3,fun t ht=>(r4 t ht).mono g (.refl _)⟩)
  refine⟨_,_,run_endRound j.2 r2,hL.run ro l2 Q C _ _ _ _ (Holds.put (σ:=⟨σ.slots,s2.ents.set k (.loop tm z rc j.1 j.2),σ.base⟩) ⟨m4,u.size,u.defers.mono (g3.trans g4),u.base,fun t ht=>(u.slot t ht).mono (g3.trans g4) n3⟩ o.dst (.refl _ _) (.refl _) m4 (.d _ _ (.lit _))) L⟩
 cases e with
 |normal=>obtain rfl:=Dq hj;exact key rfl
 |ret=>obtain rfl:=Dq hj;exact key rfl
 |exit i=>obtain rfl:=Dq hj;exact key rfl
 |_=>cases hj
def Bv.azZ {Q:Exit->BO->Prop} {g:CM} {Y:C9 Tmp} {assign body c:Code} {gf:FuncId} {fn:Func} (q:A8 Af) (hg:∀(C:Ey) (ok:Nat->Prop) (H:A8 CP) (a:Act) (w:BU),Holds C ok H σ a w->R ok w H (.fn (.func gf) [] q) (a.eval g)) (hf:P.funcs[gf]? =some fn) (he:Hd P gf=true) (J:fn.body=some c) (hres:fn.results= #[])
 (h:∀tm,Bv P c ⟨(.mp σ.ents.length::q)++List.replicate (fn.ntmps-(q.length+1)) .junk,σ.ents++[.loop tm σ.slots (Y,assign,body) .ready none],σ.ents.length+1⟩ fun e s=>(e=.normal\/e=.ret)/\
  ∃sl j x,s.ents[σ.ents.length]? =some (.loop tm sl (Y,assign,body) j.1 j.2)/\Xr x=some j/\Q x ⟨σ.slots,s.ents.set σ.ents.length .dead,σ.base⟩):Bv P (.rangeFunc g Y assign body) σ Q:=by
 refine⟨fun ro hr C ok H a w u=>?_⟩;obtain rfl:ro=none:=hr.resolve_right (by simp[QL]);have hv:=hg C ok H a w u;generalize hav:a.eval g=v at hv;cases hv with
 |fn _ _ _ vs us hl1 hl2 h1 h2=>
  obtain rfl:vs= #[]:=WT (by simpa using hl1);refine wpIn_rangeFunc ?_;intro fnm _;obtain⟨M,hrec⟩:∃M:Loop,M={ state:=.ready,pending:=none,fn:=fnm,tmps:=a.tmps,params:=Y,assign,body,defers:=w.heap.size }:=⟨_,rfl⟩
  obtain⟨I,L⟩:∃I,(w.alloc (.deferred (some []))).alloc (.loop M)=I:=⟨_,rfl⟩
  have hsz:I.heap.size=w.heap.size+2:=by rw[←L];simp
  have hL:I.heap[w.heap.size+1]? =some (.loop M):=by
   rw[←L];have :=jH (w.alloc (.deferred (some []))) (.loop M);rwa [aLv]at this
  have hD:I.heap[w.heap.size]? =some (.deferred (some [])):=by
   rw[←L];exact(Kq _ _ _ Bh).trans (jH w _)
  have hold:∀b,b<w.heap.size->I.heap[b]? =w.heap[b]? :=fun b J=>by
   rw[←L];exact(Kq _ _ _ EW).trans (Kq _ _ _ J)
  have hos:I.os=w.os/\I.tape=w.tape/\I.output=w.output:=by rw[←L];exact⟨rfl,rfl,rfl⟩
  obtain⟨hd,hhd⟩:∃hd:CP,hd=⟨.func (.yield (w.heap.size+1)) #[] #[],0⟩:=⟨_,rfl⟩
  have Z:hd.v=.func (.yield (w.heap.size+1)) #[] #[]:=by rw[hhd]
  have hgr:Et ok w (fun b=>ok b\/b=w.heap.size) I:=fun b J=>⟨.inl J,hold b (u.mem.kS b J)⟩
  have hHn:(H++[hd])[σ.ents.length]? =some hd:=by rw[←u.mem.hlen];simp
  obtain⟨m2,g2⟩:=u.mem.change (ok':=fun b=>ok b\/b=w.heap.size) (H':=H++[hd]) (es':=σ.ents++[.loop a.tmps σ.slots (Y,assign,body) .ready none]) (w':=I) (fun _=>False) hos.1 hos.2.1 hos.2.2 AB (fun b J _=>hold b J) (fun _ h=>h.elim)
   (fun _ h=>.inl h) (fun b J=>J.imp id fun h=>AB) (.push _ _) (by simp[u.mem.hlen]) (fun k e hk he hkk=>by
    rcases Vz he with he'|⟨rfl,rfl⟩
    ·left;have hkl:k<H.length:=by rw[u.mem.hlen];exact(GH.1 he').1
     rw[Hu hkl]at hkk;exact⟨he',hkk,fun _ _ _ h=>h⟩
    right;rw[hHn]at hkk;obtain rfl:=Dq hkk;refine⟨⟨w.heap.size+1,fnm,w.heap.size,Z,by rw[hL,hrec],u.size,fun t ht=>(u.slot t ht).mono hgr (.push _ _)⟩,fun _ b J=>?_⟩;rw[aBQ Z]at J;obtain rfl:=Dq J;refine⟨fun hx=>?_,AB,.inl (by have :=u.mem.fr.size;omega),fun k' e' h' hne he' hl' O hb'=>?_⟩
    ·rcases hx with hx|hx
     ·have :=u.mem.kS _ hx;omega
     omega
    rcases Vz he' with he2|⟨rfl,_⟩
    ·have hkl:k'<H.length:=by rw[u.mem.hlen];exact(GH.1 he2).1
     rw[Hu hkl]at O;have :=(u.mem.blk k' e' h' _ he2 hl' O hb').2.1;omega
    exact hne rfl)
  have hargs:∀t,t<((.mp σ.ents.length::q)++List.replicate (fn.ntmps-(q.length+1)) .junk:A8 Af).length->
   R (fun b=>ok b\/b=w.heap.size) I (H++[hd]) (((.mp σ.ents.length::q)++List.replicate (fn.ntmps-(q.length+1)) .junk:A8 Af).getD t .junk)
     (((#[.func (.yield (w.heap.size+1)) #[] #[]]++us)++Array.replicate (fn.ntmps-(#[.func (.yield (w.heap.size+1)) #[] #[]]++us:C9 Au).size) undef:C9 Au).getD t undef):=by
   intro t ht;by_cases h0:t<q.length+1
   ·have q1:((.mp σ.ents.length::q)++List.replicate (fn.ntmps-(q.length+1)) .junk:A8 Af).getD t .junk=(.mp σ.ents.length::q:A8 Af).getD t .junk:=by
     simp only[List.getD];rw[Hu (by simpa using h0)]
    have q2:((#[.func (.yield (w.heap.size+1)) #[] #[]]++us)++Array.replicate (fn.ntmps-(#[.func (.yield (w.heap.size+1)) #[] #[]]++us:C9 Au).size) undef:C9 Au).getD t undef=(#[.func (.yield (w.heap.size+1)) #[] #[]]++us:C9 Au).getD t undef:=by
     simp only[J8];rw[YU EW]
    rw[q1,q2];cases t with
    |zero=>
     have q3:(#[.func (.yield (w.heap.size+1)) #[] #[]]++us:C9 Au).getD 0 undef=.func (.yield (w.heap.size+1)) #[] #[]:=by
      simp only[J8];rw[YU Bh];rfl
     rw[q3];exact .mp _ _ 0 rfl (by rw[hHn,hhd])
    |succ t=>
     have q3:(#[.func (.yield (w.heap.size+1)) #[] #[]]++us:C9 Au).getD (t+1) undef=us.getD t undef:=by
      simp only[J8];rw[aNo Bh];rfl
     rw[q3];simpa using(h2 t AB).mono hgr (.push _ _)
   have q1:((.mp σ.ents.length::q)++List.replicate (fn.ntmps-(q.length+1)) .junk:A8 Af).getD t .junk=.junk:=by
    simp only[List.getD];rw[Kt EW,aI0];split<;>rfl
   rw[q1];exact .junk _
  have hin:Holds (Ey.now I (fun b=>ok b\/b=w.heap.size) (σ.ents++[.loop a.tmps σ.slots (Y,assign,body) .ready none]) (H++[hd])) (fun b=>ok b\/b=w.heap.size) (H++[hd])
   ⟨(.mp σ.ents.length::q)++List.replicate (fn.ntmps-(q.length+1)) .junk,σ.ents++[.loop a.tmps σ.slots (Y,assign,body) .ready none],σ.ents.length+1⟩
   { tmps:=(#[.func (.yield (w.heap.size+1)) #[] #[]]++us)++Array.replicate (fn.ntmps-(#[.func (.yield (w.heap.size+1)) #[] #[]]++us:C9 Au).size) undef,defers:=[] } I:=
   ⟨m2.inner,by simp[hl2];omega,.nil _ _ _,by simp[Ey.now,u.mem.hlen],hargs⟩
  refine⟨w.heap.size+1,[{ target:=.collected w.heap.size,args:= #[] }],I,{ target:=.fn (.func gf) us,args:= #[.func (.yield (w.heap.size+1)) #[] #[]] },I,gf, #[.func (.yield (w.heap.size+1)) #[] #[]]++us,I,?_,?_,fun _ _=>trivial,?_,fun h=>Ib,?_⟩
  ·rw[←L,hrec];exact run_enterLoop_outer _ _ _ _ _
  ·have e9:a.eval (.const (.func (.yield (w.heap.size+1)) #[] #[]))=.func (.yield (w.heap.size+1)) #[] #[]:=rfl;simp[resolve,hav,Deferred.ofValue,e9]
  ·have :=U9 he (#[.func (.yield (w.heap.size+1)) #[] #[]]++us) I;simpa[invoke]using this
  refine aLx hf J trivial (Ua ((h a.tmps).run none (.inl rfl) _ _ _ _ _ hin) ?_) rfl;rintro e a' w' ⟨ok',H',s,O,hee,sl,j,x,hs,hj,hQ⟩;obtain⟨Ds,hDs,hnd,hds⟩:=O.defers
  have key:LeavesInM (JO none) 0 P fn a'.tmps (rangePost (JO none) 0 P (w.heap.size+1) (fun e a' w'=>∃ok' H' σ',Holds C ok' H' σ' a' w'/\Q e σ') { a with defers:=[{ target:=.collected w.heap.size,args:= #[] }]++a.defers }) a'.defers .returning w':=by
   rw[hDs];refine aIp (P:=P) (C:=Ey.now I (fun b=>ok b\/b=w.heap.size) (σ.ents++[.loop a.tmps σ.slots (Y,assign,body) .ready none]) (H++[hd])) m2.kS (fun ok3 a3 w3 h3=>?_) Ds O hds hnd;refine⟨.tuple #[],by simp[results,hres],?_⟩;obtain⟨g3,n3,m3⟩:=m2.outer h3.mem;have hk3:=n3 _ hd hHn;obtain⟨l3,fn3,D3,r1,r2,r3,r4⟩:=h3.mem.ent _ _ hd hs hk3;have hll:l3=w.heap.size+1:=by rw[Z]at r1;cases r1;rfl
   subst hll
   have hnb:j.1≠ .busy:=by
    cases x<;>simp[Xr]at hj<;>rw[←hj]<;>simp
   obtain⟨m4,g4⟩:=m3.akl (o:=.loop { state:=.exhausted,pending:=j.2,fn:=fn3,tmps:=a.tmps,params:=Y,assign:=assign,body:=body,defers:=D3 }) (e':=.dead) hs rfl hk3 (aBQ Z) (fun _=>trivial);have U:=(g2.trans g3).trans g4
   have z:Holds C ok3 H' ⟨σ.slots,s.ents.set σ.ents.length .dead,σ.base⟩ { a with defers:=[{ target:=.collected w.heap.size,args:= #[] }]++a.defers }
    (w3.putObj (w.heap.size+1) (.loop { state:=.exhausted,pending:=j.2,fn:=fn3,tmps:=a.tmps,params:=Y,assign:=assign,body:=body,defers:=D3 })):=by
    refine⟨m4,u.size,?_,u.base,fun t ht=>(u.slot t ht).mono U ((Ho _ _).trans n3)⟩;obtain⟨Es,q1,q2,q3⟩:=u.defers.mono U;obtain⟨Fs,p1,p2,p3⟩:=u.defers
    have hEF:Es=Fs:=by
     have :=q1.symm.trans p1;exact(List.map_inj_right (fun a b h=>KY)).1 this
    subst hEF;refine⟨w.heap.size::Es,by simp[q1],NY.2 ⟨fun hm=>?_,q2⟩,fun D hDm=>?_⟩
    ·have :=u.mem.kS _ (p3 _ hm).1;omega
    rcases FK.1 hDm with rfl|hDm
    ·have hok2:(fun b=>ok b\/b=w.heap.size) w.heap.size:=.inr rfl;have q4:=(g3.trans g4) _ hok2;exact⟨q4.1,u.mem.fr.size,q4.2.trans hD⟩
    exact q3 D hDm
   refine⟨j.2,_,run_endLoop r2 hnb,?_⟩;cases x with
   |normal=>simp[Xr]at hj;rw[←hj]at z ⊢;exact⟨_,_,_,z,hQ⟩
   |ret=>simp[Xr]at hj;rw[←hj]at z ⊢;exact wpIn_ret ⟨_,_,_,z,hQ⟩
   |exit i=>simp[Xr]at hj;rw[←hj]at z ⊢;exact wpIn_exit ⟨_,_,_,z,hQ⟩
   |_=>cases hj
  rcases hee with rfl|rfl
  ·exact key
  exact key
def Bv.rangeFunc {Q:Exit->BO->Prop} {g:CM} {z:C9 Tmp} {assign body c:Code} {I:FuncId} {fn:Func} (q:A8 Af) (J:σ.get g=.fn (.func I) [] q) (L:P.funcs[I]? =some fn) (M:Hd P I=true) (O:fn.body=some c) (u:fn.results= #[])
 (h:∀tm,Bv P c ⟨(.mp σ.ents.length::q)++List.replicate (fn.ntmps-(q.length+1)) .junk,σ.ents++[.loop tm σ.slots (z,assign,body) .ready none],σ.ents.length+1⟩ fun e s=>(e=.normal\/e=.ret)/\
  ∃sl j x,s.ents[σ.ents.length]? =some (.loop tm sl (z,assign,body) j.1 j.2)/\Xr x=some j/\Q x ⟨σ.slots,s.ents.set σ.ents.length .dead,σ.base⟩):Bv P (.rangeFunc g z assign body) σ Q:=
 Bv.azZ q (fun _ _ _ _ _ U=>J▸U.get g) L M O u h
def Bv.anH {Q:Exit->BO->Prop} {g:CM} {u:C9 Tmp} {assign body c:Code} {z:FuncId} {fn:Func} (cs:A8 D) (I:σ.get g=.d (.fn (.func z) [] cs)) (J:P.funcs[z]? =some fn) (L:Hd P z=true) (M:fn.body=some c) (q:fn.results= #[])
 (h:∀tm,Bv P c ⟨(.mp σ.ents.length::cs.map .d)++List.replicate (fn.ntmps-((cs.map Af.d).length+1)) .junk,σ.ents++[.loop tm σ.slots (u,assign,body) .ready none],σ.ents.length+1⟩ fun e s=>(e=.normal\/e=.ret)/\
  ∃sl j x,s.ents[σ.ents.length]? =some (.loop tm sl (u,assign,body) j.1 j.2)/\Xr x=some j/\Q x ⟨σ.slots,s.ents.set σ.ents.length .dead,σ.base⟩):Bv P (.rangeFunc g u assign body) σ Q:=
 Bv.azZ (cs.map .d) (fun _ _ _ _ _ O=>R.dfn (I▸O.get g)) J L M q h
end
def adW :Code->Nat->Code
 | .seq a b,i=>if i=0 then a else b
 | .cond _ a b,i=>if i=0 then a else b
 | .block _ a,_=>a
 | .loop a,_=>a
 | .scope a,_=>a
 | .rangeFunc _ _ a b,i=>if i=0 then a else b
 |c,_=>c
def aBS (c:AL Code) (p:A8 Nat):C9 Tmp×Code×Code:=
 match p.foldl adW (c.getD .skip)with
 | .rangeFunc _ j a b=>(j,a,b)
 |_=>(#[],.skip,.skip)
section
variable {K V:Type} [BEq K]
def DX :A8 (K×V)->K->AL V
 | [],_=>none
 |p::l,k=>bif k==p.1 then some p.2 else DX l k
def F8 :A8 (K×V)->K->V->A8 (K×V)
 | [],k,v=>[(k,v)]
 |p::l,k,v=>bif k==p.1 then(k,v)::l else p::F8 l k v
def DL (ek:K->Au) (ev:V->D) (p:K×V):Au×D:=(ek p.1,ev p.2)
structure KeyTy (P:Program) (t:TypeId) (ek:K->Value):Prop where
 same:∃kd,P.underlying t=some kd/\∀a b,Instr.sameNow kd (ek a) (ek b)=some (a==b)
 check:∀e a w,(Instr.checkKey e 10000 t (ek a)).run P w=.ok () w
 eq:∀a b:K,(a==b)=true->a=b
 bits:∀a,Instr.sameBits 10000 (ek a) (ek a)=true
def aeg {P:Ce} {t:CG} {k:IntKind} (h:P.underlying t=some (.int k)):KeyTy P t (fun n:Int=>Value.int k n):=by
 refine⟨⟨_,h,fun a b=>by simp[Instr.sameNow]⟩,fun e a w=>?_,fun a b h=>KY,fun a=>?_⟩
 ·have :∀n,(Instr.checkKey e (n+1) t (.int k a)).run P w=.ok () w:=fun n=>by simp[Instr.checkKey,underlying,h]
  exact this 9999
 unfold Instr.sameBits;simp
def aBg {ek:K->Au} {kd:TypeDesc} (hs:∀a b,Instr.sameNow kd (ek a) (ek b)=some (a==b)) (k:K) (v:V):∀(m:A8 (K×V)) (l:A8 MapEntry) (i:Nat),l.map (·.key)=m.map (fun p=>ek p.1)->
 (Instr.findNow kd (ek k) l i=some none/\DX m k=none/\F8 m k v=m++[(k,v)])\/
 ∃j e p,Instr.findNow kd (ek k) l i=some (some (i+j,e.val))/\l[j]? =some e/\m[j]? =some p/\DX m k=some p.2/\(k==p.1)=true/\F8 m k v=m.set j (k,v)
 | [],[],_,_=>.inl ⟨rfl,rfl,rfl⟩
 | [],_::_,_,h=>Ip
 |_::_,[],_,h=>Ip
 |p::m,e::l,i,h=>by
  simp only[JR,aGz]at h;cases q:(k==p.1)with
  |true=>
   refine .inr ⟨0,e,p,?_,rfl,rfl,?_,q,?_⟩
   ·simp[Instr.findNow,h.1,hs,q]
   ·simp[DX,q]
   simp[F8,q]
  |false=>
   rcases aBg hs k v m l (i+1) h.2 with⟨u,z,I⟩|⟨j,e',J,u,z,I,L,M,O⟩
   ·refine .inl ⟨?_,?_,?_⟩
    ·simp[Instr.findNow,h.1,hs,q,u]
    ·simp[DX,q,z]
    simp[F8,q,I]
   refine .inr ⟨j+1,e',J,?_,N8,UR,?_,M,?_⟩
   ·simp[Instr.findNow,h.1,hs,q,u];omega
   ·simp[DX,q,L]
   simp[F8,q,O]
end
section
variable {ok:Nat->Prop} {w:BU} {es:A8 (Au×D)} {ms:C9 MapEntry} {clock:Nat}
def Ld.push (h:Ld ok w es ms clock) {k v:Au} {x:D} (L:ES ok w x v):Ld ok w (es++[(k,x)]) (ms.push { key:=k,val:=v,born:=clock }) (clock+1):=by
 have q:∀(i:Nat) (m:MapEntry),(ms.push { key:=k,val:=v,born:=clock })[i]? =some m->ms[i]? =some m\/(i=ms.size/\m={ key:=k,val:=v,born:=clock }):=fun i m hm=>by
  rw[Array.getElem?_push]at hm;split at hm
  ·rename_i e;exact .inr ⟨e,(Dq hm).symm⟩
  exact .inl hm
 refine⟨by simp[h.len],fun i e m z hm=>?_,fun i j m n I hm M=>?_⟩
 ·rcases q i m hm with u|⟨rfl,rfl⟩
  ·have hi:i<es.length:=by rw[←h.len];exact(H6.1 u).1
   rw[Hu hi]at z;obtain⟨O,U,Y⟩:=h.ent i e m z u;exact⟨O,U,Nat.lt_succ_of_lt Y⟩
  rw[h.len]at z;simp at z;subst z;exact⟨rfl,L,WO _⟩
 rcases q i m hm with u|⟨rfl,rfl⟩<;>rcases q j n M with J|⟨rfl,rfl⟩
 ·exact h.inc i j m n I u J
 ·have hi:i<es.length:=by rw[←h.len];exact(H6.1 u).1
  exact(h.ent i es[i] m Tt u).2.2
 ·have :=(H6.1 J).1;omega
 omega
def Ld.modify (h:Ld ok w es ms clock) {k v:Au} {x:D} (Z:ES ok w x v) (j:Nat):Ld ok w (es.set j (k,x)) (ms.modify j fun e=>{ e with key:=k,val:=v }) clock:=by
 have u:∀(i:Nat) (m:MapEntry),(ms.modify j fun e=>{ e with key:=k,val:=v })[i]? =some m->∃z,ms[i]? =some z/\m.born=z.born/\(i≠j->m=z)/\(i=j->m.key=k/\m.val=v):=fun i m hm=>by
  rw[P8]at hm;split at hm
  ·rename_i e;rw[Uu]at hm;obtain⟨z,I,rfl⟩:=hm;exact⟨z,I,rfl,fun q=>absurd e.symm q,fun _=>⟨rfl,rfl⟩⟩
  rename_i e;exact⟨m,hm,rfl,fun _=>rfl,fun q=>absurd q.symm e⟩
 refine⟨by simp[h.len],fun i e m J hm=>?_,fun i U m n L hm hn=>?_⟩
 ·obtain⟨z,I,M,h3,Y⟩:=u i m hm;have hi:i<es.length:=by rw[←h.len];exact(H6.1 I).1
  obtain⟨q1,q2,q3⟩:=h.ent i es[i] z Tt I;by_cases O:i=j
  ·subst O;simp[hi]at J;subst J;exact⟨(Y rfl).1,by rw[(Y rfl).2];exact Z,by rw[M];exact q3⟩
  rw[dZ (fun q=>O q.symm)]at J;rw[h3 O];exact h.ent i e z J I
 obtain⟨z,I,M,_⟩:=u i m hm;obtain⟨n0,g1,g2,_⟩:=u U n hn;rw[M,g2];exact h.inc i U z n0 L I g1
def Ld.mono {ok':Nat->Prop} {w':BU} (h:Ld ok w es ms clock) (q:Et ok w ok' w'):Ld ok' w' es ms clock:=⟨h.len,fun i e m j hm=>⟨(h.ent i e m j hm).1,(h.ent i e m j hm).2.1.mono q,(h.ent i e m j hm).2.2⟩,h.inc⟩
def Ld.keys (h:Ld ok w es ms clock):ms.toList.map (·.key)=es.map (·.1):=by
 apply wG
 ·simp[h.len]
 intro i j q;simp at j q;have :=(h.ent i es[i] ms[i] Zx (by simp[j])).1;simpa using this
end
def bC :Au->D
 | .agg vs=>.agg (vs.toList.map P7)
 |v=>P7 v
def aPw {ok:Nat->Prop} {w:BU} {z:Au} (h:z.cells.all (·.oneCell')=true):ES ok w (bC z) z:=by
 unfold bC;split
 ·rename_i vs;refine .agg _ vs Bh (fun i hi=>?_) (fun i hi=>?_)
  ·simp at hi;have e:(vs.toList.map P7).getD i EO=P7 vs[i]:=Nh
   rw[e];exact sU ((UW.1 h) _ (by simp[Value.cells]))
  simp at hi;have e:(vs.toList.map P7).getD i EO=P7 vs[i]:=Nh
  have j:vs.getD i undef=vs[i]:=by simp[Array.getD,hi]
  rw[e,j];exact fU _
 exact fU _
section
variable {P:Ce} {o:Oper} {es:A8 Bd} {K V:Type} [BEq K]
def VB {ok:Nat->Prop} {w:BU} {H:A8 CP} {k:Nat} {v:Au} {h:CP} (q:R ok w H (.mp k) v) (u:H[k]? =some h):v=h.v:=by
 cases q with
 |mp _ _ s hl j=>
  rw[u]at j;cases j;rfl
def aCq {t:CG} (u:o.op=.makeMap t none):CQ P o [] es (.mp es.length) (es++[.map []]):=
 .eff fun C ok H a w hm M=>by
  have q:FY ok (w.alloc (.map #[] 0)) (H++[⟨.map (some w.heap.size),0⟩]) ⟨.map (some w.heap.size),0⟩ (.map []):=
   ⟨w.heap.size, #[],0,rfl,(aGq w _).1,⟨rfl,fun i e m z=>rE,fun i j m n _ hm=>by simp at hm⟩⟩
  obtain⟨I,J⟩:=hm.push (.map #[] 0) ⟨.map (some w.heap.size),0⟩ _ (fun b q=>aLu) q;refine⟨.map (some w.heap.size),_,ok,_,.inl ?_,J,Ho _ _,I,.mp _ _ 0 rfl PD⟩;have L:(newObj (.map #[] 0)).run P w=.ok w.heap.size (w.alloc (.map #[] 0)):=rfl;simp[execOp,u,Instr.makeMap,L]
def ajr {t k e:CG} {x:CM} {kd:IntKind} {n:Int} (ht:P.underlying t=some (.map k e)) (z:o.op=.makeMap t (some x)):CQ P o [(x,.d (.lit (.int kd n)))] es (.mp es.length) (es++[.map []]):=
 .eff fun C ok H a w hm I=>by
  have q:FY ok (w.alloc (.map #[] 0)) (H++[⟨.map (some w.heap.size),0⟩]) ⟨.map (some w.heap.size),0⟩ (.map []):=
   ⟨w.heap.size, #[],0,rfl,(aGq w _).1,⟨rfl,fun i e m J=>by simp at J,fun i j m n _ hm=>by simp at hm⟩⟩
  obtain⟨L,M⟩:=hm.push (.map #[] 0) ⟨.map (some w.heap.size),0⟩ _ (fun b q=>aLu) q;have u:=(LV I).lit;simp only at u;refine⟨.map (some w.heap.size),_,ok,_,.inl ?_,M,Ho _ _,L,.mp _ _ 0 rfl PD⟩;have O:(newObj (.map #[] 0)).run P w=.ok w.heap.size (w.alloc (.map #[] 0)):=rfl;simp[execOp,z,Instr.makeMap,O,u,asInt,asIntOf,underlying,ht]
def aGO {t Z vt:CG} {ek:K->Au} (ev:V->D) {J:V} {z:Au} {m:A8 (K×V)} {key:K} {ok:Nat->Prop} {w:BU} {b:Nat} {ms:C9 MapEntry} {clock:Nat} (ht:P.underlying t=some (.map Z vt)) (hk:KeyTy P Z ek) (hz:(P.info? vt).bind (·.zero)=some z) (L:bC z=ev J)
 (M:z.cells.all (·.oneCell')=true) (hb:w.heap[b]? =some (.map ms clock)) (hM:Ld ok w (m.map (DL ek ev)) ms clock) (c:AZ):
 ∃v,(Instr.lookup t (.map (some b)) (ek key) c).run P w=.ok (if c then .tuple #[v,.bool (DX m key).isSome]else v) w/\ES ok w (ev ((DX m key).getD J)) v:=by
 obtain⟨kd,q,hs⟩:=hk.same;have O:ms.toList.map (·.key)=m.map (fun p=>ek p.1):=by rw[hM.keys];simp[DL,xM]
 have u:=hk.check;obtain⟨i,hi,U⟩:=mX.1 hz;rcases aBg (i:=0) hs key J m ms.toList O with⟨Y,I,_⟩|⟨j,e,p,Y,I,h3,h4,_⟩
 ·refine⟨z,?_,?_⟩
  ·rw[I];simp[Instr.lookup,underlying,ht,Rz hb,u,Instr.findKey,q,Y,zeroValue,typeInfo,hi,U]
  rw[I];have :=aPw (ok:=ok) (w:=w) M;rw[L]at this;exact this
 refine⟨e.val,?_,?_⟩
 ·rw[h4];simp[Instr.lookup,underlying,ht,Rz hb,u,Instr.findKey,q,Y]
 rw[h4];have h5:(m.map (DL ek ev))[j]? =some (DL ek ev p):=by rw[Jg,h3];rfl
 exact(hM.ent j _ e h5 UR).2.1
def fO {t J L:CG} {x y:CM} {k:Nat} {ek:K->Au} (ev:V->D) (M:V) {z:Au} {m:A8 (K×V)} {key:K} (ht:P.underlying t=some (.map J L)) (Z:KeyTy P J ek) (hz:(P.info? L).bind (·.zero)=some z) (q:bC z=ev M) (u:z.cells.all (·.oneCell')=true)
 (he:es[k]? =some (.map (m.map (DL ek ev)))) (ho:o.op=.lookup t x y false):CQ P o [(x,.mp k),(y,.d (.lit (ek key)))] es (.d (ev ((DX m key).getD M))) es:=
 .pure fun ok H a w j hl O=>by
  obtain⟨hd,hh,I⟩:=Hl j hl he;obtain⟨b,ms,clock,h1,h2,h3⟩:=I;have U:=VB (FI O).1 hh;have Y:=(FI O).2.lit;simp only at U Y;obtain⟨v,hr,hv⟩:=aGO (key:=key) ev ht Z hz q u h2 h3 false;refine⟨v,?_,.d _ _ hv⟩;simp[execOp,ho,U,Y,h1,hr]
def aEH {t J L:CG} {x y:CM} {k:Nat} {ek:K->Au} (ev:V->D) (M:V) {z:Au} {m:A8 (K×V)} {key:K} (ht:P.underlying t=some (.map J L)) (Z:KeyTy P J ek) (hz:(P.info? L).bind (·.zero)=some z) (q:bC z=ev M) (u:z.cells.all (·.oneCell')=true)
 (he:es[k]? =some (.map (m.map (DL ek ev)))) (ho:o.op=.lookup t x y true):CQ P o [(x,.mp k),(y,.d (.lit (ek key)))] es (.fC [.d (ev ((DX m key).getD M)),.d (EY (DX m key).isSome)]) es:=
 .pure fun ok H a w j hl O=>by
  obtain⟨hd,hh,I⟩:=Hl j hl he;obtain⟨b,ms,clock,h1,h2,h3⟩:=I;have U:=VB (FI O).1 hh;have Y:=(FI O).2.lit;simp only at U Y;obtain⟨v,hr,hv⟩:=aGO (key:=key) ev ht Z hz q u h2 h3 true;refine⟨.tuple #[v,.bool (DX m key).isSome],?_,.fC _ _ rfl fun i hi=>?_⟩
  ·simp[execOp,ho,U,Y,h1,hr]
  match i,hi with
  |0,_=>exact .d _ _ hv
  |1,_=>exact .d _ _ (.lit _)
def aGL {C:Ey} {ok:Nat->Prop} {H:A8 CP} {w:BU} (hm:E5 C ok H es w) {k:Nat} {es0 u:A8 (Au×D)} {b clock j:Nat} {ms q:C9 MapEntry} {hd:CP} (J:es[k]? =some (.map es0)) (L:H[k]? =some hd) (z:hd.v=.map (some b)) (I:w.heap[b]? =some (.map ms clock))
 (M:Ld ok w u q j):(setObj b (.map q j)).run P w=.ok () (w.putObj b (.map q j))/\E5 C ok H (es.set k (.map u)) (w.putObj b (.map q j))/\Et ok w ok (w.putObj b (.map q j)):=by
 refine⟨by simp[setObj,Sem.run,I,World.putObj],hm.akl J rfl L rV fun O=>⟨b,q,j,z,WQ (H6.1 I).1,M.mono O⟩⟩
def zf {t kt vt:CG} {x y u:CM} {k:Nat} {ek:K->Au} (ev:V->D) {m:A8 (K×V)} {key:K} {val:V} (ht:P.underlying t=some (.map kt vt)) (J:KeyTy P kt ek) (U:es[k]? =some (.map (m.map (DL ek ev)))) (ho:o.op=.mapUpdate t x y u):
 CQ P o [(x,.mp k),(y,.d (.lit (ek key))),(u,.d (ev val))] es .junk (es.set k (.map ((F8 m key val).map (DL ek ev)))):=
 .eff fun C ok H a w hm Y=>by
  obtain⟨hd,Z,hok⟩:=Hl hm.ent hm.hlen U;obtain⟨b,ms,clock,L,M,O⟩:=hok;have hx:=VB (Y (x,.mp k) Bh) Z;have hy:=(Y (y,.d (.lit (ek key))) Bh).lit;have hu:ES ok w (ev val) (a.eval u):=by have :=Y (u,.d (ev val)) Bh;cases this with |d _ _ h=>exact h
  simp only at hx hy;obtain⟨kd,q,hs⟩:=J.same;have hks:ms.toList.map (·.key)=m.map (fun p=>ek p.1):=by rw[O.keys];simp[DL,xM]
  have z:=J.check;rcases aBg (i:=0) hs key val m ms.toList hks with⟨q1,_,q3⟩|⟨j,e,p,q1,q2,q3,_,q5,q6⟩
  ·have hM:=O.push (k:=ek key) hu;obtain⟨r1,r2,r3⟩:=aGL (P:=P) hm U Z L M hM;refine⟨undef,_,ok,H,.inr ⟨rfl,?_⟩,r3,.refl _,?_,.junk _⟩
   ·simp[execOp,ho,hx,hy,L,Instr.mapUpdate,underlying,ht,Rz M,z,Instr.findKey,q,q1,r1]
   rw[q3,LP];exact r2
  have hM:=O.modify (k:=ek key) hu j;obtain⟨r1,r2,r3⟩:=aGL (P:=P) hm U Z L M hM
  have I:e.key=ek key:=by
   have h5:(m.map (DL ek ev))[j]? =some (DL ek ev p):=by rw[Jg,q3];rfl
   rw[(O.ent j _ e h5 pO).1,J.eq _ _ q5];rfl
  have hst:∀w,(Instr.keyThatStays (ek key) (ek key)).run P w=.ok (ek key) w:=fun w=>by simp[Instr.keyThatStays,J.bits]
  have hms:ms[j]? =some e:=pO
  refine⟨undef,_,ok,H,.inr ⟨rfl,?_⟩,r3,.refl _,?_,.junk _⟩
  ·simp[execOp,ho,hx,hy,L,Instr.mapUpdate,underlying,ht,Rz M,z,Instr.findKey,q,q1,hms,I,hst,r1]
  rw[q6,Mem];exact r2
def akq {t M O:CG} {x:CM} {k:Nat} {es0:A8 (Au×D)} (ht:P.underlying t=some (.map M O)) (q:es[k]? =some (.map es0)) (U:o.op=.call { callee:=.builtin .clear,args:= #[x],argTypes:= #[t] }):
 CQ P o [(x,.mp k)] es .junk (es.set k (.map [])):=
 .eff fun C ok H a w hm Y=>by
  obtain⟨hd,z,u⟩:=Hl hm.ent hm.hlen q;obtain⟨b,ms,clock,I,J,h3⟩:=u;have L:=VB (Y (x,.mp k) Bh) z;simp only at L;have Z:Ld ok w [] #[] clock:=⟨rfl,fun i e m q=>zk,fun i j m n _ hm=>by simp at hm⟩
  obtain⟨r1,r2,r3⟩:=aGL (P:=P) hm q z I J Z;refine⟨.tuple #[],_,ok,H,.inl ?_,r3,.refl _,r2,.junk _⟩;simp[execOp,U,resolve,invoke,builtin,Builtin.clear_,L,I,underlying,ht,Rz J,r1]
def abL {t z I:CG} {x:CM} {k:Nat} {es0:A8 (Au×D)} {n:Nat} (hl:es0.length=n) (ht:P.underlying t=some (.map z I)) (J:es[k]? =some (.map es0)) (L:o.op=.call { callee:=.builtin .len,args:= #[x],argTypes:= #[t] }):
 CQ P o [(x,.mp k)] es (.d (Ae n)) es:=
 .pure fun ok H a w j hlen M=>by
  obtain⟨hd,O,q⟩:=Hl j hlen J;obtain⟨b,ms,clock,U,Y,Z⟩:=q;have u:=VB (M (x,.mp k) Bh) O;simp only at u;refine⟨goInt es0.length,?_,by rw[hl];exact .d _ _ (.lit _)⟩;simp[execOp,L,resolve,invoke,builtin,Builtin.len_,u,U,underlying,ht,Rz Y,Z.len]
end
def aMl {ok:Nat->Prop} {w:BU} {H:A8 CP} {xs ys:A8 Af} {vs us:A8 Au} (h:Fj ok w H xs vs) (k:Fj ok w H ys us):Fj ok w H (xs++ys) (vs++us):=by
 refine⟨by rw[En,En,h.1,k.1],fun i hi=>?_⟩;by_cases j:i<xs.length
 ·have q:(xs++ys).getD i .junk=xs.getD i .junk:=by simp[List.getD,Hu j]
  have u:(vs++us).getD i undef=vs.getD i undef:=by simp[List.getD,Hu (by rw[h.1];exact j:i<vs.length)]
  rw[q,u];exact h.2 i j
 have z:i-xs.length<ys.length:=aNT
 have q:(xs++ys).getD i .junk=ys.getD (i-xs.length) .junk:=by simp[List.getD,Kt (VU j)]
 have u:(vs++us).getD i undef=us.getD (i-xs.length) undef:=by simp[List.getD,Kt (by rw[h.1];omega:vs.length<=i),h.1]
 rw[q,u];exact k.2 _ z
def E5.aDc {C:Ey} {ok:Nat->Prop} {H:A8 CP} {es:A8 Bd} {w w':BU} (hm:E5 C ok H es w) {v':Au} {size:Nat} {e:Bd} (z:w.grownBy w' none) (I:∀g,EK v'=some g->w.heap.size<=g/\g<w'.heap.size)
 (he:Et ok w ok w'->FY ok w' (H++[⟨v',size⟩]) ⟨v',size⟩ e):E5 C ok (H++[⟨v',size⟩]) (es++[e]) w'/\Et ok w ok w':=by
 have g0:Et ok w ok w':=fun b I=>⟨I,z.block b (hm.kS b I) Bh⟩
 refine hm.change (fun _=>False) z.os z.tape z.output z.size (fun b I _=>z.block b I Bh) (fun _ h=>h.elim) (fun _ h=>h) (fun _ h=>.inl h) (Ho _ _) Zo ?_;intro k e' h' M q;rcases Vz M with L|⟨L,h2⟩
 ·left;refine⟨L,?_,fun _ _ _ h=>h⟩;have O:k<H.length:=by rw[hm.hlen];exact(GH.1 L).1
  rwa [Hu O]at q
 subst h2;have O:k=H.length:=by rw[hm.hlen];exact L
 subst O;simp at q;subst q;refine .inr ⟨he g0,fun _ b U=>?_⟩;obtain⟨q1,q2⟩:=I b U;refine⟨fun u=>absurd (hm.kS _ u) AB,q2,.inl (FC hm.fr.size q1),fun k' Y Z hne hk' hl j J=>?_⟩;rcases Vz hk' with u|⟨u,_⟩
 ·have hk2:k'<H.length:=by rw[hm.hlen];exact(GH.1 u).1
  rw[Hu hk2]at j;exact absurd (hm.blk k' Y Z _ u hl j J).2.1 AB
 rw[←hm.hlen]at u;exact hne u
section
variable {P:Ce} {o:Oper} {es es':A8 Bd}
def CQ.thaw {ns:A8 (CM×Af)} {k e s:Nat} {xs:A8 D} (h:CQ P o ns es (.aO k) es') (J:es'[k]? =some (.arr e s xs)):CQ P o ns es (.d (.sl xs)) (es'.set k .dead):=by
 intro C ok H a w Q hm L;refine Oper.wp_mono ?_ (h C ok H a w Q hm L);rintro a' w' ⟨v,ok',H',rfl,M,q,j,O⟩
 have u:Holds (Ey.now w' ok' es' H') ok' H' ⟨[.aO k],es',H'.length⟩ { tmps:= #[v],defers:=[] } w':=⟨j.inner,rfl,.nil _ _ _,rfl,fun t ht=>by
  match t,ht with
  |0,_=>exact O⟩
 obtain⟨z,I⟩:=Jf k J _ _ _ _ _ u;obtain⟨U,_,Y⟩:=j.outer I.mem;refine⟨v,z,H',rfl,M.trans U,q,Y,?_⟩;have :=I.slot 0 (by simp[BO.thaw]);simpa[BO.thaw,Af.thaw]using this
def ES.aGf {ok:Nat->Prop} {w:BU} {xs:A8 D} {ad:AL Addr} {n cap j:Nat} (h:ES ok w (.sl xs) (.slice ad n cap)) (I:xs.length<=j):ES ok w (.sl xs) (.slice ad n j):=by
 cases h with
 |sl0 _ _=>exact .sl0 _ _
 |sl _ b off _ size z u hs J L q=>exact .sl xs b off j size I u hs J L q
def aYE {t e:CG} {agg:AZ} {size n cap m:Nat} {ad:AL Addr} {w:BU} (ht:P.underlying t=some (.slice e)) (q:Em P e agg size) (j:m<=cap):
 (Instr.slice t (.slice ad n cap) none (some (.int .i64 m)) (some (.int .i64 m))).run P w=.ok (.slice (if m=0 then ad else ad.map (·.add 0)) m m) w:=by
 have u:(underlying t).run P w=.ok (.slice e) w:=Ox
 have z:((m:Int)<=(cap:Int)):=Int.ofNat_le.2 j;simp[Instr.slice,u,Instr.sliceBounds,Instr.sliceBound,asIntOf,z,j,q.size]
def aIr {α:Type} {t e:CG} {agg:AZ} {size:Nat} {x y z:CM} {h:Int} (enc:α->D) {xs r:A8 α} (hr:IB xs 0 h=some r) (ht:P.underlying t=some (.slice e)) (hT:Em P e agg size) (hc:∀a,(enc a).cells.length=size)
 (ho:o.op=.slice t x none (some y) (some z)):CQ P o [(x,.d (Bo enc xs)),(y,.d (Ae h)),(z,.d (Ae h))] es (.clip (r.map enc)) es:=
 .pure fun ok H a w _ _ O=>by
  obtain⟨⟨_,h1,h2⟩,rfl⟩:=aQS hr;have U:=O (x,.d (Bo enc xs)) Bh;have M:=(O (y,.d (Ae h)) Bh).lit;have hz:=(O (z,.d (Ae h)) Bh).lit;simp only at U M hz;generalize hv:a.eval x=v at U;have I:ES ok w (.sl (xs.map enc)) v:=by cases U with |d _ _ h=>exact h
  have J:∃ad cap,v=.slice ad (xs.map enc).length cap/\(xs.map enc).length<=cap:=by
   generalize hys:xs.map enc=ys at I;cases I with
   |sl0 ad cap=>exact⟨ad,cap,rfl,Ea _⟩
   |sl _ b off cap size j=>exact⟨_,cap,rfl,j⟩
  obtain⟨ad,cap,rfl,j⟩:=J
  have hlen:(List.map enc ((xs.drop 0).take (h.toNat-0))).length=h.toNat:=by
   rw[Dc,GK,lg];omega
  have u:=aYE (P:=P) (n:=xs.length) (ad:=ad) (w:=w) ht hT (m:=h.toNat) (cap:=cap) (by rw[Dc]at j;omega);have Y:((h.toNat:Nat):Int)=h:=AB
  rw[Y]at u;refine⟨.slice (if h.toNat=0 then ad else ad.map (·.add 0)) h.toNat h.toNat,?_,?_⟩
  ·rw[Dc]at hv;simp only[execOp,ho,aFP,JQ,hv,M,hz,Instr.sliceAt];have hu:(underlying t).run P w=.ok (.slice e) w:=Ox
   simp only[G6,yx,Gy,hu,u,GY]
  have hD:ES ok w (.sl (List.map enc ((xs.drop 0).take (h.toNat-0)))) (.slice (if h.toNat=0 then ad else ad.map (·.add 0)) (List.map enc ((xs.drop 0).take (h.toNat-0))).length (List.map enc ((xs.drop 0).take (h.toNat-0))).length):=by
   by_cases L:h.toNat=0
   ·have e0:List.map enc ((xs.drop 0).take (h.toNat-0))=[]:=Hg (by rw[hlen,L]);rw[e0];exact .sl0 _ _
   have q:=aRD (l:=0) (h:=h.toNat) I (size:=size) (fun y M=>by obtain⟨b,_,rfl⟩:=Fh.1 M;exact hc b) (Ea _) EW;have Z:cap≠0:=by rw[Dc]at j;omega
   rw[Dp Z]at q;rw[Dp L,hlen];rw[←iC,←aK]at q;simp only[Nat.zero_mul,Nat.sub_zero]at q ⊢;exact q.aGf (by rw[Dc,GK,lg];omega)
  have :=R.clip (H:=H) _ _ hD;rw[hlen]at this;exact this
def aX9 {t e e':CG} {agg:AZ} {size k s:Nat} {x y z:CM} {xs:A8 D} {h:Int} (Z:h=(xs.length:Int)) (hk:es[k]? =some (.arr e' s xs)) (ht:P.underlying t=some (.slice e)) (hT:Em P e agg size)
 (ho:o.op=.slice t x none (some y) (some z)):CQ P o [(x,.aO k),(y,.d (Ae h)),(z,.d (Ae h))] es (.xP k) es:=
 .pure fun ok H a w u hl L=>by
  obtain⟨hd,I,M⟩:=Hl u hl hk;have O:=QU (L (x,.aO k) Bh) I;have U:=(L (y,.d (Ae h)) Bh).lit;have Y:=(L (z,.d (Ae h)) Bh).lit;simp only at O U Y;obtain⟨_,_,Dl,⟨_,j⟩,_⟩:=M;obtain⟨v,CS⟩:=hd;simp only at j O;subst Z
  have key:∃ad cap,v=.slice ad xs.length cap/\xs.length<=cap/\ad.map (·.add 0)=ad:=by
   rcases j with⟨rfl,J⟩|⟨g,cap,_,rfl,_,_,J,_⟩
   ·exact⟨none,0,by rw[J],AB,rfl⟩
   exact⟨_,cap,rfl,J,by simp[Addr.add]⟩
  obtain⟨ad,cap,rfl,J,h2⟩:=key;have q:=aYE (P:=P) (n:=xs.length) (ad:=ad) (w:=w) ht hT (m:=xs.length) (cap:=cap) J;have hi:(if xs.length=0 then ad else ad.map (·.add 0))=ad:=by split<;>simp[h2]
  rw[hi]at q;refine⟨.slice ad xs.length xs.length,?_,.xP k ad _ cap CS I⟩;simp only[execOp,ho,aFP,JQ,O,U,Y,Instr.sliceAt];have hu:(underlying t).run P w=.ok (.slice e) w:=Ox
  simp only[G6,yx,Gy,hu,q,GY]
def ajS {C:Ey} {ok:Nat->Prop} {H:A8 CP} {w:BU} (hm:E5 C ok H es w) {t ty e:CG} {size q k:Nat} {xs ys:A8 D} (hE:Hf P t e size q) (hk:es[k]? =some (.arr e size xs))
 {v x:Au} (hv:R ok w H (.xP k) v) {u:A8 Au} (L:Yy w x ys.length size u) (I:Fj ok w H (flat ys) u) (hys:∀y∈ys,y.cells.length=size) (hb:(xs.length+ys.length)*q<=140737488355328) (hn:xs.length+ys.length<=maxLen):
 ∃v' w' H',(Builtin.append_ #[t,t] ty #[v,x]).run P w=.ok v' w'/\Et ok w ok w'/\Names H H'/\E5 C ok H' (es.set k .dead++[.arr e size (xs++ys)]) w'/\R ok w' H' (.aO es.length) v':=by
 obtain⟨h,hh,hok⟩:=Hl hm.ent hm.hlen hk;obtain⟨h1,h2,Dl,j,hrs⟩:=hok
 have key:oq w e size v xs.length Dl/\EK v=EK h.v:=by
  cases hv with
  |xP _ ad n cap s M=>
   rw[hh]at M;obtain rfl:=Dq M;rcases j.2 with⟨O,q2⟩|⟨g,cap',cur,O,q2,q3,q4,q5,q6,q7⟩
   ·simp only[jl]at O;obtain⟨rfl,rfl,rfl⟩:=O;exact⟨⟨j.1,.inl ⟨rfl,q2⟩⟩,rfl⟩
   simp only[jl]at O;obtain⟨rfl,rfl,rfl⟩:=O;exact⟨⟨j.1,.inr ⟨g,xs.length,cur,rfl,q2,q3,EZ _,FC q4 q5,FC (MB _ q4) q6,q7⟩⟩,rfl⟩
 obtain⟨z,U⟩:=key;obtain⟨v',w',hr,J,Y,Z⟩:=aTr (P:=P) (ty:=ty) hE z L hb hn
 obtain⟨h3,h4⟩:=hm.turn (h':=⟨v',size⟩) (e:=.arr e size (xs++ys)) hk rfl hh Y.os Y.tape Y.output Y.size (fun c hc hne=>Y.block c hc (by rw[aMy z,U];exact fun e=>hne e.symm)) (fun g hg'=>⟨aDV J hg',(Z g hg').imp (fun h=>U▸h) id⟩) (fun hgr=>by
  refine⟨rfl,fun y hy=>?_,Dl++u,SS,?_⟩
  ·rcases Iy.1 hy with h|h
   ·exact h2 y h
   exact hys y h
  have a1:=hrs.mono hgr (Ho H [⟨v',size⟩]);have a2:=I.mono hgr (Ho H [⟨v',size⟩]);rw[a1h]
  exact aMl a1 a2)
 refine⟨v',w',_,hr,h4,Ho _ _,h3,?_⟩;have M:(H++[(⟨v',size⟩:CP)])[es.length]? =some ⟨v',size⟩:=PD
 rcases J.2 with⟨rfl,_⟩|⟨g',c',_,rfl,_⟩
 ·exact .aO _ _ _ _ size M
 exact .aO _ _ _ _ size M
def aSv {α:Type} {s x:CM} {t e:CG} {size j k:Nat} (enc:α->D) {l m r:A8 α} (h:DU j l m=some r) (hE:Hf P t e size j) (Z:es[k]? =some (.arr e size (l.map enc))) (hc:∀a,(enc a).cells.length=size) (hb:0<j)
 (ho:o.op=.call { callee:=.builtin .append,args:= #[s,x],argTypes:= #[t,t] }):
 CQ P o [(s,.xP k),(x,.d (Bo enc m))] es (.aO es.length) (es.set k .dead++[.arr e size (r.map enc)]):=by
 obtain⟨rfl,L⟩:=tX h;refine .eff fun C ok H a w hm q=>?_;have M:=(FI q).1;have O:=(FI q).2;simp only at M O;have I:ES ok w (.sl (m.map enc)) (a.eval x):=by cases O with |d _ _ h=>exact h
 have u:∀y∈m.map enc,y.cells.length=size:=fun y hy=>aIG
 obtain⟨U,z,J⟩:=bn H I u;obtain⟨v',w',H',hr,r1,r2,Y,r4⟩:=ajS (ty:=o.type) hm hE Z M z J u YM (by simpa using aBT hb L);rw[←LP]at Y;refine⟨v',w',ok,H',.inl ?_,r1,r2,Y,r4⟩;simp[execOp,ho,resolve,invoke,builtin,hr]
def aSg {ok:Nat->Prop} {w:BU} {H:A8 CP} {t ty e:CG} {size q:Nat} (hE:Hf P t e size q) {xs ys:A8 D} {v x:Au} (hv:R ok w H (.clip xs) v) (hxs:∀y∈xs,y.cells.length=size) {u:A8 Au} (I:Yy w x ys.length size u) (hpos:0<ys.length)
 (hb:(xs.length+ys.length)*q<=140737488355328) (hn:xs.length+ys.length<=maxLen):
 ∃j v' w',Fj ok w H (flat xs) j/\(Builtin.append_ #[t,t] ty #[v,x]).run P w=.ok v' w'/\w'.ownsRow w.heap.size e size v' (xs.length+ys.length) (j++u)/\w.grownBy w' none:=by
 obtain⟨i,z,hi,hz,hs,L,M⟩:=hE.info;cases hv with
 |clip _ ad hD=>
  obtain⟨j,ho,O⟩:=bn H hD hxs;rcases I.at_ with⟨U,c,rfl,J⟩|⟨c,rfl,h0⟩
  ·rcases ho.at_ with⟨ad2,c2,Y,Z⟩|⟨c2,Y,Z⟩
   ·simp only[jl]at Y;obtain⟨rfl,_,rfl⟩:=Y;obtain⟨v',w',r1,r2,r3⟩:=run_append_arg_grows (P:=P) w t ty e i z size q hE.und hi hz hs L M hE.pos ad2 xs.length xs.length j ho.len Z U ys.length c u I.len J AB hn hb;exact⟨j,v',w',O,r1,r2,r3⟩
   simp only[jl]at Y;obtain⟨rfl,_,_⟩:=Y;have hx:j=[]:=Hg (by rw[ho.len,Z];simp);subst hx;rw[Z]at hn hb ⊢;obtain⟨v',w',r1,r2,r3,_⟩:=run_append_own (P:=P) w w.heap.size t ty e i z size q hE.und hi hz hs L M hE.pos _ 0 [] (aEE w w.heap.size e size) U ys.length c u I.len J I.one hn hb (EZ _);exact⟨[],v',w',O,r1,r2,r3⟩
  omega
def aR3 {ok:Nat->Prop} {w':BU} {H:A8 CP} {base e size:Nat} {v':Au} {xs ys:A8 D} {j q:A8 Au} (h:w'.ownsRow base e size v' (xs.length+ys.length) (j++q)) (I:Fj ok w' H (flat xs) j) (J:Fj ok w' H (flat ys) q) (u:∀y∈xs,y.cells.length=size) (z:∀y∈ys,y.cells.length=size):
 FY ok w' H ⟨v',size⟩ (.arr e size (xs++ys)):=by
 refine⟨rfl,fun y L=>?_,j++q,?_,?_⟩
 ·rcases Iy.1 L with h|h
  ·exact u y h
  exact z y h
 ·have :=oq.of h;simpa using this
 rw[a1h];exact aMl I J
def aPQ {w':BU} {base e size n:Nat} {v':Au} {Dl:A8 Au} (h:w'.ownsRow base e size v' n Dl):∀g,EK v'=some g->base<=g/\g<w'.heap.size:=by
 intro g j;rcases h.2 with⟨rfl,_⟩|⟨z,_,_,rfl,q,u,_⟩
 ·simp[EK]at j
 simp[EK]at j;subst j;exact⟨q,(H6.1 u).1⟩
def aQv {α:Type} {s x:CM} {t e:CG} {size j:Nat} (enc:α->D) {l m r:A8 α} (h:DU j l m=some r) (hE:Hf P t e size j) (hc:∀a,(enc a).cells.length=size) (J:0<j)
 (L:o.op=.call { callee:=.builtin .append,args:= #[s,x],argTypes:= #[t,t] }):
 CQ P o [(s,.clip (l.map enc)),(x,.d (Bo enc m))] es (.d (Bo enc r)) es:=by
 obtain⟨rfl,h2⟩:=tX h;refine .eff fun C ok H a w hm M=>?_;have h1:=(FI M).1;have h3:=(FI M).2;simp only at h1 h3;have h3':ES ok w (.sl (m.map enc)) (a.eval x):=by cases h3 with |d _ _ h=>exact h
 have O:∀y∈l.map enc,y.cells.length=size:=fun y hy=>aIG
 have U:∀y∈m.map enc,y.cells.length=size:=fun y hy=>aIG
 obtain⟨Y,q,hrs⟩:=bn H h3' U;by_cases Z:m=[]
 ·subst Z;obtain⟨i,z,hi,hz,hs,hby,hzs⟩:=hE.info;have I:Y=[]:=Hg (by rw[q.len];simp);subst I;generalize hv:a.eval s=v at h1;generalize hu:a.eval x=u at q;cases h1 with
  |clip _ ad hD=>
   refine⟨_,w,ok,H,.inl ?_,.refl _ _,.refl _,hm,.d _ _ (by rw[PK];exact hD)⟩;have hL:∀w:BU,((underlying t).run P w=.ok (.slice e) w):=fun w=>aIK
   rcases q.at_ with⟨ad',c,rfl,_⟩|⟨c,rfl,_⟩
   ·cases ad with
    |none=>simp[execOp,L,resolve,invoke,builtin,hv,hu,Builtin.append_,hL,sizeOf,typeInfo,hi,Builtin.lenOf,Builtin.firstCells,loadCells,loadCellsFrom]
    |some ad=>simp[execOp,L,resolve,invoke,builtin,hv,hu,Builtin.append_,hL,sizeOf,typeInfo,hi,Builtin.lenOf,Builtin.firstCells,loadCells,loadCellsFrom,storeCells]
   cases ad with
   |none=>simp[execOp,L,resolve,invoke,builtin,hv,hu,Builtin.append_,hL,sizeOf,typeInfo,hi,Builtin.lenOf,Builtin.firstCells]
   |some ad=>simp[execOp,L,resolve,invoke,builtin,hv,hu,Builtin.append_,hL,sizeOf,typeInfo,hi,Builtin.lenOf,Builtin.firstCells,storeCells]
 obtain⟨olds,v',w',r0,r1,r2,r3⟩:=aSg (P:=P) (ty:=o.type) hE h1 O q (by simpa using Za.2 Z) qJ (by simpa using aBT J h2);have hblk:=aPQ r2;obtain⟨m1,g1⟩:=hm.change (ok':=fun b=>ok b\/EK v'=some b) (H':=H) (es':=es) (w':=w') (fun _=>False) r3.os r3.tape r3.output r3.size (fun b J _=>r3.block b J Bh) (fun _ h=>h.elim) (fun _ h=>.inl h) (fun b h=>h.imp id fun h=>hblk b h) (.refl _) hm.hlen (fun k e h he hh=>.inl ⟨he,hh,fun _ _ _ h=>h⟩);have g0:Et ok w ok w':=fun b J=>⟨J,(g1 b J).2⟩
 have hE':=aR3 r2 (r0.mono g0 (.refl _)) (hrs.mono g0 (.refl _)) O U;refine⟨v',w',_,H,.inl (by simp[execOp,L,resolve,invoke,builtin,r1]),g1,.refl _,m1,.d _ _ ?_⟩;have :=dN hE' (ok':=fun b=>ok b\/EK v'=some b) (fun _ h=>.inl h) (fun _ h=>.inr h)
 rwa [←LP]at this
def aic {α:Type} {s x:CM} {t e:CG} {size j:Nat} (enc:α->D) {l m r:A8 α} (h:DU j l m=some r) (J:m≠[]) (hE:Hf P t e size j) (Y:∀a,(enc a).cells.length=size) (hb:0<j)
 (ho:o.op=.call { callee:=.builtin .append,args:= #[s,x],argTypes:= #[t,t] }):
 CQ P o [(s,.clip (l.map enc)),(x,.d (Bo enc m))] es (.aO es.length) (es++[.arr e size (r.map enc)]):=by
 obtain⟨rfl,Z⟩:=tX h;refine .eff fun C ok H a w hm q=>?_;have h1:=(FI q).1;have h3:=(FI q).2;simp only at h1 h3;have L:ES ok w (.sl (m.map enc)) (a.eval x):=by cases h3 with |d _ _ h=>exact h
 have u:∀y∈l.map enc,y.cells.length=size:=fun y M=>by obtain⟨a,_,rfl⟩:=Fh.1 M;exact Y a
 have z:∀y∈m.map enc,y.cells.length=size:=fun y M=>by obtain⟨a,_,rfl⟩:=Fh.1 M;exact Y a
 obtain⟨news,I,O⟩:=bn H L z;obtain⟨olds,v',w',r0,r1,U,r3⟩:=aSg (P:=P) (ty:=o.type) hE h1 u I (by simpa using Za.2 J) (by simpa using Z) (by simpa using aBT hb Z)
 obtain⟨m1,g1⟩:=hm.aDc (v':=v') (size:=size) (e:=.arr e size ((l++m).map enc)) r3 (aPQ U) (fun g0=>by
  have :=aR3 U (r0.mono g0 (Ho H [⟨v',size⟩])) (O.mono g0 (Ho H [⟨v',size⟩])) u z
  rwa [←LP]at this)
 refine⟨v',w',ok,_,.inl (by simp[execOp,ho,resolve,invoke,builtin,r1]),g1,Ho _ _,m1,?_⟩;have hH:(H++[(⟨v',size⟩:CP)])[es.length]? =some ⟨v',size⟩:=PD
 rcases U.2 with⟨rfl,_⟩|⟨g',c',_,rfl,_⟩
 ·exact .aO _ _ _ _ size hH
 exact .aO _ _ _ _ size hH
end
def D.plain:D->AZ
 | .lit _=>true
 | .agg cs=>cs.all fun c=>match c with | .lit _=>true|_=>false
 |_=>false
def aaZ {ok ok':Nat->Prop} {w w':BU} {H H':A8 CP} {xs:A8 D} {vs:A8 Au} (hp:∀x∈xs,x.plain=true) (h:Fj ok w H (flat xs) vs):Fj ok' w' H' (flat xs) vs:=by
 refine⟨h.1,fun i hi=>⟨(h.2 i hi).1,?_⟩⟩;have I:=(h.2 i hi).2;have hm:(flat xs).getD i .junk∈flat xs:=Nh
 generalize(flat xs).getD i .junk=y at I hm;unfold flat at hm;simp only[Vy,Fh]at hm;obtain⟨x,J,c,z,rfl⟩:=hm;have j:=hp x J
 have q:∃u,c=.lit u:=by
  cases x with
  |lit u=>simp[D.cells]at z;exact⟨u,z⟩
  |agg cs=>
   simp only[D.cells]at z;simp only[D.plain,El]at j;have :=j c z;cases c with
   |lit u=>exact⟨u,rfl⟩
   |_=>simp at this
  |_=>cases j
 obtain⟨u,rfl⟩:=q;rw[I.lit];exact .d _ _ (.lit u)
def aSh {P:Ce} {o:Oper} {es:A8 Bd} {f:FuncId} {ops:C9 CM} {eH fH:A8 Af} {e s:Nat} {xs:A8 D} (hr:Ed P f fH [] (.aO 0) [.arr e s xs]) (hp:∀x∈xs,x.plain=true) (ha:bM es eH fH) (hl:ops.toList.length=eH.length)
 {C:Ey} {ok:Nat->Prop} {H:A8 CP} {a:Act} {w:BU} (hm:E5 C ok H es w) (hn:∀n∈G7 ops.toList eH,R ok w H n.2 (a.eval n.1)):
 Calls P f (ops.toList.map a.eval).toArray w fun e' w'=>∃v,e'=.returned v/\w.grownBy w' none/\(∀g,EK v=some g->w.heap.size<=g/\g<w'.heap.size)/\Value.isSlice v=true/\∀M H2,FY M w' H2 ⟨v,s⟩ (.arr e s xs):=by
 let I:Nat->Prop:=fun b=>b<w.heap.size
 have Z:E5 ⟨w,I,[],[]⟩ I [] [] w:=
  ⟨.refl _ _,fun _ h=>h,fun _ h=>.inl h,fun _ h=>h,.refl _,rfl,fun k e h O _=>by simp at O,fun k e h b O=>by simp at O,fun k k' e e' h h' b O=>by simp at O⟩
 refine(hr I [] [] w _ Z (by simp[hl,aMU ha]) (fun i hi=>?_)).mono ?_
 ·obtain⟨op,x,ho',U,q⟩:=aXy hl ha i hi;have L:=hn _ U
  have e1:(ops.toList.map a.eval).toArray.getD i undef=a.eval op:=by
   obtain⟨h1,h2⟩:=GH.1 ho';have h3:i<ops.size:=by simpa using h1
   have h4:ops[i]=op:=qJ
   simp[Array.getD,h3,h4]
  rw[e1];simp only at L;generalize fH.getD i .junk=y at q;generalize a.eval op=u at L;cases x with
  |d x=>
   obtain rfl:=q;cases L with |d _ _ h=>exact .d _ _ (h.mono (fun b z=>⟨hm.kS b z,rfl⟩))
  |aO k=>
   obtain⟨e',s,xs,hk,rfl⟩:=q;obtain⟨h,hh,J⟩:=Hl hm.ent hm.hlen hk;obtain rfl:=QU L hh;exact .d _ _ (dN J (fun b z=>hm.kS b z) (fun b z=>(hm.blk k _ h b hk rfl hh z).2.1))
  |_=>exact q.elim
 rintro e' w' ⟨v,ok',H',rfl,j,L⟩;have hg:w.grownBy w' none:=⟨j.fr.os,j.fr.tape,j.fr.output,j.fr.size,fun b z _=>j.fr.block b z Bh⟩
 have hl':H'.length=1:=j.hlen
 match H',hl' with
 | [hd],_=>
   obtain rfl:=QU L (h:=hd) rfl;have J:=j.ent 0 _ hd rfl rfl;have z:=fun b z=>j.blk 0 _ hd b rfl rfl rfl z;obtain⟨q1,q2,Dl,q3,q4⟩:=J;obtain⟨v,CS⟩:=hd;simp only at q1 z q3;subst q1;refine⟨v,rfl,hg,fun g hg'=>?_,?_,fun M H2=>⟨rfl,q2,Dl,q3,aaZ hp q4⟩⟩
   ·obtain⟨_,r2,Y⟩:=z g hg';rcases Y with Y|Y
    ·exact⟨Y,r2⟩
    simp at Y
   rcases q3.2 with⟨rfl,_⟩|⟨g',c',_,rfl,_⟩<;>rfl
def J9 {P:Ce} {o:Oper} {es:A8 Bd} {f:FuncId} {ops:C9 CM} {ats:C9 CG} {eH fH:A8 Af} {e s:Nat} {xs:A8 D} (q:Ed P f fH [] (.aO 0) [.arr e s xs]) (hp:∀x∈xs,x.plain=true) (u:Hd P f=true) (ha:bM es eH fH) (hl:ops.toList.length=eH.length)
 (z:o.op=.call { callee:=.value (.func f),args:=ops,argTypes:=ats }):CQ P o (G7 ops.toList eH) es (.aO es.length) (es++[.arr e s xs]):=by
 intro C ok H a w Q hm I;unfold Oper.wp;rw[um z,U9 u,dU];have J:ops.map a.eval=(ops.toList.map a.eval).toArray:=aDP
 rw[J];refine(aSh (o:=o) q hp ha hl hm I).mono ?_;rintro e' w' ⟨v,rfl,L,M,j,hE⟩;obtain⟨O,U⟩:=hm.aDc (v':=v) (size:=s) (e:=.arr e s xs) L M (fun _=>hE _ _);refine⟨v,ok,_,rfl,U,Ho _ _,O,?_⟩;have Y:(H++[(⟨v,s⟩:CP)])[es.length]? =some ⟨v,s⟩:=PD
 cases v with
 |slice ad n c=>exact .aO _ _ _ _ s Y
 |_=>cases j
def a0D {P:Ce} {o:Oper} {es:A8 Bd} {f:FuncId} {ops:C9 CM} {ats:C9 CG} {eH fH:A8 Af} {e s:Nat} {xs:A8 D} (u:Ed P f fH [] (.aO 0) [.arr e s xs]) (hp:∀x∈xs,x.plain=true) (z:Hd P f=true) (ha:bM es eH fH) (hl:ops.toList.length=eH.length)
 (I:o.op=.call { callee:=.value (.func f),args:=ops,argTypes:=ats }):CQ P o (G7 ops.toList eH) es (.d (.sl xs)) es:=by
 intro C ok H a w Q hm J;unfold Oper.wp;rw[um I,U9 z,dU];have L:ops.map a.eval=(ops.toList.map a.eval).toArray:=aDP
 rw[L];refine(aSh (o:=o) u hp ha hl hm J).mono ?_;rintro e' w' ⟨v,rfl,j,M,O,hE⟩;obtain⟨U,Y⟩:=hm.change (ok':=fun b=>ok b\/EK v=some b) (H':=H) (es':=es) (w':=w') (fun _=>False) j.os j.tape j.output j.size (fun b q _=>j.block b q Bh) (fun _ h=>h.elim) (fun _ h=>.inl h) (fun b h=>h.imp id fun h=>M b h) (.refl _) hm.hlen (fun k e h Z hh=>.inl ⟨Z,hh,fun _ _ _ h=>h⟩);exact⟨v,_,H,rfl,Y,.refl _,U,.d _ _ (dN (hE ok H) (fun _ h=>.inl h) (fun _ h=>.inr h))⟩
def aye {F:Fence} {n:Nat} {P:Ce} {Q:Exit->Act->BU->Prop} {a:Act} {w:BU} {c:Code} (h:c.wpIn F n P (Exit.noGoto Q) a w):(Code.scope c).wpIn F n P Q a w:=by
 intro b k cs J L M;have j:(lone (b.atR a (.code (.scope c)::k)) cs w).fenced P F:=fenced_calm L M rfl;have q:step P (lone (b.atR a (.code (.scope c)::k)) cs w)=.next (lone (b.atR a (.code c::.inScope c::k)) cs w):=step_lone_go aR2;obtain⟨e,z,I,u,harr⟩:=h b (.inScope c::k) cs J L M;cases e with
 |normal=>exact⟨.normal,z,I,u,.head j q (StepsIn.trans harr (.one (fenced_calm L M rfl) (step_lone_go aR2)))⟩
 |exit id=>
  have Y:exitTo id (.inScope c::k)=exitTo id k:=by simp[exitTo]
  exact⟨.exit id,z,I,u,fun k' O=>.head j q (harr.1 k' (by rw[Y];exact O)),fun U O=>let⟨Z,h1,h2⟩:=harr.2 U (by rw[Y];exact O);⟨Z,h1,.head j q h2⟩⟩
 |goto l=>exact u.elim
 |ret=>exact⟨_,z,I,u,.of_steps (.one j q) harr⟩
 |panic ch=>exact⟨_,z,I,u,.of_steps (.one j q) harr⟩
 |outgrown=>exact⟨_,z,I,u,.of_steps (.one j q) harr⟩
def ahj (Q:Exit->BO->Prop):Exit->BO->Prop
 | .goto _,_=>False
 |e,σ=>Q e σ
def Bv.scope {P:Ce} {σ:BO} {Q:Exit->BO->Prop} {c:Code} (h:Bv P c σ (ahj Q)):Bv P (.scope c) σ Q:=⟨fun ro q C ok H a w u=>
 aye (Ua (h.run ro (q.imp id fun h=>h) C ok H a w u) (by
  rintro e a' w' ⟨ok',H',σ',z,j⟩;cases e with
  |goto l=>exact j.elim
  |_=>exact⟨ok',H',σ',z,j⟩))⟩
def aWy (P:Ce) (f:FuncId) (args:A8 Af) (u:Au):Prop:=
 ∀(ok:Nat->Prop) (X:A8 Nat) (H:A8 CP) (w:BU) (j:C9 Au),E5 ⟨w,ok,X,H⟩ ok H [] w->j.size=args.length->(∀i,i<args.length->R ok w H (args.getD i .junk) (j.getD i undef))->
  Calls P f j w fun e w'=>∃ok' H',e=.panicked [{ v:=u,recovered:=false }]/\E5 ⟨w,ok,X,H⟩ ok' H' [] w'
def QW {Rr:Type} (P:Ce) (f:FuncId) (args:A8 Af) (r:Except Au Rr) (j:Rr->Af):Prop:=(∀x,r=.ok x->Ed P f args [] (j x) [])/\∀u,r=.error u->aWy P f args u
def anW {Rr:Type} (P:Ce) (fn:Func) (r:Except Au Rr) (j:Rr->Af) (e:Exit) (σ:BO):Prop:=
 (∃x,r=.ok x/\aVL P fn (j x) [] e σ)\/∃u,r=.error u/\e=uq u/\σ.base=0
def aV3 {P:Ce} {fn:Func} {Rr:Ending->BU->Prop} {C:Ey} {ch:A8 PanicEntry} (u:∀b,C.ok0 b->b<C.w0.heap.size) {H:A8 CP} {σ:BO}
 (z:∀ok a w,Holds C ok H σ a w->Rr (.panicked ch) w) {tmps:C9 Au}:∀(Ds:A8 Nat) {ok:Nat->Prop} {a:Act} {w:BU},Holds C ok H σ a w->(∀d∈Ds,ok d/\C.w0.heap.size<=d/\w.heap[d]? =some (.deferred (some [])))->Ds.Nodup->
  LeavesInM (JO none) 0 P fn tmps Rr (Ds.map fun D=>{ target:=.collected D,args:= #[] }) (.panicking ch) w
 | [],ok,a,w,h,_,_=>z ok a w h
 |D::Ds,ok,a,w,h,hd,I=>by
  obtain⟨ok',h',j⟩:=h.take u (fun d q=>hd d (IG _ q)) (hd D (H8 ..)) I;have J:=aV3 (P:=P) (fn:=fn) (tmps:=tmps) u z Ds h' j (NY.1 I).2;exact⟨Bh,.inl ⟨D,_,rfl,run_takeDeferred (hd D (H8 ..)).2.2,J⟩⟩
def E5.none {C:Ey} {ok:Nat->Prop} {H:A8 CP} {es:A8 Bd} {w:BU} (hm:E5 C ok H es w) (q:C.H0=[]):E5 C ok [] [] w:=
 ⟨hm.fr,hm.yY,hm.yZ,hm.kS,by rw[q];exact .refl _,rfl,fun k e h j=>qI,fun k e h b j=>qI,fun k k' e e' h h' b j=>qI⟩
def QW.aI {Rr:Type} {P:Ce} {f:FuncId} {fn:Func} {c:Code} {args:A8 Af} {r:Except Au Rr} {z:Rr->Af} (Z:P.funcs[f]? =some fn) (hb:fn.body=some c)
 (h:Bv P c (.enter args fn.ntmps []) (anW P fn r z)):QW P f args r z:=by
 refine⟨fun x hx=>BG Z hb (h.mono fun e σ hq=>?_),fun u hu=>?_⟩
 ·rcases hq with⟨x',q,J⟩|⟨u,q,_⟩
  ·rw[hx]at q;cases q;exact J
  rw[hx]at q;cases q
 intro ok X H w j hm hs ha;have hH:H=[]:=Hg hm.hlen;refine(aEI (ro:=none) (n:=0)).1 (aLx Z hb trivial (Ua (h.run none (.inl rfl) ⟨w,ok,X,H⟩ ok H _ w ?_) ?_) rfl)
 ·refine⟨hm,by simp[BO.enter,hs],.nil _ _ _,hm.hlen,fun t ht=>?_⟩;simp only[BO.enter];by_cases e:t<args.length
  ·have L:(args++List.replicate (fn.ntmps-args.length) Af.junk).getD t .junk=args.getD t .junk:=aMG
   have e2:(j++Array.replicate (fn.ntmps-j.size) undef).getD t undef=j.getD t undef:=by
    simp[J8,YU (show t<j.size by omega)]
   rw[L,e2];exact ha t e
  have L:(args++List.replicate (fn.ntmps-args.length) Af.junk).getD t .junk=.junk:=by
   simp only[List.getD,Kt (VU e),aI0];split<;>rfl
  rw[L];exact .junk _
 rintro e a' w' ⟨ok',H',σ',q,J⟩;rcases J with⟨x,I,_⟩|⟨u',I,rfl,_⟩
 ·rw[hu]at I;cases I
 rw[hu]at I;cases I;obtain⟨Ds,M,O,U⟩:=q.defers;show LeavesInM (JO none) 0 P fn a'.tmps _ a'.defers (.panicking _) w';rw[M];exact aV3 (P:=P) (C:=⟨w,ok,X,H⟩) hm.kS (fun Y a2 w2 h4=>⟨Y,[],rfl,h4.mem.none hH⟩) Ds q U O
section
variable {P:Ce} {ops:C9 Oper} {o:Oper} {rest l:A8 Oper} {σ:BO} {K:Exit->BO->Prop}
def Dv.panic {x:CM} {t:CG} {u:Au} (q:o.op=.panic x) (z:σ.get x=.d (.lit (.iface t u))) (I:JD ops σ o.guard=some true) (h:K (uq (.iface t u)) σ):Dv P ops (o::rest) σ K:=by
 refine⟨fun ro J Q C ok H a w j L=>?_⟩;show wpListIn (JO ro) 0 P ops Q (o::(rest++J)) a w;unfold wpListIn;rw[Di (Qe j (NS I))];have M:=(z▸j.get x).lit;unfold Oper.wpIn;rw[mJ _ _ _ (by rw[q];intro c h;cases h)];have O:(execOp a.eval o).run P w=.halt (.panic (.iface t u)) w:=by simp[execOp,q,M,Instr.panic,goPanic]
 rw[O];exact⟨fun _ _=>trivial,L.2 _ _ _ _ _ _ h j⟩
end
section
variable {P:Ce} {ops:C9 Oper}
def Bv.aGg {id:Nat} {σ σ':BO} {Q:Exit->BO->Prop} {rs:A8 Af} {ess:A8 (A8 Bd)} {bs:A8 AZ} (N:Nat) (hNs:N+1=ops.size) (hm:P.follows .mixedOrders=true) (hcalm:(Xa ops&&XR ops&&Vq ops σ.slots.length&&Xe ops)=true) (hbl:bs.length=N) (L:Vf ops (bs++[true])=true)
 (h:FZ P ops (ops.toList.take N) σ rs ess bs σ') (hL:∀(ro:AL Nat) (C:Ey) (ok:Nat->Prop) (H:A8 CP) (a:Act) (w:BU),Holds C ok H σ' a w->wpOpIn (JO ro) 0 P ops (fun e a' w'=>∃ok' H' σ',Holds C ok' H' σ' a' w'/\Q e σ') N (fun a' w'=>∃ok' H' σ',Holds C ok' H' σ' a' w'/\Q .normal σ') a w):Bv P (.region id ops true) σ Q:=by
 refine⟨fun ro _ C ok H a w hh=>?_⟩;simp only[Du]at hcalm;obtain⟨⟨⟨he,hd⟩,hs⟩,hc⟩:=hcalm;have aft:=aSo he;have hinj:=aVm hd;have hcalm:=aVR hc
 have XW:∀(i:Nat) (o:Oper) (d:Tmp),ops[i]? =some o->o.dst=some d->d<σ.slots.length:=by
  intro i o d h1 h2;unfold Vq at hs;rw[El]at hs;simpa using hs d (aVJ h1 h2)
 let r:Nat->Af:=fun i=>rs.getD i .junk
 let ev:Nat->A8 Bd:=fun i=>ess.getD i []
 let bar:Nat->AZ:=fun i=>(bs++[true]).getD i false
 have hbN:bar N=true:=by simp[bar,List.getD,←hbl]
 obtain⟨YS,hend⟩:=h.azt N σ r ev bar 0 (fun k hk=>by
  simp only[GK]at hk
  rw[NC AB];simp) EW rfl (fun k y hy=>by simp[r,List.getD,hy]) (fun k y hy=>by simp[ev,List.getD,hy]) (fun k y hy=>by have :=(GH.1 hy).1;simp only[bar,List.getD,Kz,Hu this,hy];rfl)
 let U:Nat->BO:=GU ops σ r ev
 have hU:∀i,i<ops.size->(U (i+1)).ents=ev i:=by
  intro i hi;have M:ops[i]? =some ops[i]:=Tt
  show(GU ops σ r ev (i+1)).ents=_;simp only[GU,M];rfl
 have hconst:∀n lo,(∀b,lo<=b->b<lo+n->bar b=false)->lo+n<=N->(U (lo+n)).ents=(U lo).ents:=by
  intro n
  induction n with
  |zero=>intro lo _ _;rfl
  |succ n ih=>
   intro lo z hle;have h1:=ih lo (fun b h1 h2=>z b h1 AB) AB;have hi:lo+n<ops.size:=AB
   have M:ops[lo+n]? =some ops[lo+n]:=Tt
   have h2:=(YS (lo+n) _ AB AB M).2 (z (lo+n) AB AB);rw[←Rk,hU _ hi,h2];exact h1
 have Z:∀lo hi,lo<=hi->hi<=N->(∀b,lo<=b->b<hi->bar b=false)->(U hi).ents=(U lo).ents:=by
  intro lo hi h1 h2 h3;obtain⟨n,rfl⟩:=Nat.exists_eq_add_of_le h1;exact hconst n lo h3 h2
 refine wpIn_region_any hm ?_
 let I:C9 AZ->Act->BU->Prop:=fun l a w=>l.size=ops.size/\l.getD N false=false/\∃ok H m,m<=N/\(∀b,bar b=true->b<ops.size->(l.getD b false=true↔b<m))/\E5 C ok H (U m).ents w/\a.tmps.size=σ.slots.length/\Marks C ok w a.defers/\
  (∀t,t<σ.slots.length->(∀(j:Nat) (o:Oper),ops[j]? =some o->o.dst=some t->l.getD j false=false)->R ok w H (σ.slots.getD t .junk) (a.tmps.getD t undef))/\
  (∀(i:Nat) (o:Oper) (d:Tmp),ops[i]? =some o->o.dst=some d->l.getD i false=true->R ok w H (r i) (a.tmps.getD d undef))/\
  (∀(j:Nat) (o:Oper),ops[j]? =some o->l.getD j false=true->∀i,Ik o i=true->l.getD i false=true)
 let I2:C9 AZ->Act->BU->Prop:=fun l a w=>I l a w\/(l.size=ops.size/\(Region.ready .any ops l=[]/\∃ok' H' σ',Holds C ok' H' σ' a w/\Q .normal σ'))
 refine aMj I2 (fun l a w h=>h.elim (fun h=>h.1) (fun h=>h.1)) ?_ ?_ ops.size _ _ _ ?_ ?_
 ·rintro l a w (⟨h1,hlN,ok,H,m,acO,ad7,hmem0,hsz,hdf,h5,h6,h7⟩|⟨h1,h2,_⟩) i hi
  rotate_left
  ·rw[h2]at hi;simp at hi
  unfold Region.ready at hi;rw[Hy]at hi;obtain⟨hi1,hi2⟩:=hi;have hi':i<ops.size:=by simpa using hi1
  have M:ops[i]? =some ops[i]:=by simp[hi']
  simp only[Du]at hi2;have afu:=hi2.2;rw[M]at afu;simp only[JQ,Oq]at afu;have asM:=fun e he=>(UW.1 afu) e he
  have O:∀j,Ik ops[i] j=true->l.getD j false=true/\j<i:=by
   intro j u;unfold Ik at u;rw[Iu]at u;obtain⟨e,hee,u⟩:=u;simp only[Du,I8]at u;have :=asM e (by simpa using hee);simp only[u.2,FB,Nr]at this;rw[u.1]at this;exact⟨this,u.1▸aft i _ M e hee u.2⟩
  have Y:l.getD i false=false:=by
   have h8:=hi2.1;have hil:i<l.size:=AB
   simp[Array.getD,hil]at h8 ⊢;exact h8
  have J:∀(j:Nat) (o:Oper),ops[j]? =some o->l.getD j false=true->∀m,Ik o m=true->l.getD m false=true:=fun j o u hl m hm=>h7 j o u hl m hm
  have hmem:E5 C ok H (U i).ents w:=by
   have hE:(U i).ents=(U m).ents:=by
    by_cases him:i<=m
    ·refine(Z i m him acO (fun b h2 h3=>?_)).symm;rw[←Pm];intro z;have hbl:=(ad7 b z AB).2 h3;by_cases e:b=i
     ·subst e;rw[Y]at hbl;cases hbl
     have hob:ops[b]? =some (ops[b]' AB):=by simp[show b<ops.size by omega]
     have :=vg L (show b<ops.size by omega) z (D:=fun j=>l.getD j false=true) J (fun o M m hm=>J b o M hbl m hm) i AB;rw[Y]at this;cases this
    refine Z m i AB AB (fun b h2 h3=>?_);rw[←Pm];intro z;have :=aRm L (show b<ops.size by omega) z (D:=fun j=>l.getD j false=true) J i h3 _ M (fun m hm=>(O m hm).1);exact absurd ((ad7 b z AB).1 this) AB
   rw[hE];exact hmem0
  by_cases hiN:i=N
  ·subst hiN;have aDe:∀j,j<i->l.getD j false=true:=fun j u=>vg L hi' hbN (D:=fun j=>l.getD j false=true) J (fun o ho' m hm=>aW6) j u
   have hH:Holds C ok H σ' a w:=by
    subst hend;refine⟨hmem,by rw[Xw];exact hsz,hdf,by rw[pF];exact hh.base,fun t ht=>?_⟩;rw[Xw]at ht;by_cases hw:∃(j:Nat) (o:Oper),ops[j]? =some o/\o.dst=some t
    ·obtain⟨j,o,u,q⟩:=hw;have hjn:j<ops.size:=(H6.1 u).1;by_cases hji:j<i
     ·rw[Zg hinj u q ht i hji];exact h6 j o t u q (aDe j hji)
     have hje:j=i:=AB
     subst hje;rw[Xp j (fun j' o' hj' ho' hd'=>aJJ)];exact h5 t ht (fun j' o' ho' hd'=>by have :=hinj j j' o o' t u ho' q hd';subst this;exact hlN)
    have hw':∀(j:Nat) (o:Oper),ops[j]? =some o->o.dst≠some t:=fun j o h1 h2=>hw ⟨j,o,h1,h2⟩;rw[Xp i (fun j o _ u=>hw' j o u)];exact h5 t ht (fun j o u q=>absurd q (hw' j o u))
   refine wpOpIn_mono (fun a' w' hx=>.inr ⟨by simp[h1],?_,hx⟩) (hL ro C ok H a w hH);unfold Region.ready;rw[rP];intro j u;have hjn:j<ops.size:=Vd
   have hdn:(l.setIfInBounds i true).getD j true=true:=by
    by_cases hji:j=i
    ·subst hji;simp[Array.getD,h1,hi']
    have :=aDe j AB;simp only[J8,Ol (Ne.symm hji)];have hjl:j<l.size:=AB
    simp[Array.getD,hjl]at this;simp[hjl,this]
   rw[hdn];simp
  have hiN:i<N:=AB
  have hread:∀t,t∈tmpsOf ops[i]->R ok w H ((GU ops σ r ev i).slots.getD t .junk) (a.tmps.getD t undef):=by
   intro t ht;by_cases hw:∃(j:Nat) (o:Oper),ops[j]? =some o/\o.dst=some t
   ·obtain⟨j,o,u,q⟩:=hw;rcases(hcalm i _ M).1 j o t u q ht with hce|hce
    ·obtain⟨hdj,hji⟩:=O j hce;rw[Zg hinj u q (XW j o t u q) i hji];exact h6 j o t u q hdj
    have hij:i<j:=by
     unfold Ik at hce;rw[Iu]at hce;obtain⟨e,hee,hce⟩:=hce;simp only[Du,I8]at hce;exact hce.1▸aft j _ u e hee hce.2
    rw[Xp i (fun j' o' hj' ho' hd'=>aJJ)];refine h5 t (XW j o t u q) (fun j' o' ho' hd'=>?_);have hjj:=hinj j j' o o' t u ho' q hd';subst hjj;rw[←Pm];intro hd;rw[h7 j o u hd i hce]at Y;cases Y
   have hw':∀(j:Nat) (o:Oper),ops[j]? =some o->o.dst≠some t:=fun j o h1 h2=>hw ⟨j,o,h1,h2⟩;rw[Xp i (fun j o _ u=>hw' j o u)];by_cases htn:t<σ.slots.length
   ·exact h5 t htn (fun j o u q=>absurd q (hw' j o u))
   rw[qA htn];exact .junk _
  have ahN:∀j d v,Ik ops[i] j=true->(ops[j]?).bind (·.dst)=some d->(GU ops σ r ev i).slots.getD d .junk=.d (.lit v)->yielded ops a.tmps j=(match v with | .bool b=>some b|_=>none):=by
   intro j d v u q z;cases hoj:ops[j]? with
   |none=>rw[hoj]at q;simp at q
   |some oj=>
    rw[hoj]at q;simp only[Ad]at q;obtain⟨hdj,hji⟩:=O j u;have hdn:=XW j oj d hoj q;rw[Zg hinj hoj q hdn i hji]at z;have hv:=(z▸h6 j oj d hoj q hdj).bool
    have hs:a.tmps[d]? =some v:=by
     have :d<a.tmps.size:=by rw[hsz];exact hdn
     simp[Array.getD,this]at hv;simp[this,hv]
    unfold yielded;rw[hoj];simp only[Ad,q,hs];cases v<;>rfl
  have hput:∀(x:Af) (v:Au) (ok':Nat->Prop) (H':A8 CP) (w':BU),x=r i->Et ok w ok' w'->Names H H'->E5 C ok' H' (ev i) w'->R ok' w' H' x v->I2 (l.setIfInBounds i true) (a.put ops[i].dst v) w':=by
   intro x v ok' H' w' hx hgr hnm hmem' hR;subst hx
   have hother:∀(d t:Nat),ops[i].dst=some d->d≠t->(a.put ops[i].dst v).tmps.getD t undef=a.tmps.getD t undef:=by
    intro d t hd hne;rw[hd];exact aOf hne
   obtain⟨m',axV,ao9,axW⟩:∃m',m'<=N/\(∀b,bar b=true->b<ops.size->((l.setIfInBounds i true).getD b false=true↔b<m'))/\E5 C ok' H' (U m').ents w':=by
    have hget:∀b,b≠i->(l.setIfInBounds i true).getD b false=l.getD b false:=fun b z=>by
     simp only[J8,Ol (Ne.symm z)]
    have axX:(l.setIfInBounds i true).getD i false=true:=by simp[Array.getD,h1,hi']
    cases hbi:bar i with
    |false=>
     refine⟨m,acO,fun b z hbs=>?_,?_⟩
     ·have hne:b≠i:=fun e=>by subst e;rw[hbi]at z;cases z
      rw[hget b hne];exact ad7 b z hbs
     have h2:=(YS i _ AB hiN M).2 hbi;rw[h2]at hmem'
     have hE:(U i).ents=(U m).ents:=by
      by_cases him:i<=m
      ·refine(Z i m him acO (fun b h2 h3=>?_)).symm;rw[←Pm];intro z;have hbl:=(ad7 b z AB).2 h3;by_cases e:b=i
       ·subst e;rw[Y]at hbl;cases hbl
       have :=vg L (show b<ops.size by omega) z (D:=fun j=>l.getD j false=true) J (fun o M m hm=>J b o M hbl m hm) i AB;rw[Y]at this;cases this
      refine Z m i AB AB (fun b h2 h3=>?_);rw[←Pm];intro z;have :=aRm L (show b<ops.size by omega) z (D:=fun j=>l.getD j false=true) J i h3 _ M (fun m hm=>(O m hm).1);exact absurd ((ad7 b z AB).1 this) AB
     rw[←hE];exact hmem'
    |true=>
     refine⟨i+1,AB,fun b z hbs=>?_,by rw[hU i hi'];exact hmem'⟩;by_cases e:b=i
     ·subst e;rw[axX];simp
     rw[hget b e];constructor
     ·intro hbl;apply aS;intro hn;have :=vg L hbs z (D:=fun j=>l.getD j false=true) J (fun o M m hm=>J b o M hbl m hm) i AB;rw[Y]at this;cases this
     intro hlt;exact vg L hi' hbi (D:=fun j=>l.getD j false=true) J (fun o ho' m hm=>aW6) b AB
   refine .inl ⟨by simp[h1],by simpa only[J8,Ol (show i≠N by omega)]using hlN,ok',H',m',axV,ao9,axW,by rw[size_put];exact hsz,by rw[aQP];exact hdf.mono hgr,?_,?_,?_⟩
   ·intro t ht hno
    have hne:ops[i].dst≠some t:=by
     intro e;have :=hno i _ M e;simp[Array.getD,h1,hi']at this
    have hold:(a.put ops[i].dst v).tmps.getD t undef=a.tmps.getD t undef:=by
     cases hdi:ops[i].dst with
     |none=>rfl
     |some d=>exact hdi▸hother d t hdi (fun e=>hne (by rw[hdi,e]))
    rw[hold];refine(h5 t ht (fun j o u q=>?_)).mono hgr hnm;have hij:i≠j:=fun e=>by subst e;rw[M]at u;obtain rfl:=Dq u;exact hne q
    have :=hno j o u q;simpa only[J8,Ol hij]using this
   ·intro k o d hk hkd hl;by_cases hik:i=k
    ·subst hik;rw[M]at hk;obtain rfl:=Dq hk;rw[hkd,aQW (by rw[hsz];exact XW i _ d M hkd)];exact hR
    have hl':l.getD k false=true:=by
     simp only[J8,Ol hik]at hl ⊢;exact hl
    have :=(h6 k o d hk hkd hl').mono hgr hnm;cases hdst:ops[i].dst with
    |none=>exact this
    |some d'=>
     have hne:d'≠d:=fun e=>hik (hinj i k _ _ d' M hk hdst (e▸hkd));rw[←hdst,hother d' d hdst hne];exact this
   intro j o u hl k hk;have hil:i<l.size:=AB
   by_cases hik:i=k
   ·subst hik;simp[Array.getD,hil]
   have hkk:l.getD k false=true:=by
    by_cases hij:i=j
    ·subst hij;rw[M]at u;obtain rfl:=Dq u;exact(O k hk).1
    have hl':l.getD j false=true:=by
     simp only[J8,Ol hij]at hl ⊢;exact hl
    exact h7 j o u hl' k hk
   simp only[J8,Ol hik]at hkk ⊢;exact hkk
  unfold wpOpIn;rw[M];show if Region.wanted ops[i] (yielded ops a.tmps)=true then _ else _
  rcases(YS i ops[i] AB hiN M).1 with⟨ns,hop,ant,hnt,hg⟩|⟨hx,hev,hg⟩
  ·have hwant:Region.wanted ops[i] (yielded ops a.tmps)=true:=by
    unfold Region.wanted;rcases hg with hg|⟨j,want,d,b,hg,u,z,rfl⟩
    ·rw[hg]
    rw[hg];show(yielded ops a.tmps j==some b)=true;rw[ahN j d _ ((hcalm i _ M).2 j b hg) u z];simp
   rw[Di hwant];refine S9 ?_ (hop.inR ro C ok H a w _ hmem (fun n hn=>?_))
   ·rintro a' w' ⟨v,ok',H',rfl,hgr,hnn,hm',hx⟩;exact hput _ v ok' H' w' rfl hgr hnn hm' hx
   have hnv:=RX ant n hn;obtain⟨x,y⟩:=n;simp only at hnv ⊢;subst hnv;cases x with
   |tmp t=>
    refine hread t ?_;rw[El]at hnt
    have :t∈NJ ns:=by
     unfold NJ;rw[VA];exact⟨_,hn,rfl⟩
    simpa using hnt t this
   |const v=>exact .d _ _ (.lit v)
   |global g=>exact .d _ _ (.lit _)
   |func f=>exact .d _ _ (.fn (.func f) [] [] #[] #[] rfl rfl (fun i hi=>PV) (fun i hi=>PV))
  have hwant:Region.wanted ops[i] (yielded ops a.tmps)=false:=by
   unfold Region.wanted;obtain⟨j,want,d,v,hg,u,z,hv⟩:=hg;rw[hg];show(yielded ops a.tmps j==some want)=false;rw[ahN j d _ ((hcalm i _ M).2 j want hg) u z];rcases hv with rfl|rfl
   ·simp
   rfl
  rw[Dp (by rw[hwant];simp)];exact⟨fun _ _=>trivial,hput _ _ ok H w hx.symm (.refl _ _) (.refl _) (by rw[hev];exact hmem) (.d _ _ (.lit _))⟩
 ·rintro l a w (⟨h1,hlN,ok,H,m,acO,ad7,hmem,hsz,hdf,h5,h6,h7⟩|⟨h1,_,h2⟩) hr
  rotate_left
  ·exact h2
  have hall:∀n i,i<n->i<ops.size->l.getD i false=true:=by
   intro n
   induction n with
   |zero=>intro i hi;omega
   |succ n ih=>
    intro i hi hi2;by_cases hn:i<n
    ·exact ih i hn hi2
    have hin:i=n:=AB
    subst hin;rw[←Bool.not_eq_false];intro hf;have M:ops[i]? =some ops[i]:=by simp[hi2]
    have hmem:i∈Region.ready .any ops l:=by
     unfold Region.ready;rw[Hy];refine⟨by simpa using hi2,?_⟩;have hil:i<l.size:=AB
     have hf':l.getD i true=false:=aKj
     rw[hf',M];simp only[JC,Gw,JQ,Oq];rw[UW];intro e he;cases hbe:Region.binds .any e with
     |false=>simp
     |true=>
      have hlt:=aft i _ M e aEX hbe;rw[ih e.on AB AB];simp
    rw[hr]at hmem;simp at hmem
  have :=hall (N+1) N AB AB;rw[hlN]at this;cases this
 ·unfold toCome;simp
 refine .inl ⟨Bh,by simp[Array.getD],ok,H,0,Ea _,fun b z _=>by simp[Array.getD],?_,hh.size,hh.defers.mono (fun b z=>⟨z,rfl⟩),fun t ht _=>?_,fun i o d _ _ hl=>?_,fun j o _ hl=>?_⟩
 ·exact⟨⟨hh.mem.fr.os,hh.mem.fr.tape,hh.mem.fr.output,hh.mem.fr.size,hh.mem.fr.block⟩,hh.mem.yY,hh.mem.yZ,hh.mem.kS,hh.mem.names,hh.mem.hlen,fun k e h h1 h2=>(hh.mem.ent k e h h1 h2).drew,hh.mem.blk,hh.mem.Fe⟩
 ·exact R.mono (w:=w) (ok:=ok) (w':={ w with drawn:=w.drawn+1 }) (fun b z=>⟨z,rfl⟩) (.refl _) (hh.slot t ht)
 ·simp[Array.getD]at hl
 simp[Array.getD]at hl
def Bv.aDf {id:Nat} {σ σ':BO} {Q:Exit->BO->Prop} {rs:A8 Af} {ess:A8 (A8 Bd)} {bs:A8 AZ} (N:Nat) (h:FZ P ops (ops.toList.take N) σ rs ess bs σ') (hl:Dv P ops (ops.toList.drop N) σ' Q) (z:N+1=ops.size:=by kernel_rfl) (hm:P.follows .mixedOrders=true:=by kernel_rfl) (j:(Xa ops&&XR ops&&Vq ops σ.slots.length&&Xe ops)=true:=by kernel_rfl) (I:bs.length=N:=by kernel_rfl) (q:Vf ops (bs++[true])=true:=by kernel_rfl):Bv P (.region id ops true) σ Q:=by
 refine Bv.aGg N z hm j I q h fun ro C ok H a w O=>?_;have L:N<ops.size:=AB
 have hd:ops.toList.drop N=[ops[N]]:=by
  rw[Lh YM];simp[←z]
 rw[hd]at hl;have M:=hl.run ro [] (fun e a' w'=>∃ok' H' σ',Holds C ok' H' σ' a' w'/\Q e σ') C ok H a w O ⟨fun σ' ok' H' a' w' J u=>⟨ok',H',σ',u,J⟩,fun v σ' ok' H' a' w' J u=>⟨ok',H',σ',u,J⟩⟩;unfold wpOpIn;have U:ops[N]? =some ops[N]:=by simp[L]
 rw[U];simp only[aF,Iq,wpListIn]at M;exact M
end
section
variable {P:Ce} {o:Oper} {es:A8 Bd}
def aCa {t:CG} (e s:Nat) (I:(P.info? t).bind (·.zero)=some (.slice none 0 0)) (J:o.op=.alloc t):CQ P o [] es (.ptr (es.length+1) 0) (es++[.arr e s [],.box [.aO es.length]]):=
 .eff fun C ok H a w hm Z=>by
  obtain⟨z,h2⟩:=aFt hm e s;have j:(H++[(⟨.slice none 0 0,s⟩:CP)]).length=(es++[Bd.arr e s []]).length:=z.hlen;have L:(H++[(⟨.slice none 0 0,s⟩:CP)])[es.length]? =some ⟨.slice none 0 0,s⟩:=PD
  have M:FY ok (w.alloc (.cells #[.slice none 0 0] t)) ((H++[⟨.slice none 0 0,s⟩])++[⟨.pointer (some ⟨w.heap.size,0,none⟩),0⟩]) ⟨.pointer (some ⟨w.heap.size,0,none⟩),0⟩ (.box [.aO es.length]):=by
   refine⟨w.heap.size, #[.slice none 0 0],t,rfl,XD w _,rfl,fun i hi=>?_⟩
   match i,hi with
   |0,_=>exact⟨rfl,.aO _ none 0 0 s (by rw[Hu Zo];exact L)⟩
  obtain⟨O,U⟩:=z.push (.cells #[.slice none 0 0] t) ⟨.pointer (some ⟨w.heap.size,0,none⟩),0⟩ _ (aCZ w) M;have q:E5 C ok ((H++[⟨.slice none 0 0,s⟩])++[⟨.pointer (some ⟨w.heap.size,0,none⟩),0⟩]) (es++[.arr e s [],.box [.aO es.length]]) (w.alloc (.cells #[.slice none 0 0] t)):=by simpa[Jd]using O
  refine⟨.pointer (some ⟨w.heap.size,0,none⟩),_,ok,_,.inl ?_,U,(Ho _ _).trans (Ho _ _),q,.ptr _ _ w.heap.size 0 ?_⟩
  ·obtain⟨i,hi,u⟩:=mX.1 I;have Y:Value.cells (.slice none 0 0)= #[.slice none 0 0]:=rfl;simp[execOp,J,Instr.alloc,zeroValue,typeInfo,hi,u,newVar,newRow,Y]
  rw[Kt (by rw[j];simp),j];simp
def aEW {α:Type} {x y:CM} {t e:CG} {k n:Nat} {kd:IntKind} {i:Int} (enc:α->D) {l:A8 α} {a:α} (h:Ak l i=some a) (hl:l.length=n) (ht:P.underlying t=some (.array n e)) (L:Em P e false 1) (M:es[k]? =some (.box (BP (NZ enc l)))) (O:o.op=.indexAddr t x y):
 CQ P o [(x,.ptr k 0),(y,.d (.lit (.int kd i)))] es (.ptr k i.toNat) es:=
 .pure fun ok H U w j u I=>by
  obtain⟨Y,Z⟩:=Gx h;obtain⟨hd,hh,_⟩:=Hl j u M;have z:=(FI I).1;have J:=(FI I).2.lit;simp only at z J;have hlt:=(GH.1 Z).1;have hu:(underlying t).run P w=.ok (.array n e) w:=Ox
  generalize hv:U.eval x=v at z;cases z with
  |ptr _ _ b s hH=>
   have hb:0<=i/\i<n:=⟨Y,AB⟩
   refine⟨.pointer (some ⟨b,i.toNat,none⟩),?_,.ptr k _ b s hH⟩;have q:(⟨b,0,none⟩:Addr).add i.toNat=⟨b,i.toNat,none⟩:=by rw[addr_add,Kz]
   simp[execOp,O,hv,J,Instr.indexAt,asIntOf,hu,Instr.sureAddr,hb,L.size w,q]
def amh {α:Type} {i:Int} {enc:α->D} {l:A8 α} {a:α} (h:Ak l i=some a):(BP (NZ enc l))[i.toNat]? =some (.d (enc a)):=by
 have j:=(Gx h).2;simp[BP,NZ,D.cells,j]
def aFZ {α:Type} {x:CM} {t:CG} {k:Nat} {i:Int} (enc:α->D) {l:A8 α} {a:α} (h:Ak l i=some a) (j:es[k]? =some (.box (BP (NZ enc l)))) (q:Em P t false 1) (u:o.op=.load t x):CQ P o [(x,.ptr k i.toNat)] es (.d (enc a)) es:=aY4 j (amh h) q u
def aXr {t:CG} {x:CM} {y:D} (j:match P.underlying t with |some (.interface _)=>false|some _=>true|none=>false) (q:o.op=.makeInterface t x):CQ P o [(x,.d y)] es (.d (.PS t y)) es:=
 .pure fun ok H a w _ _ u=>by
  have z:ES ok w y (a.eval x):=by have :=u (x,.d y) Bh;cases this with |d _ _ h=>exact h
  refine⟨.iface t (a.eval x),?_,.d _ _ (.PS t y _ z)⟩;cases ht:P.underlying t with
  |none=>rw[ht]at j;cases j
  |some d=>
   rw[ht]at j;have I:(underlying t).run P w=.ok d w:=Ox
   cases d<;>first|(cases j;done)|simp[execOp,q,Instr.makeInterface,I]
def aUv {t:CG} {x:CM} (us:A8 Au) (j:match P.underlying t with |some (.interface _)=>false|some _=>true|none=>false) (u:o.op=.makeInterface t x):CQ P o [(x,.d (.agg (us.map .lit)))] es (.d (.lit (.iface t (.agg us.toArray)))) es:=
 .pure fun ok H a w _ _ z=>by
  have q:=(z (x,.d (.agg (us.map .lit))) Bh).ahS;simp only at q;refine⟨.iface t (.agg us.toArray),?_,.d _ _ (.lit _)⟩;cases ht:P.underlying t with
  |none=>rw[ht]at j;cases j
  |some d=>
   rw[ht]at j;have I:(underlying t).run P w=.ok d w:=Ox
   cases d<;>first|(cases j;done)|simp[execOp,u,Instr.makeInterface,I,q]
def pG (P:Ce) (t:CG) (j:String) (f:FuncId):AZ:=
 match P.info? t with
 |some i=>(match i.methods.find? (·.name==j)with
  |some m=>m.path.toList.isEmpty&&(match m.func with |some (g,p)=>g=f&& !p|none=>false)
  |none=>false)&&(match P.underlying t with |some (.pointer _)=>false|some _=>true|none=>false)
 |none=>false
def af4 {t:CG} {j:String} {f:FuncId} (h:pG P t j f=true) (n:Nat) (v:Au) (w:BU):(method (n+1) t v j).run P w=.ok (f,v) w:=by
 unfold pG at h;split at h
 ·rename_i i hi;rw[Du]at h;obtain⟨q,u⟩:=h;split at q
  ·rename_i m hm;rw[Du]at q;obtain⟨I,z⟩:=q;split at z
   ·rename_i g p J;simp only[Du,I8,ND]at z;obtain⟨rfl,rfl⟩:=z;have hp:m.path.toList=[]:=List.isEmpty_iff.1 I;cases ht:P.underlying t with
    |none=>rw[ht]at u;cases u
    |some d=>
     rw[ht]at u;have L:∀w,(underlying t).run P w=.ok d w:=fun w=>Ox
     cases d<;>first|(cases u;done)|simp[method,typeInfo,hi,hm,hp,follow,J,receiverAt,L,Place.get]
   cases z
  cases q
 cases h
def aSE {f:FuncId} {j:CM} {I:String} {ops:C9 CM} {ats:C9 CG} {t:CG} (x:D) (q:A8 D) {z:Af} (hr:Ed P f ((x::q).map .d) [] z []) (hf:Hd P f=true) (J:pG P t I f=true) (hl:ops.toList.length=q.length) (O:z.up [] es.length=z)
 (ho:o.op=.call { callee:=.invoke j I,args:=ops,argTypes:=ats }):CQ P o ((j,.d (.PS t x))::G7 ops.toList (q.map .d)) es z es:=by
 intro C ok H a w Q hm hn;have Z:=hn (j,.d (.PS t x)) Bh;simp only at Z;have L:=uO (xs:=ops.toList) (vs:=q.map .d) NG (fun n hn'=>hn n (IG _ hn'));generalize hv:a.eval j=v at Z;cases Z with
 |d _ _ h=>
  cases h with
  |PS _ _ u h1=>
   unfold Oper.wp
   have he:(execOp a.eval o).run P w=.ok (.enter f (#[u]++ops.map a.eval)) w:=by
    have h2:=U9 hf (#[u]++ops.map a.eval) w;have M:=af4 J (P.types.size+99) u w;have h4:(#[Value.iface t u]++ops.map a.eval)[0]? =some (.iface t u):=by rw[YU Bh];rfl
    have h5:(#[Value.iface t u]++ops.map a.eval).extract 1 (#[Value.iface t u]++ops.map a.eval).size=ops.map a.eval:=by
     apply aGS;rw[Array.toList_extract];simp only[Array.size_append,Array.size_map,List.extract_eq_take_drop,Array.toList_append,kX,QO];simp;exact Qj Bh
    simp only[execOp,ho,resolve,hv,G6,Gy,GY,invoke,h4,h5,callMethod];have h6:(program).run P w=.ok P w:=rfl;simp only[h6,GY];have h7:P.types.size+Made.depth=P.types.size+99+1:=rfl;rw[h7,M];exact h2
   rw[he,dU];have U:(ops.map a.eval).size=q.length:=NG
   refine(aQr hm hr _ (by simp at U;simp[U];omega) (fun i hi=>?_) O).mono ?_
   ·cases i with
    |zero=>
     have e0:(#[u]++ops.map a.eval).getD 0 undef=u:=by simp[J8,YU]
     rw[e0];exact h1
    |succ i=>
     have Y:i<q.length:=Gs
     have M:=L i Vj;have e1:(q.map Af.d).getD i .junk=.d (q.getD i EO):=by simp[List.getD,Y]
     have hi2:i<ops.size:=aXm
     have e2:(#[u]++ops.map a.eval).getD (i+1) undef=(ops.toList.map a.eval).getD i undef:=by
      simp only[J8,List.getD];rw[aNo Bh];simp[hi2]
     rw[e2];rw[e1]at M;have e3:(x::q).getD (i+1) EO=q.getD i EO:=Bh
     rw[e3];cases M with |d _ _ h=>exact h
   rintro e w' ⟨v,ok',H',rfl,M,h4,h5,h6⟩;exact⟨v,ok',H',rfl,M,h4,h5,h6⟩
end
section
variable {P:Ce} {ops:C9 Oper} {o:Oper} {rest l:A8 Oper} {σ:BO} {K:Exit->BO->Prop}
def Dv.D5 {f:FuncId} {eH:A8 Af} {u:Au} (hr:aWy P f eH u) (hf:Hd P f=true) (h:K (uq u) σ) (J:UU σ o=some (f,eH):=by kernel_rfl) (hd:eH.all Af.Bf=true:=by kernel_rfl) (hg:JD ops σ o.guard=some true:=by kernel_rfl):Dv P ops (o::rest) σ K:=by
 refine⟨fun ro l2 Q C ok H a w j hk=>?_⟩;show wpListIn (JO ro) 0 P ops Q (o::(rest++l2)) a w;unfold wpListIn;rw[Di (Qe j (NS hg))];unfold UU at J;split at J
 ·rename_i c O;split at J
  ·rename_i f' I;cases J;obtain⟨callee,args,ats⟩:=c;simp only at I;subst I;have z:(execOp a.eval o).run P w=.ok (.enter f (args.map a.eval)) w:=by rw[um O,U9 hf]
   unfold Oper.wpIn;rw[mJ _ _ _ (by rw[O];intro c h;cases h),z]
   have M:E5 ⟨w,ok,[],[]⟩ ok [] [] w:=
    ⟨.refl _ _,fun _ h=>h,fun _ h=>.inl h,j.mem.kS,.refl _,rfl,fun k e h z=>rE,fun k e h b z=>rE,fun k k' e e' h h' b z=>rE⟩
   have key:Calls P f (args.map a.eval) w fun e w'=>e=.panicked [{ v:=u,recovered:=false }]/\∃ok',Holds C ok' H σ a w':=by
    refine(hr ok [] [] w _ M Bh (fun i hi=>?_)).mono ?_
    ·have L:i<args.size:=Gs
     have e1:(args.toList.map σ.get).getD i .junk=σ.get args[i]:=by simp[List.getD,L]
     have e2:(args.map a.eval).getD i undef=a.eval args[i]:=by simp[Array.getD,L]
     have U:Af.Bf (σ.get args[i])=true:=by
      rw[El]at hd;exact hd _ (Fh.2 ⟨args[i],Bh,rfl⟩)
     have Y:=j.get args[i];rw[e1,e2];generalize σ.get args[i]=y at U Y;cases y with
     |d y=>cases Y with |d _ _ h=>exact .d _ _ h
     |_=>cases U
    rintro e w' ⟨ok',H',rfl,q⟩;obtain⟨h1,Z⟩:=j.mem.change (ok':=ok) (H':=H) (es':=σ.ents) (w':=w') (fun _=>False) q.fr.os q.fr.tape q.fr.output q.fr.size (fun b hb _=>q.fr.block b hb Bh) (fun _ h=>h.elim) (fun _ h=>h) (fun _ h=>.inl h) (.refl _) j.mem.hlen (fun k e h z j=>.inl ⟨z,j,fun _ _ _ h=>h⟩);exact⟨rfl,ok,h1,j.size,j.defers.mono Z,j.base,fun t ht=>(j.slot t ht).mono Z (.refl _)⟩
   refine⟨fun _ _=>trivial,fun h=>Ib,aEI.2 (key.mono ?_)⟩;rintro e w' ⟨rfl,ok',h5⟩;exact hk.2 _ _ _ _ _ _ h h5
  cases J
 cases J
def Oe:=@Dv.D5
end
def Ll {α β:Type} (r:Except Au α) (f:α->AL (Except Au β)):AL (Except Au β):=
 match r with
 | .ok a=>f a
 | .error u=>some (.error u)
def abI (p:Addr) (w:BU):
 CallsD Am 146 #[.pointer (some p)] .returning w fun e j w'=>e=.returned (.tuple #[])/\j=.returning/\w'=w:=by
 refine aB3 func146 rfl fun q cs u=>?_;apply QT;apply QZ;simp[wpOpsS,go_sem,recoverD,u,Tryz.ntmps146,Exit.thenS];apply QT;apply QZ;simp[wpOpsS,go_sem,Exit.thenS];refine jD (t:=false) mP ?_;simp only[Qq,KP];refine wpS_of_wp (wp_skip ?_);cases q
 simp_all [bodyPostS,results,Tryz.results146]
def aav (b:Nat) (x:Au) (n:Int) (w:BU) (L:w.heap[b]? =some (.cells #[x] 40 (0,0))):
 CallsD Am 146 #[.pointer (some ⟨b,0,none⟩)] (.panicking [{ v:=.iface 165 (.agg #[.int .i64 n]),recovered:=false }]) w fun e M w'=>
  e=.returned (.tuple #[])/\M=.panicking [{ v:=.iface 165 (.agg #[.int .i64 n]),recovered:=true }]/\w.grownBy w' (some b)/\w'.heap[b]? =some (.cells #[.int .i64 n] 40 (0,0)):=by
 have q:∀(O:CG) (w:BU),(Instr.typeAssert (.iface 165 (.agg #[.int .i64 n])) O 165 true).run Am w=.ok (.tuple #[.agg #[.int .i64 n],.bool true]) w:=fun _ _=>AA
 have U:∀w:BU,(Instr.alloc 165 true (.tuple #[])).run Am w=.ok (.pointer (some ⟨w.heap.size,0,none⟩)) (w.alloc (.cells #[.int .i64 0] 165)):=fun w=>by
  simp[Instr.alloc,go_sem]
 have hst:∀w:BU,(Instr.storeAt 165 (.pointer (some ⟨w.heap.size,0,none⟩)) (.agg #[.int .i64 n])).run Am (w.alloc (.cells #[.int .i64 0] 165))=.ok () (w.alloc (.cells #[.int .i64 n] 165)):=fun w=>by
  simp[Instr.storeAt,go_sem]
 refine aB3 func146 rfl fun c₀ cs Y=>?_;apply QT;apply QZ;simp[wpOpsS,go_sem,recoverD,Y,Tryz.ntmps146,Exit.thenS];apply QT;apply QZ;simp[wpOpsS,go_sem,Exit.thenS];refine jD (t:=true) mP ?_;simp only[Ku];apply QT;apply QZ;simp[wpOpsS,execOp,q,U,hst,go_sem,Exit.thenS];apply QT;apply QT;apply QZ;simp[wpOpsS,go_sem,Exit.thenS];refine jD (t:=false) mP ?_;simp only[Qq,KP];refine wpS_of_wp (wp_skip ?_);simp only[Exit.thenS];have u:b<w.heap.size:=(H6.1 L).1;have j:(w.alloc (.cells #[.int .i64 n] 165)).heap[b]? =some (.cells #[x] 40 (0,0)):=(Kq _ _ _ u).trans L;have Z:(w.alloc (.cells #[.int .i64 n] 165)).cell? ⟨b,0,none⟩=some x:=aFe
 have z:(w.alloc (.cells #[.int .i64 n] 165)).frozen? ⟨b,0,none⟩=false:=by simp[World.frozen?,j]
 apply QZ;simp[wpOpsS,go_sem,Exit.thenS,Z,z,bodyPostS,results,Tryz.results146]
 have key:(w.alloc (.cells #[.int .i64 n] 165)).setCell ⟨b,0,none⟩ (.int .i64 n)=(w.alloc (.cells #[.int .i64 n] 165)).putObj b (.cells #[.int .i64 n] 40 (0,0)):=by
  simp only[World.setCell,World.putObj];congr 1;apply zy;intro i;rw[P8,aJ0];by_cases e:b=i
  ·subst e;rw[Di rfl,Di rfl,j,Di (H6.1 j).1];rfl
  rw[Dp e,Dp e]
 rw[key];have I:b<(w.alloc (.cells #[.int .i64 n] 165)).heap.size:=(H6.1 j).1;refine⟨⟨rfl,rfl,rfl,Bh,fun i hi J=>?_⟩,WQ I⟩;rw[Z4 (fun e=>J (by rw[e]))];exact Kq _ _ _ hi
def Ty {T:Type}:Except Au T->AL Int
 | .ok _=>some 0
 | .error (.iface t (.agg cs))=>bif t==165 then(match cs.toList with | [.int .i64 n]=>some n|_=>none)else none
 | .error _=>none
def aTD (b:Nat) (n:Int) (w:BU) (j:w.heap[b]? =some (.cells #[.int .i64 n] 40 (0,0))) (tmps:C9 Au) (ht:tmps.getD 2 undef=.pointer (some ⟨b,0,none⟩)):(results Tryz.f81 tmps).run Am w=.ok (.int .i64 n) w:=by
 have q:w.cell? ⟨b,0,none⟩=some (.int .i64 n):=aFe
 have e:results Tryz.f81 tmps=(do let v ←loadVar 40 (←asAddr (tmps.getD 2 undef));pure v):=by simp[results,Tryz.results81]
 rw[e,ht];simp[go_sem,q]
def aZr {g:FuncId} {us:C9 Au} {w:BU} {n:Int} (he:∀(vs:C9 Au) (w:BU),(callFunc g vs).run Am w=.ok (.enter g vs) w)
 (I:Calls Am g us (w.alloc (.cells #[.int .i64 0] 40 (0,0))) fun e u=>(w.alloc (.cells #[.int .i64 0] 40 (0,0))).grownBy u none/\((∃v,e=.returned v/\n=0)\/e=.panicked [{ v:=.iface 165 (.agg #[.int .i64 n]),recovered:=false }])):
 Calls Am 81 #[.func (.func g) #[] us] w fun e w'=>e=.returned (.int .i64 n)/\w.grownBy w' none:=by
 have Y:∀(fn:Fn) (first cap:C9 Au) (w:BU),(Instr.makeFunc fn first cap).run Am w=.ok (.func fn first cap) w:=fun _ _ _ _=>rfl;have q:w.grownBy (w.alloc (.cells #[.int .i64 0] 40 (0,0))) none:=⟨rfl,rfl,rfl,Bh,fun i hi _=>Kq _ _ _ hi⟩
 go_enter_defers func81,Tryz.ntmps81
 apply wp_seq;apply cV;refine .inl ?_;simp[Oper.wp,go_sem,wpList,Exit.then];apply wp_seq;apply cV;refine .inl ?_;simp[Oper.wp,go_sem,Y,wpList,Exit.then];refine .inl ?_;apply wp_seq;apply cV;refine .inl ?_;simp[Oper.wp,go_sem,he,wpList,Exit.then];refine .inl (I.mono ?_);rintro e u ⟨L,h⟩;have M:u.heap[w.heap.size]? =some (.cells #[.int .i64 0] 40 (0,0)):=(L.block w.heap.size Bh Bh).trans (jH _ _);have O:w.heap.size<u.heap.size:=(H6.1 M).1;have j:w.grownBy u none:=⟨L.os.trans q.os,L.tape.trans q.tape,L.output.trans q.output,FC q.size L.size,fun i hi U=>(L.block i EW U).trans (q.block i hi U)⟩
 have z:∀(Z:BU) (m:Int),u.grownBy Z (some w.heap.size)->w.grownBy Z none:=fun Z m J=>⟨J.os.trans j.os,J.tape.trans j.tape,J.output.trans j.output,FC j.size J.size,fun i hi U=>(J.block i (by have :=j.size;omega) EW).trans (j.block i hi U)⟩
 rcases h with⟨v,rfl,rfl⟩|rfl
 ·have hc:u.cell? ⟨w.heap.size,0,none⟩=some (.int .i64 0):=by rw[World.cell?,M];rfl
  have hfz:u.frozen? ⟨w.heap.size,0,none⟩=false:=by simp[World.frozen?,M]
  apply wp_seq;apply cV;refine .inl ?_;simp[Oper.wp,go_sem,hc,hfz,wpList,Exit.then];apply wp_ret
  have key:u.setCell ⟨w.heap.size,0,none⟩ (.int .i64 0)=u.putObj w.heap.size (.cells #[.int .i64 0] 40 (0,0)):=by
   simp only[World.setCell,World.putObj];congr 1;apply zy;intro i;rw[P8,aJ0];by_cases e:w.heap.size=i
   ·subst e;rw[Di rfl,Di rfl,M,Di O];rfl
   rw[Dp e,Dp e]
  rw[key];refine leaves_cons (f:=146) (args:= #[.pointer (some ⟨w.heap.size,0,none⟩)]) Bh aEn ?_;refine(abI ⟨w.heap.size,0,none⟩ _).mono ?_;rintro e u' w'' ⟨rfl,rfl,rfl⟩;refine⟨.int .i64 0,aTD w.heap.size 0 _ (WQ O) _ rfl,rfl,z _ 0 ⟨rfl,rfl,rfl,Bh,fun i hi hne=>Z4 (fun e=>hne (by rw[e]))⟩⟩
 refine leaves_cons (f:=146) (args:= #[.pointer (some ⟨w.heap.size,0,none⟩)]) Bh aEn ?_;refine(aav w.heap.size (.int .i64 0) n u M).mono ?_;rintro e u' w'' ⟨rfl,rfl,J,h4⟩;exact⟨.int .i64 n,aTD w.heap.size n _ h4 _ rfl,rfl,z _ n J⟩
noncomputable abbrev Az:=Hd Am
def aPl {T:Type} {res:T->Af} (g:FuncId) (j:A8 D) (r:Except Au T) (hr:QW Am g (j.map .d) r res) (M:Az g=true) (n:Int) (z:Ty r=some n):
 BA 81 [.d (.fn (.func g) [] j)] [] (.d (Ae n)) []:=by
 intro ok X H w J hm hs ha;obtain rfl:H=[]:=Hg hm.hlen;have h0:=ha 0 Bh
 obtain⟨fv,rfl⟩:∃fv,J= #[fv]:=by
  have h1:J.size=1:=hs;exact⟨J[0],by apply iH (by simp[h1]);intro i h1 h2;simp at h2;subst h2;rfl⟩
 have h0:R ok w [] (.d (.fn (.func g) [] j)) fv:=h0;cases h0 with
 |d _ _ h0=>
 cases h0 with
 |fn _ _ _ vs us hl1 hl2 h1 h2=>
 obtain rfl:vs= #[]:=WT (by simpa using hl1);obtain⟨I,Y⟩:∃I,I=w.alloc (.cells #[.int .i64 0] 40 (0,0)):=⟨_,rfl⟩
 have hg1:Et ok w ok I:=fun b U=>⟨U,by rw[Y];exact Kq _ _ _ (hm.kS b U)⟩
 have hmc:E5 ⟨I,ok,[],[]⟩ ok [] [] I:=
  ⟨.refl _ _,fun _ h=>h,fun _ h=>.inl h,fun b U=>by rw[Y];simp;exact Nat.lt_succ_of_lt (hm.kS b U),.refl _,rfl,fun k e h M=>by simp at M,fun k e h b M=>by simp at M,fun k k' e e' h h' b M=>by simp at M⟩
 have L:∀i,i<(j.map Af.d).length->R ok I [] ((j.map Af.d).getD i .junk) (us.getD i undef):=fun i hi=>by
  rw[Dc]at hi;have e1:(j.map Af.d).getD i .junk=.d (j.getD i EO):=Nh
  rw[e1];exact .d _ _ ((h2 i hi).mono hg1)
 have hgr:∀{Z:Nat->Prop} {H2:A8 CP} {w2:BU},E5 ⟨I,ok,[],[]⟩ Z H2 [] w2->I.grownBy w2 none:=fun q=>⟨q.fr.os,q.fr.tape,q.fr.output,q.fr.size,fun b U _=>q.fr.block b U Bh⟩
 have hcall:Calls Am g us I fun e w2=>I.grownBy w2 none/\((∃v,e=.returned v/\n=0)\/e=.panicked [{ v:=.iface 165 (.agg #[.int .i64 n]),recovered:=false }]):=by
  cases O:r with
  |ok x=>
   rw[O]at z;refine(hr.1 x O ok [] [] I us hmc (by simpa using hl2) L).mono ?_;rintro e w2 ⟨v,Z,H2,rfl,q,_⟩;exact⟨hgr q,.inl ⟨v,rfl,(Dq z).symm⟩⟩
  |error u=>
   rw[O]at z
   have hu:u=.iface 165 (.agg #[.int .i64 n]):=by
    unfold Ty at z;split at z
    ·rename_i h;cases h
    ·rename_i t cs h;cases h;cases ht:(t==165)with
     |false=>rw[ht]at z;cases z
     |true=>
      rw[ht]at z;simp only[Bz]at z;obtain rfl:t=165:=aBl
      split at z
      ·rename_i m hcs;obtain rfl:=Dq z;rw[←au (xs:=cs),hcs]
      cases z
    cases z
   refine(hr.2 u O ok [] [] I us hmc (by simpa using hl2) L).mono ?_;rintro e w2 ⟨Z,H2,rfl,q⟩;exact⟨hgr q,.inr (by rw[hu])⟩
 subst Y;refine(aZr (fun vs w=>U9 M vs w) hcall).mono ?_;rintro e w' ⟨rfl,hg⟩;obtain⟨m1,_⟩:=hm.change (ok':=ok) (H':=[]) (es':=[]) (w':=w') (fun _=>False) hg.os hg.tape hg.output hg.size (fun b U _=>hg.block b U Bh) (fun _ h=>h.elim) (fun _ h=>h) (fun _ h=>.inl h) (.refl _) rfl (fun k e h M=>by simp at M);exact⟨_,ok,[],rfl,m1,.d _ _ (.lit _)⟩
def setCell_eq {w:BU} {b:Nat} {x y:Au} {t:CG} (j:w.heap[b]? =some (.cells #[x] t (0,0))):w.setCell ⟨b,0,none⟩ y=w.putObj b (.cells #[y] t (0,0)):=by
 simp only[World.setCell,World.putObj];congr 1;apply zy;intro i;rw[P8,aJ0];by_cases e:b=i
 ·subst e;rw[Di rfl,Di rfl,j,Di (H6.1 j).1];rfl
 rw[Dp e,Dp e]
def ab7 (p q:Addr) (w:BU):
 CallsD Am 401 #[.pointer (some p),.pointer (some q)] .returning w fun e j w'=>e=.returned (.tuple #[])/\j=.returning/\w'=w:=by
 refine aB3 func401 rfl fun u cs z=>?_;apply QT;apply QZ;simp[wpOpsS,go_sem,recoverD,z,Tryz.ntmps401,Exit.thenS];apply QT;apply QZ;simp[wpOpsS,go_sem,Exit.thenS];refine jD (t:=false) mP ?_;simp only[Qq,KP];refine wpS_of_wp (wp_skip ?_);cases u
 simp_all [bodyPostS,results,Tryz.results401]
def adb (b c:Nat) (ad:AL Addr) (n cap:Nat) (x:Au) (w:BU) (Y:w.heap[b]? =some (.cells #[.slice ad n cap] 52 (0,0))) (Z:w.heap[c]? =some (.cells #[x] 52 (0,0))):
 CallsD Am 401 #[.pointer (some ⟨b,0,none⟩),.pointer (some ⟨c,0,none⟩)] (.panicking [{ v:=.iface 331 (.agg #[]),recovered:=false }]) w fun e u' w'=>
  e=.returned (.tuple #[])/\u'=.panicking [{ v:=.iface 331 (.agg #[]),recovered:=true }]/\w.grownBy w' (some c)/\w'.heap[c]? =some (.cells #[.slice ad n cap] 52 (0,0)):=by
 have q:∀(t0:CG) (w:BU),(Instr.typeAssert (.iface 331 (.agg #[])) t0 331 true).run Am w=.ok (.tuple #[.agg #[],.bool true]) w:=fun _ _=>AA
 refine aB3 func401 rfl fun c₀ cs hu=>?_;apply QT;apply QZ;simp[wpOpsS,go_sem,recoverD,hu,Tryz.ntmps401,Exit.thenS];apply QT;apply QZ;simp[wpOpsS,go_sem,Exit.thenS];refine jD (t:=true) mP ?_;simp only[Ku];apply QT;apply QT;apply QZ;simp[wpOpsS,execOp,q,go_sem,Exit.thenS];apply QT;apply QZ;simp[wpOpsS,go_sem,Exit.thenS];refine jD (t:=false) mP ?_;simp only[Qq,KP];refine wpS_of_wp (wp_skip ?_);simp only[Exit.thenS];have u:b<w.heap.size:=(H6.1 Y).1;have z:c<w.heap.size:=(H6.1 Z).1;have I:(w.alloc (.cells #[] 331)).heap[b]? =some (.cells #[.slice ad n cap] 52 (0,0)):=(Kq _ _ _ u).trans Y;have j:(w.alloc (.cells #[] 331)).heap[c]? =some (.cells #[x] 52 (0,0)):=(Kq _ _ _ z).trans Z;have J:(w.alloc (.cells #[] 331)).cell? ⟨b,0,none⟩=some (.slice ad n cap):=by rw[World.cell?,I];rfl
 have L:(w.alloc (.cells #[] 331)).cell? ⟨c,0,none⟩=some x:=aFe
 have M:(w.alloc (.cells #[] 331)).frozen? ⟨c,0,none⟩=false:=by simp[World.frozen?,j]
 apply QZ;simp[wpOpsS,go_sem,Exit.thenS,J,L,M,bodyPostS,results,Tryz.results401];rw[setCell_eq j];have O:c<(w.alloc (.cells #[] 331)).heap.size:=(H6.1 j).1;refine⟨⟨rfl,rfl,rfl,Bh,fun i hi U=>?_⟩,WQ O⟩;rw[Z4 (fun e=>U (by rw[e]))];exact Kq _ _ _ hi
def step_fin (b:Nat) (v:Au) (w:BU) (j:w.heap[b]? =some (.cells #[v] 52 (0,0))) (tmps:C9 Au) (ht:tmps.getD 6 undef=.pointer (some ⟨b,0,none⟩)):(results Tryz.f378 tmps).run Am w=.ok v w:=by
 have q:w.cell? ⟨b,0,none⟩=some v:=aFe
 have e:results Tryz.f378 tmps=(do let v ←loadVar 52 (←asAddr (tmps.getD 6 undef));pure v):=by simp[results,Tryz.results378]
 rw[e,ht];simp[go_sem,q]
def ak0 {l id:Au} {ad:AL Addr} {n cap:Nat} {w:BU} {Rv:Au->BU->Prop} {bad:Prop}
 (I:Calls Am 402 #[l,.slice ad n cap,id] ((w.alloc (.cells #[.slice ad n cap] 52 (0,0))).alloc (.cells #[.slice none 0 0] 52 (0,0))) fun e j=>((w.alloc (.cells #[.slice ad n cap] 52 (0,0))).alloc (.cells #[.slice none 0 0] 52 (0,0))).grownBy j none/\((∃L n' q,e=.returned (.slice L n' q)/\Rv (.slice L n' q) j)\/(e=.panicked [{ v:=.iface 331 (.agg #[]),recovered:=false }]/\bad))):
 Calls Am 378 #[l,.slice ad n cap,id] w fun e w'=>w.grownBy w' none/\((∃v j,e=.returned v/\Rv v j/\w.grownBy j none/\w.heap.size+1<j.heap.size/\j.grownBy w' (some (w.heap.size+1)))\/(e=.returned (.slice ad n cap)/\bad)):=by
 have hmf:∀(fn:Fn) (first cap:C9 Au) (w:BU),(Instr.makeFunc fn first cap).run Am w=.ok (.func fn first cap) w:=fun _ _ _ _=>rfl;obtain⟨U,u⟩:∃U,U=(w.alloc (.cells #[.slice ad n cap] 52 (0,0))).alloc (.cells #[.slice none 0 0] 52 (0,0)):=⟨_,rfl⟩
 have hs1:U.heap.size=w.heap.size+2:=by rw[u];simp
 have Z:U.heap[w.heap.size]? =some (.cells #[.slice ad n cap] 52 (0,0)):=by rw[u];exact(Kq _ _ _ Bh).trans (jH w _)
 have h1c:U.heap[w.heap.size+1]? =some (.cells #[.slice none 0 0] 52 (0,0)):=by
  have :=jH (w.alloc (.cells #[.slice ad n cap] 52 (0,0))) (.cells #[.slice none 0 0] 52 (0,0));rw[aLv]at this;rw[u];exact this
 have J:w.grownBy U none:=by
  rw[u];exact⟨rfl,rfl,rfl,EW,fun i hi _=>(Kq _ _ _ EW).trans (Kq _ _ _ hi)⟩
 have hcb:U.cell? ⟨w.heap.size,0,none⟩=some (.slice ad n cap):=by rw[World.cell?,Z];rfl
 rw[←u]at I
 go_enter_defers func378,Tryz.ntmps378
 apply wp_seq;apply cV;refine .inl ?_;simp[Oper.wp,go_sem,wpList,Exit.then];rw[←u];have he:∀(vs:C9 Au) (w:BU),(callFunc 402 vs).run Am w=.ok (.enter 402 vs) w:=fun vs w=>U9 (P:=Am) (f:=402) AA vs w;refine .inl ?_;apply wp_seq;apply cV;refine .inl ?_;simp[Oper.wp,go_sem,hmf,wpList,Exit.then];refine .inl ?_;apply wp_seq;apply cV;refine .inl ?_;simp[Oper.wp,go_sem,wpList,Exit.then,hcb,he];refine .inl (.inl (.inl (I.mono ?_)));rintro e j ⟨Y,h⟩;have hb:j.heap[w.heap.size]? =some (.cells #[.slice ad n cap] 52 (0,0)):=(Y.block _ AB Bh).trans Z;have hc:j.heap[w.heap.size+1]? =some (.cells #[.slice none 0 0] 52 (0,0)):=(Y.block _ AB Bh).trans h1c;have hcl:w.heap.size+1<j.heap.size:=(H6.1 hc).1;have z:w.grownBy j none:=⟨Y.os.trans J.os,Y.tape.trans J.tape,Y.output.trans J.output,FC J.size Y.size,fun i hi hn=>(Y.block i AB hn).trans (J.block i hi hn)⟩
 have O:∀(w3:BU),j.grownBy w3 (some (w.heap.size+1))->w.grownBy w3 none:=fun w3 M=>⟨M.os.trans z.os,M.tape.trans z.tape,M.output.trans z.output,FC z.size M.size,fun i hi hn=>(M.block i AB EW).trans (z.block i hi hn)⟩
 rcases h with⟨L,n',q,rfl,hv⟩|⟨rfl,hbad⟩
 ·have hcc:j.cell? ⟨w.heap.size+1,0,none⟩=some (.slice none 0 0):=by rw[World.cell?,hc];rfl
  have hfz:j.frozen? ⟨w.heap.size+1,0,none⟩=false:=by simp[World.frozen?,hc]
  simp[hcc,hfz,go_sem,wpList,Exit.then];refine .inl (wp_ret ?_);rw[setCell_eq hc];refine leaves_cons (f:=401) (args:= #[.pointer (some ⟨w.heap.size,0,none⟩),.pointer (some ⟨w.heap.size+1,0,none⟩)]) Bh aEn ?_;refine(ab7 ⟨w.heap.size,0,none⟩ ⟨w.heap.size+1,0,none⟩ _).mono ?_;rintro e u' w'' ⟨rfl,rfl,rfl⟩;have M:j.grownBy (j.putObj (w.heap.size+1) (.cells #[.slice L n' q] 52 (0,0))) (some (w.heap.size+1)):=⟨rfl,rfl,rfl,Bh,fun i hi hne=>Z4 (fun e=>hne (by rw[e]))⟩
  exact⟨.slice L n' q,step_fin (w.heap.size+1) _ _ (WQ hcl) _ rfl,O _ M,.inl ⟨_,rfl,j,hv,z,hcl,M⟩⟩
 refine leaves_cons (f:=401) (args:= #[.pointer (some ⟨w.heap.size,0,none⟩),.pointer (some ⟨w.heap.size+1,0,none⟩)]) Bh aEn ?_;refine(adb w.heap.size (w.heap.size+1) ad n cap (.slice none 0 0) j hb hc).mono ?_;rintro e u' w'' ⟨rfl,rfl,M,h4⟩;exact⟨.slice ad n cap,step_fin (w.heap.size+1) _ _ h4 _ rfl,O _ M,.inr ⟨rfl,hbad⟩⟩
def a0c {T:Type} (s:T):Except Au T->AL T
 | .ok x=>some x
 | .error (.iface t (.agg cs))=>bif t==331&&cs.toList.isEmpty then some s else none
 | .error _=>none
def abw {T:Type} (enc:T->A8 D) (dl di:D) (s:T) (r:Except Au T) (hr:QW Am 402 [.d dl,.d (.sl (enc s)),.d di] r (fun x=>.d (.sl (enc x)))) (O:T) (Z:a0c s r=some O):
 BA 378 [.d dl,.d (.sl (enc s)),.d di] [] (.d (.sl (enc O))) []:=by
 intro ok X H w I hm hs ha;obtain rfl:H=[]:=Hg hm.hlen;have hsz:I.size=3:=hs
 obtain⟨l,sv,id,rfl⟩:∃l sv id,I= #[l,sv,id]:=⟨I[0],I[1],I[2],by
  apply iH (by simp[hsz]);intro i h1 h2
  match i,h2 with
  |0,_=>rfl
  |1,_=>rfl
  |2,_=>rfl⟩
 have a0:R ok w [] (.d dl) l:=ha 0 Bh;have a1:R ok w [] (.d (.sl (enc s))) sv:=ha 1 Bh;have a2:R ok w [] (.d di) id:=ha 2 Bh
 have slv:∀{ok:Nat->Prop} {w:BU} {H:A8 CP} {xs:A8 D} {v:Au},R ok w H (.d (.sl xs)) v->∃ad n cap,v=.slice ad n cap:=fun h=>by
  cases h with
  |d _ _ h=>cases h with
   |sl0 ad cap=>exact⟨_,_,_,rfl⟩
   |sl=>exact⟨_,_,_,rfl⟩
 obtain⟨ad,n,cap,rfl⟩:=slv a1;obtain⟨J,hw1⟩:∃J,J=(w.alloc (.cells #[.slice ad n cap] 52 (0,0))).alloc (.cells #[.slice none 0 0] 52 (0,0)):=⟨_,rfl⟩
 have hs1:J.heap.size=w.heap.size+2:=by rw[hw1];simp
 have hg1:Et ok w ok J:=fun b z=>⟨z,by rw[hw1];exact(Kq _ _ _ (by have h:=hm.kS b z;rw[aLv];omega)).trans (Kq _ _ _ (hm.kS b z))⟩
 have hmc:E5 ⟨J,ok,[],[]⟩ ok [] [] J:=
  ⟨.refl _ _,fun _ h=>h,fun _ h=>.inl h,fun b z=>by have h:=hm.kS b z;rw[hs1];omega,.refl _,rfl,fun k e h he=>by simp at he,fun k e h b he=>by simp at he,fun k k' e e' h h' b he=>by simp at he⟩
 have U:∀i,i<3->R ok J [] ([Af.d dl,.d (.sl (enc s)),.d di].getD i .junk) ((#[l,.slice ad n cap,id]:C9 Au).getD i undef):=fun i hi=>by
  match i,hi with
  |0,_=>exact a0.mono hg1 (.refl _)
  |1,_=>exact a1.mono hg1 (.refl _)
  |2,_=>exact a2.mono hg1 (.refl _)
 have hgr:∀{j:Nat->Prop} {H2:A8 CP} {M:BU},E5 ⟨J,ok,[],[]⟩ j H2 [] M->J.grownBy M none:=fun q=>⟨q.fr.os,q.fr.tape,q.fr.output,q.fr.size,fun b z _=>q.fr.block b z Bh⟩
 have Y:Calls Am 402 #[l,.slice ad n cap,id] J fun e M=>J.grownBy M none/\((∃ad' n' L,e=.returned (.slice ad' n' L)/\∃x j,r=.ok x/\E5 ⟨J,ok,[],[]⟩ j [] [] M/\ES j M (.sl (enc x)) (.slice ad' n' L))\/(e=.panicked [{ v:=.iface 331 (.agg #[]),recovered:=false }]/\O=s)):=by
  cases hrr:r with
  |ok x=>
   refine(hr.1 x hrr ok [] [] J _ hmc rfl U).mono ?_;rintro e M ⟨v,j,H2,rfl,q,hR⟩;obtain⟨ad',n',L,rfl⟩:=slv hR;obtain rfl:H2=[]:=Hg q.hlen;exact⟨hgr q,.inl ⟨ad',n',L,rfl,x,j,rfl,q,by cases hR with |d _ _ h=>exact h⟩⟩
  |error u=>
   rw[hrr]at Z
   have hu:u=.iface 331 (.agg #[])/\O=s:=by
    unfold a0c at Z;split at Z
    ·rename_i h;cases h
    ·rename_i t cs h;cases h;cases ht:(t==331&&cs.toList.isEmpty)with
     |false=>rw[ht]at Z;cases Z
     |true=>
      rw[ht]at Z;simp only[Du]at ht;obtain rfl:t=331:=by simpa using ht.1
      have :cs= #[]:=by rw[←au (xs:=cs),List.isEmpty_iff.1 ht.2]
      subst this;exact⟨rfl,(Dq Z).symm⟩
    cases Z
   refine(hr.2 u hrr ok [] [] J _ hmc rfl U).mono ?_;rintro e M ⟨j,H2,rfl,q⟩;exact⟨hgr q,.inr ⟨by rw[hu.1],hu.2⟩⟩
 rw[hw1]at Y;refine(ak0 Y (Rv:=fun v M=>∃x j,r=.ok x/\E5 ⟨_,ok,[],[]⟩ j [] [] M/\ES j M (.sl (enc x)) v) (bad:=O=s)).mono ?_;rw[←hw1];rintro e w' ⟨hg,h⟩
 have mk:∀(j:Nat->Prop),(∀b,ok b->j b)->(∀b,j b->ok b\/(w.heap.size<=b/\b<w'.heap.size))->E5 ⟨w,ok,X,[]⟩ j [] [] w':=fun j h1 h2=>
  (hm.change (ok':=j) (H':=[]) (es':=[]) (w':=w') (fun _=>False) hg.os hg.tape hg.output hg.size (fun b z _=>hg.block b z Bh) (fun _ h=>h.elim) h1 h2 (.refl _) rfl (fun k e h he=>by simp at he)).1
 rcases h with⟨v,M,rfl,⟨x,j,hx,q,hD⟩,hg2,hlt,h3⟩|⟨rfl,rfl⟩
 ·rw[hx]at Z;obtain rfl:=Dq Z
  have hgg:Et j M j w':=fun b z=>⟨z,h3.block b (q.kS b z) (fun e=>by
   obtain rfl:=Dq e;rcases q.yZ _ z with h|h|h
   ·have :=hm.kS _ h;omega
   ·simp only at h;omega
   simp at h)⟩
  refine⟨v,j,[],rfl,mk j q.yY (fun b z=>?_),.d _ _ (hD.mono hgg)⟩;rcases q.yZ b z with h|h|h
  ·exact .inl h
  ·simp only at h;exact .inr ⟨AB,Ur (q.kS b z) h3.size⟩
  simp at h
 have hgg:Et ok w ok w':=fun b z=>⟨z,hg.block b (hm.kS b z) Bh⟩
 exact⟨_,ok,[],rfl,mk ok (fun _ h=>h) (fun _ h=>.inl h),a1.mono hgg (.refl _)⟩
end
end Go.Proofs.YtkkdimcnpacjhaaGreat
section
namespace Go.Proofs
open Go.Proofs.YtkkdimcnpacjhaaGreat
open Go.Shelf
def Tryz.Y3:Go.Shelf.Ren:=⟨fun |6=>438|15=>124|14=>442|28=>215|29=>216|20=>443|21=>444|22=>445|23=>446|24=>447|25=>448|26=>449|27=>450|46=>451|47=>307|48=>308|49=>452|50=>453|57=>454|n=>n,fun |22=>358|24=>360|25=>362|3=>3|39=>148|0=>0|53=>212|55=>214|4=>4|46=>206|45=>205|50=>47|5=>5|9=>9|66=>279|70=>283|76=>305|77=>306|n=>n,fun |n=>n⟩
def Tryz.ath:SlLaysF0.n6 Am Tryz.Y3:={
 mixed:=AA
 f6:=⟨Tryz.f438.name,Bj,Tryz.func438.trans (BK some AA)⟩
 f14:=⟨Tryz.f442.name,Bj,Tryz.func442.trans (BK some AA)⟩
 f15:=Tryz.func124.trans (BK some AA)
 f20:=⟨Tryz.f443.name,Bj,Tryz.func443.trans (BK some AA)⟩
 f21:=⟨Tryz.f444.name,Bj,Tryz.func444.trans (BK some AA)⟩
 f22:=⟨Tryz.f445.name,Bj,Tryz.func445.trans (BK some AA)⟩
 f23:=⟨Tryz.f446.name,Bj,Tryz.func446.trans (BK some AA)⟩
 f24:=⟨Tryz.f447.name,Bj,Tryz.func447.trans (BK some AA)⟩
 f25:=⟨Tryz.f448.name,Bj,Tryz.func448.trans (BK some AA)⟩
 f26:=⟨Tryz.f449.name,Bj,Tryz.func449.trans (BK some AA)⟩
 f27:=⟨Tryz.f450.name,Bj,Tryz.func450.trans (BK some AA)⟩
 f28:=Tryz.func215.trans (BK some AA)
 f29:=Tryz.func216.trans (BK some AA)
 f46:=⟨Tryz.f451.name,Bj,Tryz.func451.trans (BK some AA)⟩
 f47:=Tryz.func307.trans (BK some AA)
 f48:=Tryz.func308.trans (BK some AA)
 f49:=⟨Tryz.f452.name,Bj,Tryz.func452.trans (BK some AA)⟩
 f50:=⟨Tryz.f453.name,Bj,Tryz.func453.trans (BK some AA)⟩
 f57:=⟨Tryz.f454.name,Bj,Tryz.func454.trans (BK some AA)⟩
 t0:=aFW
 a0:=Tryz.isAgg0
 z0:=Tryz.sizeOf0
 v0:=aD9
 t3:=GR
 a3:=jC
 z3:=l7
 v3:=nG
 t4:=U6
 a4:=qG
 z4:=qX
 v4:=sV
 t5:=yw
 a5:=oK
 z5:=rJ
 v5:=rC
 t9:=JB
 a9:=yB
 z9:=zo
 v9:=uQ
 t22:=Tryz.underlying358
 a22:=Tryz.isAgg358
 z22:=Tryz.sizeOf358
 v22:=Tryz.zeroValue358
 t25:=Tryz.underlying362
 a25:=Tryz.isAgg362
 z25:=Tryz.sizeOf362
 v25:=Tryz.zeroValue362
 t39:=aEq
 a39:=Tryz.isAgg148
 z39:=a0N
 v39:=aAD
 t45:=Tryz.underlying205
 a45:=Tryz.isAgg205
 z45:=Tryz.sizeOf205
 v45:=Tryz.zeroValue205
 t46:=Tryz.underlying206
 a46:=Tryz.isAgg206
 z46:=Tryz.sizeOf206
 v46:=Tryz.zeroValue206
 t50:=Tryz.underlying47
 a50:=Tryz.isAgg47
 z50:=Tryz.sizeOf47
 v50:=Tryz.zeroValue47
 t53:=aD5
 a53:=Tryz.isAgg212
 z53:=a1a
 v53:=aEF
 t55:=Tryz.underlying214
 a55:=Tryz.isAgg214
 z55:=Tryz.sizeOf214
 v55:=Tryz.zeroValue214
 t66:=Tryz.underlying279
 a66:=Tryz.isAgg279
 z66:=Tryz.sizeOf279
 v66:=Tryz.zeroValue279
 t70:=Tryz.underlying283
 a70:=Tryz.isAgg283
 z70:=Tryz.sizeOf283
 v70:=Tryz.zeroValue283
 t76:=Tryz.underlying305
 a76:=Tryz.isAgg305
 z76:=Tryz.sizeOf305
 v76:=Tryz.zeroValue305
 t77:=Tryz.underlying306
 a77:=Tryz.isAgg306
 z77:=Tryz.sizeOf306
 v77:=Tryz.zeroValue306 }
end Go.Proofs
end
namespace Go.Proofs.YtkkdimcnpacjhaaGreat
open Go.Proofs.Tryz
section
open Go.RowKit Go.Sort
section
variable {α:Type}
def bU (le:α->α->AZ) (x:α):A8 α->A8 α
 | []=>[x]
 |y::l=>bif le x y then x::y::l else y::bU le x l
def MZ (le:α->α->AZ) (l:A8 α):A8 α:=l.foldr (bU le) []
def aK7 (le:α->α->AZ) (x:α):∀l,(bU le x l).Perm (x::l)
 | []=>.refl _
 |y::l=>by
  unfold bU;cases h:le x y with
  |true=>exact .refl _
  |false=>exact((aK7 le x l).cons y).trans (.swap x y l)
def V4 (le:α->α->AZ):∀l,(MZ le l).Perm l
 | []=>.refl _
 |x::l=>(aK7 le x (MZ le l)).trans ((V4 le l).cons x)
def aT8 {le:α->α->AZ} (ht:∀x y z,le x y=true->le y z=true->le x z=true) (u:∀x y,le x y=false->le y x=true) (x:α):∀l,l.Pairwise (fun a b=>le a b=true)->(bU le x l).Pairwise (fun a b=>le a b=true)
 | [],_=>by simp[bU]
 |y::l,h=>by
  have h':=Pj.1 h;unfold bU;cases q:le x y with
  |true=>
   refine Pj.2 ⟨fun z j=>?_,h⟩;rcases FK.1 j with rfl|j
   ·exact q
   exact ht x y z q (h'.1 z j)
  |false=>
   refine Pj.2 ⟨fun z j=>?_,aT8 ht u x l h'.2⟩;rcases FK.1 ((aK7 le x l).mem_iff.1 j)with rfl|j
   ·exact u _ _ q
   exact h'.1 z j
def aAG {le:α->α->AZ} (ht:∀x y z,le x y=true->le y z=true->le x z=true) (j:∀x y,le x y=false->le y x=true):∀l:A8 α,(MZ le l).Pairwise (fun a b=>le a b=true)
 | []=>.nil
 |x::l=>aT8 ht j x _ (aAG ht j l)
def aQO {le:α->α->AZ} (ht:∀x y z,le x y=true->le y z=true->le x z=true) (j:∀x y,le x y=false->le y x=true) (ha:∀x y,le x y=true->le y x=true->x=y) {l m:A8 α} (hp:m.Perm l) (hs:m.Pairwise (fun a b=>le a b=true)):m=MZ le l:=
 (hp.trans (V4 le l).symm).eq_of_pairwise (fun a b _ _ q u=>ha a b q u) hs (aAG ht j l)
def aIT {e:α->D} {enc:α->A8 Au} (j:∀x,(e x).cells=(enc x).map .lit):∀l:A8 α,flat (l.map e)=(l.flatMap enc).map fun v=>.d (.lit v)
 | []=>rfl
 |x::l=>by rw[JR,Y0,aIT j l,j,OD,LP,Yx];rfl
def wo {enc:α->A8 Au} {k:Nat} (j:∀x,(enc x).length=k):∀l:A8 α,(l.flatMap enc).length=l.length*k
 | []=>Bh
 |x::l=>by rw[OD,En,j,wo j l,HY,ku,Nat.one_mul,YE]
def aPn {e:α->D} {enc:α->A8 Au} {k:Nat} (u:∀x,(e x).cells=(enc x).map .lit) (L:∀x,(enc x).length=k) (Y:∀x,∀v∈enc x,v.oneCell'=true) {ok:Nat->Prop} {w:BU} {H:A8 CP} {h:CP} {T:CG} {l:A8 α}:
 FY ok w H h (.arr T k (l.map e))↔h.size=k/\oq w T k h.v l.length (l.flatMap enc):=by
 have hl:=wo L l;constructor
 ·rintro⟨z,_,xs,q,I,M⟩;refine⟨z,?_⟩;rw[Dc]at q
  have :xs=l.flatMap enc:=by
   rw[aIT u]at I M;rw[Dc]at I;refine wG I fun i hi O=>?_;have U:=(M i aCe).2;simp only[List.getD,Jg,EL O,JQ,Oq,EL hi]at U;cases U with |d _ _ h=>rw[ES.ahT h]
  rw[←this];exact q
 rintro⟨z,q⟩;refine⟨z,fun x J=>?_,l.flatMap enc,by rw[Dc];exact q,?_⟩
 ·obtain⟨n,_,rfl⟩:=Fh.1 J;rw[u,Dc,L]
 rw[aIT u];refine⟨Bh,fun i hi=>?_⟩;have j:i<(l.flatMap enc).length:=Gs
 simp only[List.getD,Jg,EL j,JQ,Oq];refine⟨?_,.d _ _ (.lit _)⟩;obtain⟨x,_,J⟩:=Vy.1 (Ew j);exact Y x _ J
def aU9 {j:C9 Au} (hs:j.size=2):j= #[j.getD 0 undef,j.getD 1 undef]:=by
 refine iH (by simp[hs]) fun i u q=>?_;simp at q;have :i=0\/i=1:=AB
 rcases this with rfl|rfl<;>simp[Array.getD,hs]
def Ed.aBC {P:Ce} {f g:FuncId} {T:CG} {k:Nat} {e:α->D} {enc:α->A8 Au} (L:∀x,(e x).cells=(enc x).map .lit) (hk:∀x,(enc x).length=k) (h1:∀x,∀v∈enc x,v.oneCell'=true) {l r:A8 α}
 (h:∀(v:Au) (w:BU),oq w T k v l.length (l.flatMap enc)->Calls P f #[v,.func (.func g) #[] #[]] w fun x w'=>x=.returned (.tuple #[])/\oq w' T k v r.length (r.flatMap enc)/\Turns v w w'):
 Ed P f [.aO 0,.d (.fn (.func g) [] [])] [.arr T k (l.map e)] (.fC []) [.arr T k (r.map e)]:=by
 intro ok X H w I hm hs ha;have h0:=ha 0 Bh;have M:=ha 1 Bh;rw[aU9 hs];obtain⟨hd,Z,hok⟩:=Hl hm.ent hm.hlen (k:=0) rfl;obtain hv:=QU h0 Z
 have hf:I.getD 1 undef=.func (.func g) #[] #[]:=by
  simp only[List.getD,aC2,aGk,Oq]at M;generalize I.getD 1 undef=u at M;cases M with
  |d _ _ M=>
   cases M with
   |fn _ _ _ vs us hl hm'=>
    have e1:vs= #[]:=WT NG;have e2:us= #[]:=WT (by simpa using hm');rw[e1,e2]
 rw[hv,hf];obtain⟨hz,how⟩:=(aPn L hk h1).1 hok;refine(h hd.v w how).mono ?_;rintro x w' ⟨rfl,O,ht⟩;have z:=fun b U=>hm.blk 0 _ hd b rfl rfl Z U
 have hg:=hm.change (ok':=ok) (H':=H) (w':=w') (es':=[.arr T k (r.map e)]) (fun c=>EK hd.v=some c) ht.os ht.tape ht.output ht.size ht.block (fun c L _=>⟨(z c L).1,(z c L).2.2⟩) (fun _ h=>h) (fun _ h=>.inl h) (.refl _) hm.hlen (by
  intro j e' h' q Y
  match j,q with
  |0,q=>
   simp at q;subst q;rw[Z]at Y;obtain rfl:=Dq Y;refine .inr ⟨(aPn L hk h1).2 ⟨hz,O⟩,fun _ b U=>⟨(z b U).1,Ur (z b U).2.1 ht.size,(z b U).2.2,fun k' e'' h'' hne J=>?_⟩⟩
   match k',J with
   |0,_=>exact absurd rfl hne
   |k'+1,J=>simp at J
  |k+1,q=>simp at q)
 exact⟨_,ok,H,rfl,hg.1,.fC [] #[] rfl (fun i hi=>PV)⟩
end
section
variable {α:Type} [Inhabited α]
def aB1 {enc:α->A8 Au} {k:Nat} (j:∀x,(enc x).length=k) (l:A8 α):(flatK enc k l.toArray).toList=l.flatMap enc:=by
 have key:∀(l:A8 α) (t:Nat),t<l.length*k->(enc (l[t/k]?.getD default))[t % k]? =(l.flatMap enc)[t]? :=by
  intro l
  induction l with
  |nil=>intro t ht;simp at ht
  |cons x l z=>
   intro t ht;rw[HY,ku,Nat.one_mul]at ht;rw[OD];by_cases h:t<k
   ·rw[Nat.div_eq_of_lt h,Nat.mod_eq_of_lt h,Hu (by rw[j];exact h)];rfl
   have h':k<=t:=VU h;rcases XP k with q|q
   ·subst q;simp at ht
   have I:t/k=(t-k)/k+1:=Nat.div_eq_sub_div q h';rw[I,Nat.mod_eq_sub_mod h',Kt (by rw[j];exact h'),j,←z (t-k) AB,aC2]
 refine wG (by simp[wo j]) fun t J L=>?_;have ht:t<l.length*k:=SS
 have :=key l t ht;rw[EL L]at this;have u:=get_flatK enc k l.toArray t aBl;rw[Y1 _ _ aBl]at u;rw[Array.getElem_toList,u];have M:(l.toArray)[t/k]! =l[t/k]?.getD default:=Bh
 rw[M];simp[List.getElem!_eq_getElem?_getD,this]
end
def KA (a b:Int):Int:=if a<b then -1 else if a>b then 1 else 0
def ZR (p q:Int×Int×Int):Int:=if p.2.1=q.2.1 then(if p.2.2=q.2.2 then KA p.1 q.1 else KA p.2.2 q.2.2)else KA q.2.1 p.2.1
def vH (a b:Int):KA a b<0↔a<b:=by
 unfold KA;split
 ·omega
 split<;>omega
def akm (p q:Int×Int×Int):ZR p q<0↔q.2.1<p.2.1\/p.2.1=q.2.1/\(p.2.2<q.2.2\/p.2.2=q.2.2/\p.1<q.1):=by
 unfold ZR;split
 ·split
  ·rw[vH];omega
  rw[vH];omega
 rw[vH];omega
def agu (a b:Int) (W:BU):Calls Am 440 #[.int .i64 a,.int .i64 b] W fun e w'=>e=.returned (.int .i64 (KA a b))/\w'=W:=by
 unfold KA
 go_enter func440,Tryz.ntmps440
 go_wp2
 all_goals (go_ret;exact⟨rfl,rfl⟩)
set_option maxHeartbeats 1000000 in
def ae7 (r p1 p2 p3 q1 q2 q3:Int) (hr:r=if p2=q2 then(if p3=q3 then KA p1 q1 else KA p3 q3)else KA q2 p2) (W:BU):Calls Am 439 #[.agg #[.int .i64 p1,.int .i64 p2,.int .i64 p3],.agg #[.int .i64 q1,.int .i64 q2,.int .i64 q3]] W fun e w'=>e=.returned (.int .i64 r)/\∃q u,w'=grow (W.drewN q) u:=by
 have j:=agu;generalize KA=c at j hr;have z:p2≠q2->c q2 p2=r:=fun h=>by rw[hr,Dp h]
 have I:p2=q2->p3≠q3->c p3 q3=r:=fun h k=>by rw[hr,Di h,Dp k]
 have J:p2=q2->p3=q3->c p1 q1=r:=fun h k=>by rw[hr,Di h,Di k]
 clear hr
 go_enter func439,Tryz.ntmps439
 go_wp2_with (go_at_call 440;refine(j _ _ _).mono ?_;rintro e w' ⟨rfl,rfl⟩)
 all_goals go_ret
 ·rename_i h;rw[z KY];exact⟨rfl,0,_,aJA⟩
 ·rename_i h k;rw[I KY (by simpa using k)];exact⟨rfl,0,_,aJA⟩
 rename_i h k;rw[J KY (by simpa using k)];exact⟨rfl,0,_,aJA⟩
def Le (p q:Int×Int×Int):AZ:= !decide (ZR q p<0)
def zY (p q:Int×Int×Int):Le p q=true↔¬(p.2.1<q.2.1\/q.2.1=p.2.1/\(q.2.2<p.2.2\/q.2.2=p.2.2/\q.1<p.1)):=by
 unfold Le;rw[ND,Qv,akm]
def aOA (x y z:Int×Int×Int) (h:Le x y=true) (k:Le y z=true):Le x z=true:=by
 rw[zY]at *;omega
def aUH (x y:Int×Int×Int) (h:Le x y=false):Le y x=true:=by
 have h:¬Le x y=true:=by rw[h];decide
 rw[zY]at *;omega
def aVP (x y:Int×Int×Int) (h:Le x y=true) (k:Le y x=true):x=y:=by
 rw[zY]at *;obtain⟨j,q,u⟩:=x;obtain⟨z,I,J⟩:=y;simp only[RV]at *;omega
def aOQ (p q:Int×Int×Int):Le p q=false↔(p.2.1<q.2.1\/q.2.1=p.2.1/\(q.2.2<p.2.2\/q.2.2=p.2.2/\q.1<p.1)):=by
 rw[←Pm,zY,Decidable.not_not]
def aeB (x y z:Int×Int×Int) (h:Le y x=false) (k:Le z y=false):Le z x=false:=by
 rw[aOQ]at *;omega
section
variable {α:Type}
def aBr (f:α->Int×Int×Int) (l:A8 α):AL (A8 α):=if l.length<=1099511627776 then some (MZ (fun x y=>Le (f x) (f y)) l)else none
def Q5 (f:α->Int×Int×Int) (x:α):A8 Au:=[.int .i64 (f x).1,.int .i64 (f x).2.1,.int .i64 (f x).2.2]
def afh (f:α->Int×Int×Int) (x:α):(Q5 f x).length=3:=rfl
def aVl (f:α->Int×Int×Int) (x:α):∀v∈Q5 f x,v.oneCell'=true:=fun v j=>by
 simp[Q5]at j;rcases j with rfl|rfl|rfl<;>rfl
def a0L (f:α->Int×Int×Int) (x y:α):ltOf (fun x y=>ZR (f x) (f y)) x y= !Le (f y) (f x):=by simp[ltOf,Le]
def abH (f:α->Int×Int×Int):SWO (ltOf fun x y:α=>ZR (f x) (f y)):=by
 refine⟨fun x=>?_,fun x y z h k=>?_,fun x y z h k=>?_⟩
 ·rw[a0L,(zY (f x) (f x)).2 AB];rfl
 ·rw[a0L,ND]at *;exact aeB _ _ _ h k
 rw[a0L,Bool.not_eq_false']at *;exact aOA _ _ _ k h
variable [Inhabited α]
def aix (f:α->Int×Int×Int) (blk off size:Nat) (w:BU):CmpLays Am 439 #[] (Q5 f) 3 (fun x y=>ZR (f x) (f y)) blk off size w:=
 fun m os j _ x y=>ae7 (ZR (f x) (f y)) (f x).1 (f x).2.1 (f x).2.2 (f y).1 (f y).2.1 (f y).2.2 rfl (sortWorldK (Q5 f) 3 w blk off m j os)
set_option maxHeartbeats 2000000 in
def ato (f:α->Int×Int×Int) (hf:∀x y,f x=f y->x=y) (e:α->D) (he:∀x,e x=.agg [Ae (f x).1,Ae (f x).2.1,Ae (f x).2.2]) (l r:A8 α) (h:aBr f l=some r):
 BA 438 [.aO 0,.d (.fn (.func 439) [] [])] [.arr 360 3 (l.map e)] (.fC []) [.arr 360 3 (r.map e)]:=by
 unfold aBr at h;split at h
 ·rename_i hn;obtain rfl:=Dq h;have U:=afh f;refine Ed.aBC (enc:=Q5 f) (fun x=>by rw[he];rfl) U (aVl f) fun v w how=>?_;generalize hr:MZ (fun x y=>Le (f x) (f y)) l=r;have I:r.length=l.length:=by rw[←hr];exact(V4 _ l).length_eq
  rcases how.2 with⟨rfl,h0⟩|⟨g,cap,cur,rfl,hbase,hg,hnc,hcm,hcs,J⟩
  ·have hl:l=[]:=Hg h0;have hl':r=[]:=Hg (by rw[I,h0]);subst hl;subst hl';refine(AnyF.slices_SortFunc_none (P:=Am) (ρ:=Tryz.Y3) { Tryz.ath with } none 0 _ w).mono ?_;rintro e w' ⟨rfl,h⟩;subst h;exact⟨rfl,oq.nil _ _ _,Turns.refl _ _⟩
  have Y:g<w.heap.size:=(H6.1 hg).1;have q:=aB1 (enc:=Q5 f) U l
  have hH:HoldsK (Q5 f) 3 w g 0 l.toArray:=by
   unfold HoldsK;have L:(flatK (Q5 f) 3 l.toArray).size=l.length*3:=Bh
   generalize flatK (Q5 f) 3 l.toArray=F at q L;intro j M;refine⟨?_,by simp[World.frozen?,hg]⟩;have e0:(cur.toList.take (l.length*3))[j]? =(l.flatMap (Q5 f))[j]? :=by rw[J]
   rw[NC AB,←q]at e0;simp only[World.cell?,hg,Kz];simp only[Option.isSome_none,Qq,KP];rw[←Wy,e0,Wy,Y1 F j M,nO M];rfl
  have eg:∀args w,(callFunc 439 args).run Am w=.ok (.enter 439 args) w:=enters_of func439 AA rfl;have :=AnyQ.slices_SortFunc (P:=Am) (ρ:=Tryz.Y3) Tryz.ath 3 Tryz.isAgg360 Tryz.sizeOf360 (Q5 f) U (aVl f) (fun x y=>ZR (f x) (f y)) (abH f) 439 #[] g 0 cap l.toArray w eg (aix f _ _ _ _) hH Y EW;refine this.mono ?_;rintro e' w' ⟨rfl,O,n,os,hp,hs,rfl⟩;obtain⟨Z,_,u⟩:=hp;have hsz':O.size=l.length:=by simpa using Z
  have e1:O.extract 0 l.toArray.size=O:=by rw[←Z];exact a1g
  rw[e1,a1g]at u
  have hm:O.toList=r:=by
   rw[←hr];refine aQO (le:=fun x y=>Le (f x) (f y)) (fun x y z=>aOA (f x) (f y) (f z)) (fun x y=>aUH (f x) (f y)) (fun x y h k=>hf _ _ (aVP (f x) (f y) h k)) u ?_;refine KC.2 fun i j hi M hij=>?_;have :=hs i j (Ea _) hij (by simpa[hsz']using M);rw[a0L,Y1 O i Gs,Y1 O j (by simpa using M)]at this;simpa using this
  obtain rfl:O=r.toArray:=by rw[←hm]
  have hF:=aB1 (enc:=Q5 f) U r;have L:(flatK (Q5 f) 3 r.toArray).size=l.length*3:=by simp[I]
  generalize hFF:flatK (Q5 f) 3 r.toArray=F at hF L;refine⟨rfl,⟨by rw[wo U],.inr ⟨g,cap,putCells id 0 F cur,by rw[I],Ea _,?_,AB,hcm,by simpa[putCells]using hcs,?_⟩⟩,⟨rfl,rfl,rfl,by simp[sortWorldK,putRowK],fun c hc hne=>?_⟩⟩
  ·unfold sortWorldK putRowK;rw[hFF,heap_grow_old _ _ Vj];simp[putRow,mapBlock,Sort.ahead,P8,hg,onCells]
  ·rw[←hF,I];apply kN;intro j;by_cases M:j<l.length*3
   ·have hjc:j<cur.size:=by have :=MB 3 hnc;omega
    rw[NC M,Wy,Wy];have hjF:j<F.size:=AB
    simp[putCells,hjF,hjc]
   rw[aUO AB,J5 EW]
  unfold sortWorldK putRowK;rw[heap_grow_old _ _ (by simpa using hc)];have :g≠c:=fun e=>hne (by rw[e];rfl);simp[putRow,mapBlock,Sort.ahead,P8,this]
 cases h
end
end
end Go.Proofs.YtkkdimcnpacjhaaGreat
