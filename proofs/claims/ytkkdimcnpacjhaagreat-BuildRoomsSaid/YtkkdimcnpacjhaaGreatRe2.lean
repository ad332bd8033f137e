/- Part 2 of the laws' proofs (short forms by wip/shrink2.py). -/
import Derived.Test.YtkkdimcnpacjhaaGreatRe1
set_option linter.defProp false
set_option linter.unnecessarySimpa false
set_option linter.unusedSectionVars false
set_option linter.unusedVariables false
set_option linter.unusedSimpArgs false
namespace Go.Proofs.YtkkdimcnpacjhaaGreat
open Go.RowKit Go.Proofs.Tryz
section
def Ai.UQ (k:Nat) (cs:A8 D):Ai->Ai
 | .ptr j off=>if j=k then .d (.ref cs off)else .ptr j off
 |x=>x
def BR.UQ (σ:BR) (k:Nat) (cs:A8 D):BR:=⟨σ.slots.map (Ai.UQ k cs),σ.ents.set k .dead,σ.base⟩
def VK {σ:BR} (k:Nat) {cs:A8 Ai} (hk:σ.ents[k]? =some (.box cs)) (hd:cs.all Ai.BJ=true):∀C ok H a w,Holds C ok H σ a w->∃ok',Holds C ok' H (σ.UQ k (JQ cs)) a w:=by
 intro C ok H a w q;obtain⟨h,O,hok⟩:=H8 q.mem.ent q.mem.hlen hk;have I:k<σ.ents.length:=(Fv.1 hk).1;obtain⟨b0,U,hf,hx,hc⟩:=aHA hok hd
 let ok':Nat->Prop:=fun b=>ok b\/EF h.v=some b
 have M:=fun b u=>q.mem.blk k _ h b hk rfl O u;have hg:Ep ok w ok' w:=fun b u=>⟨.inl u,rfl⟩
 refine⟨ok',⟨q.mem.fr,fun b u=>.inl (q.mem.yF b u),?_,?_,q.mem.names,by simp[BR.UQ,q.mem.hlen],?_,?_,?_⟩,by simp[BR.UQ,q.size],q.defers.mono hg,q.base,?_⟩
 ·rintro b (u|u)
  ·exact q.mem.yG b u
  exact .inr (M b u).2.2
 ·rintro b (u|u)
  ·exact q.mem.kM b u
  exact(M b u).2.1
 ·intro j e' h' he J;rcases MI I he with⟨rfl,rfl⟩|⟨_,L⟩
  ·trivial
  exact(q.mem.ent j e' h' L J).mono hg (.refl _) (fun _ _ _=>rfl)
 ·intro j e' h' b he hl J u;rcases MI I he with⟨rfl,rfl⟩|⟨hne,L⟩
  ·cases hl
  have h3:=q.mem.blk j e' h' b L hl J u;refine⟨fun z=>?_,h3.2⟩;rcases z with z|z
  ·exact h3.1 z
  exact hne (q.mem.Ef j k e' _ h' h b L hk hl rfl J O u z)
 ·intro i j e1 e2 h1 h2 b he1 he2 Y Z hh1 hh2 hb1 hb2;rcases MI I he1 with⟨rfl,rfl⟩|⟨_,as8⟩
  ·cases Y
  rcases MI I he2 with⟨rfl,rfl⟩|⟨_,amn⟩
  ·cases Z
  exact q.mem.Ef i j e1 e2 h1 h2 b as8 amn Y Z hh1 hh2 hb1 hb2
 intro t ht;simp only[BR.UQ,DY]at ht
 have e1:(σ.UQ k (JQ cs)).slots.getD t .junk=(σ.slots.getD t .junk).UQ k (JQ cs):=by
  simp only[BR.UQ];exact S9 _ _ _ ht
 rw[e1];have hR:=(q.slot t ht).mono hg (bD H);generalize σ.slots.getD t .junk=x at hR ⊢;generalize a.tmps.getD t undef=v at hR ⊢;cases x with
 |ptr j off=>
  simp only[Ai.UQ];split
  ·rename_i hj;subst hj;cases hR with
   |ptr _ _ b s hH=>
    rw[O]at hH;obtain rfl:=Dh hH;simp at U;subst U;have :=EU.ref (ok:=ok') (w:=w) (JQ cs) off b 0 (fun _=>.inr rfl) hf hx (fun j hj=>(hc j hj).mono hg);rw[J3]at this;exact .d _ _ this
  exact hR
 |_=>exact hR
section
variable {P:Cm} {o:Oper} {es:A8 Bf} {α β γ:Type}
def Sim {ok:Nat->Prop} {w:Bc} {H:A8 CP} {a:Act}:∀{xs:A8 CM} {vs:A8 Ai},xs.length=vs.length->(∀n∈Fq xs vs,R ok w H n.2 (a.eval n.1))->∀i,i<vs.length->R ok w H (vs.getD i .junk) ((xs.map a.eval).getD i undef)
 | [],[],_,_,i,hi=>PY
 | [],_::_,h,_,_,_=>J8
 |_::_,[],h,_,_,_=>J8
 |x::xs,v::vs,h,j,0,_=>by simpa using j (x,v) (by simp[Fq])
 |x::xs,v::vs,h,j,i+1,hi=>by
  have :=Sim KC (fun n q=>j n (by simp[Fq,q])) i Gp;simpa using this
def Xd {fn:Fn} {j:Bh CM} (q:A8 D) (hl:j.toList.length=q.length) (I:o.op=.makeFunc fn #[] j):CS P o (Fq j.toList (q.map .d)) es (.d (.fn fn [] q)) es:=
 .pure fun ok H a w _ _ J=>by
  refine⟨.func fn #[] (j.map a.eval),by simp[execOp,I,Instr.makeFunc],.d _ _ (.fn fn [] q #[] _ rfl NJ (fun i hi=>PY) (fun i hi=>?_))⟩;have z:=Sim (xs:=j.toList) (vs:=q.map .d) NJ J i Gp;have L:(q.map Ai.d).getD i .junk=.d (q.getD i ES):=OC
  have u:i<j.size:=by have :j.size=q.length:=NJ
                      omega
  have M:(j.toList.map a.eval).getD i undef=(j.map a.eval).getD i undef:=by simp[List.getD,Array.getD,u]
  rw[L,M]at z;cases z with |d _ _ h=>exact h
def aS9 {f:FuncId} {C:En} {ok:Nat->Prop} {H:A8 CP} {w:Bc} (hm:Dv C ok H es w) {z:A8 D} {u:Ai} (Z:El P f (z.map .d) [] u []) (q:Bh Aw) (hs:q.size=z.length) (O:∀i,i<z.length->EU ok w (z.getD i ES) (q.getD i undef)) (J:u.up [] es.length=u):
 Calls P f q w fun e w'=>∃v ok' H',e=.returned v/\Ep ok w ok' w'/\Names H H'/\Dv C ok' H' es w'/\R ok' w' H' u v:=by
 have U:Dv ⟨w,ok,[],[]⟩ ok [] [] w:=
  ⟨.refl _ _,fun _ h=>h,fun _ h=>.inl h,hm.kM,.refl _,rfl,fun k e h I _=>by simp at I,fun k e h b I=>by simp at I,fun k k' e e' h h' b I=>by simp at I⟩
 refine(Z ok [] [] w q U sK (fun i hi=>?_)).mono ?_
 ·have L:i<z.length:=Gp
  have e1:(z.map Ai.d).getD i .junk=.d (z.getD i ES):=by simp[List.getD,L]
  rw[e1];exact .d _ _ (O i L)
 rintro e w' ⟨v,ok',H',rfl,j,hR⟩;have Y:H'=[]:=Hw j.hlen
 obtain⟨h1,h2⟩:=hm.change (ok':=ok') (H':=H) (es':=es) (w':=w') (fun _=>False) j.fr.os j.fr.tape j.fr.output j.fr.size (fun b M _=>j.fr.block b M Bj) (fun _ h=>h.elim) j.yF (fun b M=>by
  rcases j.yG b M with h|h|h
  ·exact .inl h
  ·exact .inr ⟨h,j.kM b M⟩
  simp at h) (.refl _) hm.hlen (fun k e h I hh=>.inl ⟨I,hh,fun _ _ _ h=>h⟩)
 refine⟨v,ok',H,rfl,h2,.refl _,h1,?_⟩;have :=aTs (srcs:=[]) (H:=H) (Hc:=[]) (H':=H') rfl (fun i k h=>J8) (fun k v O=>by simp at O) hR;rw[hm.hlen,J,Y]at this;simpa using this
def aVA {f:FuncId} {x:CM} {ops:Bh CM} {ats:Bh CO} (j cs:A8 D) {q:Ai} (hr:El P f ((j++cs).map .d) [] q []) (hf:Hg P f=true) (hl:ops.toList.length=j.length) (J:q.up [] es.length=q)
 (ho:o.op=.call { callee:=.value x,args:=ops,argTypes:=ats }):CS P o ((x,.d (.fn (.func f) [] cs))::Fq ops.toList (j.map .d)) es q es:=by
 intro C ok H a w Q hm hn;have O:=hn (x,.d (.fn (.func f) [] cs)) Bj;simp only at O;have z:=Sim (xs:=ops.toList) (vs:=j.map .d) NJ (fun n U=>hn n (Gv _ U));generalize hv:a.eval x=v at O;cases O with
 |d _ _ h=>
  cases h with
  |fn _ _ _ vs us Y Z h1 h2=>
   have hvs:vs= #[]:=XY WJ;subst hvs;unfold Oper.wp
   have he:(execOp a.eval o).run P w=.ok (.enter f ((ops.map a.eval)++us)) w:=by
    have :=U2 hf (ops.map a.eval++us) w;simp[execOp,ho,resolve,hv,Deferred.ofValue,invoke,this]
   rw[he,Zt];have L:(ops.map a.eval).size=j.length:=NJ
   refine(aS9 hm hr _ (by simp[L,Z]) (fun i hi=>?_) J).mono ?_
   ·by_cases u:i<j.length
    ·have M:=z i Vh;have e1:(j.map Ai.d).getD i .junk=.d (j.getD i ES):=aKk
     have I:i<ops.size:=aQq
     have e2:(ops.toList.map a.eval).getD i undef=(ops.map a.eval++us).getD i undef:=by
      simp[List.getD,Io,Yu,I]
     have e3:(j++cs).getD i ES=j.getD i ES:=by simp[List.getD,Hf u]
     rw[e1,e2]at M;rw[e3];cases M with |d _ _ h=>exact h
    have I:i-j.length<cs.length:=aKi
    have e3:(j++cs).getD i ES=cs.getD (i-j.length) ES:=by simp[List.getD,KX (X7 u)]
    have e4:(ops.map a.eval++us).getD i undef=us.getD (i-j.length) undef:=by
     simp only[Io];rw[aLP AB,L]
    rw[e3,e4];exact h2 _ I
   rintro e w' ⟨v,ok',H',rfl,M,h4,h5,h6⟩;exact⟨v,ok',H',rfl,M,h4,h5,h6⟩
def Tn (P:Cm) (j:α->D) (q:β->D) (d:D) (g:α->AO β):Prop:=∃f cs,d=.fn (.func f) [] cs/\Hg P f=true/\∀a b,g a=some b->El P f (([j a]++cs).map .d) [] (.d (q b)) []
def XT (P:Cm) (j:α->D) (q:β->D) (u:γ->D) (d:D) (g:α->β->AO γ):Prop:=∃f cs,d=.fn (.func f) [] cs/\Hg P f=true/\∀a b c,g a b=some c->El P f (([j a,q b]++cs).map .d) [] (.d (u c)) []
def qN {x y:CM} {ats:Bh CO} {j:α->D} {q:β->D} {d:D} {g:α->AO β} {a:α} {b:β} (hd:Tn P j q d g) (h:g a=some b) (u:o.op=.call { callee:=.value x,args:= #[y],argTypes:=ats }):
 CS P o [(x,.d d),(y,.d (j a))] es (.d (q b)) es:=by
 obtain⟨f,cs,rfl,z,I⟩:=hd;exact aVA [j a] cs (I a b h) z rfl rfl u
def Ye {x y z:CM} {ats:Bh CO} {j:α->D} {q:β->D} {u:γ->D} {d:D} {g:α->β->AO γ} {a:α} {b:β} {c:γ} (hd:XT P j q u d g) (h:g a b=some c) (I:o.op=.call { callee:=.value x,args:= #[y,z],argTypes:=ats }):
 CS P o [(x,.d d),(y,.d (j a)),(z,.d (q b))] es (.d (u c)) es:=by
 obtain⟨f,cs,rfl,J,L⟩:=hd;exact aVA [j a,q b] cs (L a b c h) J rfl rfl I
end
section
variable {P:Cm} {o:Oper} {es:A8 Bf}
def aAd {ns:A8 (CM×Ai)} {v:Ai} {es':A8 Bf} (e:CO) (size:Nat) (h:CS P o ((.const (.slice none 0 0),.aO es.length)::ns) (es++[.arr e size []]) v es'):CS P o ns es v es':=by
 intro C ok H a w Q hm z;obtain⟨I,J⟩:=aIX hm e size;refine Oper.wp_mono ?_ (h C ok _ a w Q I (fun n j=>?_))
 ·rintro a' w' ⟨v',ok',H',L,M,q,u,O⟩;exact⟨v',ok',H',L,M,(Ht _ _).trans q,u,O⟩
 rcases F5.1 j with rfl|j
 ·exact J
 exact(z n j).mono (.refl _ _) (Ht _ _)
def R.aia {ok:Nat->Prop} {w:Bc} {H:A8 CP} {us:A8 Aw} {v:Aw} (h:R ok w H (.d (.agg (us.map .lit))) v):v=.agg us.toArray:=by
 cases h with
 |d _ _ h=>
  cases h with
  |agg _ vs hl _ h=>
   congr 1;apply Z4
   ·simpa using hl
   intro i z L;have hi:i<(us.map D.lit).length:=AB
   have j:=h i hi;have q:i<us.length:=Gp
   have I:(us.map D.lit).getD i ES=.lit (us[i]):=by simp[List.getD,q]
   have J:vs.getD i undef=vs[i]:=by simp[Array.getD,z]
   rw[I,J]at j;generalize vs[i]=u at j;cases j;simp
structure kH (P:Program) (n:Nat) (t:TypeId) (us vs:List Value) (b:Bool):Prop where
 run:∀(d:Nat) (w:World),(Op.equalIn (d+n) t (.agg us.toArray) (.agg vs.toArray)).run P w=.ok b w
def Nc {t:CO} {cs:Bh Aw} {off:Nat} {v:Aw} {size:Nat} (j:Ee P t false size) (h:cs[off]? =some v) (w:Bc):(part t cs off).run P w=.ok v w:=by
 simp[part,j.agg,h]
def Wu (d:Nat) (xs ys:Bh Aw):A8 (CO×Nat)->Sem Ad
 | []=>pure true
 |f::j=>do
  let a ←part f.1 xs f.2
  let b ←part f.1 ys f.2
  let r ←Op.equalIn d f.1 a b
  if(!r)=true then pure false else Wu d xs ys j
def aSf (d:Nat) (xs ys:Bh Aw):∀(j:A8 Field),j.all (fun f=>f.name != "_")=true->Op.eqFields d xs ys j=Wu d xs ys (j.map fun f=>(f.type,f.offset))
 | [],_=>rfl
 |f::j,h=>by
  simp only[pX,Df,Uc,ne_eq]at h;simp only[Op.eqFields,JJ,Wu,ne_eq,h.1,not_false_eq_true,Jr,aSf d xs ys j h.2]
def aA6 {d:Nat} {t:CO} {xs ys:Bh Aw} {l:A8 (CO×Nat)} {b:Ad} {w:Bc} (ht:P.underlying t=some (.struct (P.fieldsOf t))) (hp:P.stoodInHeld t=false) (j:(P.fieldsOf t).toList.all (fun f=>f.name != "_")=true)
 (hl:(P.fieldsOf t).toList.map (fun f=>(f.type,f.offset))=l) (h:(Wu d xs ys l).run P w=.ok b w):(Op.equalIn (d+1) t (.agg xs) (.agg ys)).run P w=.ok b w:=by
 rw[run_equalIn_struct w d t xs ys ht hp,aSf _ _ _ _ j,hl,h]
def aBm (d:Nat) (xs ys:Bh Aw) (w:Bc):(Wu d xs ys []).run P w=.ok true w:=by simp[Wu]
def XF {d:Nat} {xs ys:Bh Aw} {t:CO} {off:Nat} {j:A8 (CO×Nat)} {a b:Aw} {r rs:Ad} {w:Bc} (ha:(part t xs off).run P w=.ok a w) (q:(part t ys off).run P w=.ok b w)
 (u:(Op.equalIn d t a b).run P w=.ok r w) (hs:(Wu d xs ys j).run P w=.ok rs w):(Wu d xs ys ((t,off)::j)).run P w=.ok (r&&rs) w:=by
 unfold Wu;simp only[Fl,ha,q,u,G8];cases r<;>simp[hs]
def abJ {t t':CO} {x y:CM} {n:Nat} (us vs:A8 Aw) {b:Ad} (h:kH P n t us vs b) (hd:n<=10000) (I:P.eqGuardType P.depth t=false) (J:o.op=.binOp .eql t x y t'):
 CS P o [(x,.d (.agg (us.map .lit))),(y,.d (.agg (vs.map .lit)))] es (.d (Ea b)) es:=
 .pure fun _ _ a w _ _ q=>⟨.bool b,by
  have u:=(FK q).1.aia;have z:=(FK q).2.aia;simp only at u z;have j:(eqGuard .eql t x y (.agg us.toArray) (.agg vs.toArray)).run P w=.ok () w:=by simp[eqGuard,I]
  simp only[execOp,J,u,z,Fl,j,G8,Gw,run_eql_struct,(by have :=h.run (10000-n) w;rwa [Nat.sub_add_cancel hd]at this:(Op.equalIn 10000 t (.agg us.toArray) (.agg vs.toArray)).run P w=.ok b w)],.d _ _ (.lit _)⟩
def aIJ {t t':CO} {x y:CM} {n:Nat} (us vs:A8 Aw) {b:Ad} (h:kH P n t us vs b) (hd:n<=10000) (I:P.eqGuardType P.depth t=false) (J:o.op=.binOp .neq t x y t'):
 CS P o [(x,.d (.agg (us.map .lit))),(y,.d (.agg (vs.map .lit)))] es (.d (Ea (!b))) es:=
 .pure fun _ _ a w _ _ q=>⟨.bool (!b),by
  have u:=(FK q).1.aia;have z:=(FK q).2.aia;simp only at u z;have j:(eqGuard .neq t x y (.agg us.toArray) (.agg vs.toArray)).run P w=.ok () w:=by simp[eqGuard,I]
  simp only[execOp,J,u,z,Fl,j,G8,Gw,run_neq_struct,(by have :=h.run (10000-n) w;rwa [Nat.sub_add_cancel hd]at this:(Op.equalIn 10000 t (.agg us.toArray) (.agg vs.toArray)).run P w=.ok b w)],.d _ _ (.lit _)⟩
def QG (l:A8 Int):BA:=l.foldl (fun r n=>r.push (UInt8.ofNat n.toNat)) ByteArray.empty
def agD {ok:Nat->Prop} {w:Bc} {H:A8 CP} {l:A8 Int} {j:A8 Aw} (h:Fg ok w H (flat (l.map Dp)) j):j=l.map (.int .u8):=by
 rw[a0T]at h;apply sW
 ·simpa using h.1
 intro i z I;have hi:i<(l.map fun n=>Ai.d (Dp n)).length:=Ti
 have u:=(h.2 i hi).2;have q:i<l.length:=Gp
 have J:(l.map fun n=>Ai.d (Dp n)).getD i .junk=.d (Dp l[i]):=by simp[List.getD,q]
 have L:j.getD i undef=j[i]:=by simp[List.getD,z]
 rw[J,L]at u;have :=u.lit;simpa using this
def aax {w:Bc} {v:Aw} {m:Nat} {l:A8 Int} (h:XO w v m 1 (l.map (.int .u8))):(Conv.bytesToString v).run P w=.ok (.string (QG l)) w:=by
 rcases h.at_ with⟨ad,c,rfl,j⟩|⟨c,rfl,hm⟩
 ·refine run_bytesToString w ad m c l ?_;have hl:=h.len;have :=aR1 (P:=P) w ad (l.map (Value.int .u8)) j;rw[DY,dO]at hl;rw[DY,hl]at this;exact this
 have hl:=h.len;rw[hm,aDR,DY]at hl;rw[Hw hl];simp[Conv.bytesToString,QG]
def Value.isSlice:Aw->Ad
 | .slice _ _ _=>true
 |_=>false
def aiM {w:Bc} {v:Aw} {m size:Nat} {j:A8 Aw} (h:XO w v m size j):Value.isSlice v=true:=by
 rcases h.at_ with⟨_,_,rfl,_⟩|⟨_,rfl,_⟩<;>rfl
def adr {s t e:CO} {v:Aw} {w:Bc} {r:BA} (hs:P.underlying s=some (.slice e)) (j:P.underlying e=some (.int .u8)) (ht:P.underlying t=some .string) (q:Value.isSlice v=true)
 (h:(Conv.bytesToString v).run P w=.ok (.string r) w):(convert s t v).run P w=.ok (.string r) w:=by
 cases v<;>simp[Value.isSlice]at q
 simp[convert,underlying,hs,j,ht,h]
def aWh {s t e:CO} {x:CM} {l:A8 Int} (hs:P.underlying s=some (.slice e)) (J:P.underlying e=some (.int .u8)) (ht:P.underlying t=some .string) (L:o.op=.convert s t x):
 CS P o [(x,.d (C9 Dp l))] es (.d (DW (QG l))) es:=
 .pure fun ok H a w _ _ M=>by
  have q:=LP M;simp only at q;generalize O:a.eval x=v at q;refine⟨.string (QG l),?_,.d _ _ (.lit _)⟩;cases q with
  |d _ _ h=>
   obtain⟨I,j,u⟩:=dK H h (size:=1) (fun y U=>by obtain⟨n,_,rfl⟩:=FY.1 U;rfl);obtain rfl:=agD u;have z:=aiM j;simp[execOp,L,O,adr hs J ht z (aax j)]
def QZ {fn:Fn} {firsts j:Bh CM} {fi ca:A8 Ai} (hl:firsts.toList.length=fi.length) (hm:j.toList.length=ca.length) (I:o.op=.makeFunc fn firsts j):
 CS P o (Fq firsts.toList fi++Fq j.toList ca) es (.fn fn fi ca) es:=
 .pure fun ok H a w _ _ q=>by
  have key:∀(xs:Bh CM) (vs:A8 Ai),xs.toList.length=vs.length->(∀n∈Fq xs.toList vs,R ok w H n.2 (a.eval n.1))->∀i,i<vs.length->R ok w H (vs.getD i .junk) ((xs.map a.eval).getD i undef):=by
   intro xs vs hl q i hi;have z:=Sim hl q i hi
   have u:i<xs.size:=by have :xs.size=vs.length:=NJ
                        omega
   have J:(xs.toList.map a.eval).getD i undef=(xs.map a.eval).getD i undef:=by simp[List.getD,Array.getD,u]
   rw[J]at z;exact z
  refine⟨.func fn (firsts.map a.eval) (j.map a.eval),by simp[execOp,I,Instr.makeFunc],.fn fn fi ca _ _ NJ (by simpa using hm) (key _ _ hl fun n h=>q n (by simp[h])) (key _ _ hm fun n h=>q n (by simp[h]))⟩
def aHa :∀{xs:A8 CM} {vs:A8 Ai} {ys:A8 CM} {us:A8 Ai},xs.length=vs.length->Fq (xs++ys) (vs++us)=Fq xs vs++Fq ys us
 | [],[],_,_,_=>rfl
 | [],_::_,_,_,h=>J8
 |_::_,[],_,_,h=>J8
 |x::xs,v::vs,ys,us,h=>by simp[Fq,aHa (xs:=xs) (vs:=vs) KC]
def aMk {ok:Nat->Prop} {w:Bc} {H:A8 CP} {a:Act}:∀{us:A8 Aw} {vs:A8 Ai},us.length=vs.length->(∀i,i<vs.length->R ok w H (vs.getD i .junk) (us.getD i undef))->∀n∈Fq (us.map Operand.const) vs,R ok w H n.2 (a.eval n.1)
 | [],[],_,_,n,j=>by simp[Fq]at j
 | [],_::_,h,_,_,_=>J8
 |_::_,[],h,_,_,_=>J8
 |u::us,v::vs,hl,h,n,j=>by
  simp only[JJ,Fq,F5]at j;rcases j with rfl|j
  ·have :=h 0 Bj;simp at this;exact this
  exact aMk (us:=us) (vs:=vs) NJ (fun i hi=>by simpa using h (i+1) Gp) n j
def aQ3 {f:FuncId} {x:CM} {ops:Bh CM} {ats:Bh CO} (srcs:A8 ET) {fi ca eG fH:A8 Ai} {E E':A8 Bf} {u:Ai} (L:El P f fH E u E') (M:Hg P f=true) (O:SA srcs es E E'=true) (hE:a0D srcs es E)
 (ha:NW srcs (fi++eG++ca) fH) (hl:ops.toList.length=eG.length) (U:o.op=.call { callee:=.value x,args:=ops,argTypes:=ats }):
 CS P o ((x,.fn (.func f) fi ca)::Fq ops.toList eG) es (u.up srcs es.length) (MZ srcs es E'):=by
 intro C ok H a w Q hm J;have I:=J (x,.fn (.func f) fi ca) Bj;simp only at I;generalize Y:a.eval x=v at I;cases I with
 |fn _ _ _ vs us q z Z h2=>
  unfold Oper.wp
  have he:(execOp a.eval o).run P w=.ok (.enter f ((vs++ops.map a.eval)++us)) w:=by
   have :=U2 M (vs++ops.map a.eval++us) w;rw[Array.append_assoc]at this;simp[execOp,U,resolve,Y,Deferred.ofValue,invoke,this]
  rw[he,Zt]
  have e:vs++ops.map a.eval++us=((vs.toList.map Operand.const++ops.toList++us.toList.map Operand.const).map a.eval).toArray:=by
   apply aLb;simp[pz,Act.eval]
  rw[e];have l1:(vs.toList.map Operand.const).length=fi.length:=Np
  refine(aQt hm srcs L O hE ha (by simp at hl;simp[q,z,hl]) (a:=a) ?_).mono ?_
  ·rw[aHa (by simp at hl;simp[q,hl]),aHa l1];intro n j;simp only[Il]at j;rcases j with(j|j)|j
   ·exact aMk Np (fun i hi=>by have :=Z i hi;simpa[List.getD,Io]using this) n j
   ·exact J n (Gv _ j)
   exact aMk MW (fun i hi=>by have :=h2 i hi;simpa[List.getD,Io]using this) n j
  rintro e w' ⟨v,ok',H',rfl,h3,h4,h5,h6⟩;exact⟨v,ok',H',rfl,h3,h4,h5,h6⟩
def R.dfn {ok:Nat->Prop} {w:Bc} {H:A8 CP} {f:Fn} {fi ca:A8 D} {v:Aw} (h:R ok w H (.d (.fn f fi ca)) v):R ok w H (.fn f (fi.map .d) (ca.map .d)) v:=by
 cases h with
 |d _ _ h=>
  cases h with
  |fn _ _ _ vs us u z I J=>
   refine .fn f _ _ vs us Vh MW (fun i hi=>?_) (fun i hi=>?_)
   ·have j:i<fi.length:=Gp
    have q:(fi.map Ai.d).getD i .junk=.d (fi.getD i ES):=by simp[List.getD,j]
    rw[q];exact .d _ _ (I i j)
   have j:i<ca.length:=Gp
   have q:(ca.map Ai.d).getD i .junk=.d (ca.getD i ES):=by simp[List.getD,j]
   rw[q];exact .d _ _ (J i j)
def aZo {f:FuncId} {x:CM} {ops:Bh CM} {ats:Bh CO} (srcs:A8 ET) {fi ca:A8 D} {eG fH:A8 Ai} {E E':A8 Bf} {q:Ai} (z:El P f fH E q E') (I:Hg P f=true) (J:SA srcs es E E'=true) (hE:a0D srcs es E)
 (ha:NW srcs (fi.map .d++eG++ca.map .d) fH) (hl:ops.toList.length=eG.length) (L:o.op=.call { callee:=.value x,args:=ops,argTypes:=ats }):
 CS P o ((x,.d (.fn (.func f) fi ca))::Fq ops.toList eG) es (q.up srcs es.length) (MZ srcs es E'):=by
 intro C ok H a w Q hm u;refine aQ3 (fi:=fi.map .d) (ca:=ca.map .d) srcs z I J hE ha hl L C ok H a w Q hm (fun n j=>?_);rcases F5.1 j with rfl|j
 ·exact R.dfn (u (x,.d (.fn (.func f) fi ca)) Bj)
 exact u n (Gv _ j)
def Ql (S:A8 ET) (es:A8 Bf):A8 ET->A8 Bf->Prop
 |s::srcs,e::E=>(match s with | .ent k=>es[k]? =some (e.up S es.length)| .nil j=>∃t,e=.arr t j [])/\Ql S es srcs E
 | [],_=>True
 |_::_,[]=>False
def PN {S:A8 ET} {es:A8 Bf} {k:Nat} {e:Bf} {srcs:A8 ET} {E:A8 Bf} (h:es[k]? =some (e.up S es.length)) (hs:Ql S es srcs E):Ql S es (.ent k::srcs) (e::E):=⟨h,hs⟩
def aeh {S:A8 ET} {es:A8 Bf} {j t:Nat} {srcs:A8 ET} {E:A8 Bf} (hs:Ql S es srcs E):Ql S es (.nil j::srcs) (.arr t j []::E):=⟨⟨t,rfl⟩,hs⟩
def aUC {S:A8 ET} {es:A8 Bf}:∀{srcs:A8 ET} {E:A8 Bf},Ql S es srcs E->∀(i:Nat) (s:ET),srcs[i]? =some s->match s with | .ent k=>(E[i]?).map (Bf.up S es.length)=es[k]? | .nil j=>∃e,E[i]? =some (.arr e j [])
 | [],_,_,i,s,hs=>by simp at hs
 |_::_,[],h,_,_,_=>h.elim
 |s::srcs,e::E,h,0,q,hs=>by
  simp at hs;subst hs;have u:=h.1;cases s with
  |ent k=>simp only at u;simp[u]
  |nil j=>obtain⟨t,rfl⟩:=u;exact⟨t,rfl⟩
 |s::srcs,e::E,h,i+1,q,hs=>by
  have :=aUC h.2 i q sK;cases q with
  |ent k=>simpa using this
  |nil j=>simpa using this
def aKa {es:A8 Bf} {srcs:A8 ET} {E:A8 Bf} (h:Ql srcs es srcs E):a0D srcs es E:=aUC h
def als {f:FuncId} {ops:Bh CM} {ats:Bh CO} (srcs:A8 ET) {eG fH:A8 Ai} {E E':A8 Bf} {j res':Ai} (q:El P f fH E j E') (u:Hg P f=true) (z:SA srcs es E E'=true) (hE:Ql srcs es srcs E) (ha:NW srcs eG fH) (hl:ops.toList.length=eG.length)
 (I:res'=j.up srcs es.length) (J:o.op=.call { callee:=.value (.func f),args:=ops,argTypes:=ats }):CS P o (Fq ops.toList eG) es res' (MZ srcs es E'):=I▸aQQ srcs q u z (aKa hE) ha hl J
def abh {f:FuncId} {x:CM} {ops:Bh CM} {ats:Bh CO} (srcs:A8 ET) (fi ca:A8 Ai) {eG fH:A8 Ai} {E E':A8 Bf} {j res':Ai} (q:El P f fH E j E') (u:Hg P f=true) (z:SA srcs es E E'=true) (hE:Ql srcs es srcs E)
 (ha:NW srcs (fi++eG++ca) fH) (hl:ops.toList.length=eG.length) (I:res'=j.up srcs es.length) (J:o.op=.call { callee:=.value x,args:=ops,argTypes:=ats }):
 CS P o ((x,.fn (.func f) fi ca)::Fq ops.toList eG) es res' (MZ srcs es E'):=I▸aQ3 srcs q u z (aKa hE) ha hl J
def amf {f:FuncId} {x:CM} {ops:Bh CM} {ats:Bh CO} (srcs:A8 ET) (fi ca:A8 D) {eG fH:A8 Ai} {E E':A8 Bf} {j res':Ai} (q:El P f fH E j E') (u:Hg P f=true) (z:SA srcs es E E'=true) (hE:Ql srcs es srcs E)
 (ha:NW srcs (fi.map .d++eG++ca.map .d) fH) (hl:ops.toList.length=eG.length) (I:res'=j.up srcs es.length) (J:o.op=.call { callee:=.value x,args:=ops,argTypes:=ats }):
 CS P o ((x,.d (.fn (.func f) fi ca))::Fq ops.toList eG) es res' (MZ srcs es E'):=I▸aZo srcs q u z (aKa hE) ha hl J
end
structure Turns (v:Value) (w w':World):Prop where
 os:w'.os=w.os
 tape:w'.tape=w.tape
 output:w'.output=w.output
 size:w.heap.size<=w'.heap.size
 block:∀c,c<w.heap.size->EF v≠some c->w'.heap[c]? =w.heap[c]?
def Turns.refl (v:Aw) (w:Bc):Turns v w w:=⟨rfl,rfl,rfl,EX _,fun _ _ _=>rfl⟩
def Turns.aBX {g o n c:Nat} {s:AO Nat} {w w':Bc} (h:w.grownBy w' (some g)):Turns (.slice (some ⟨g,o,s⟩) n c) w w':=
 ⟨h.os,h.tape,h.output,h.size,fun k q j=>h.block k q (fun e=>j (by cases e;rfl))⟩
def EU.aes {ok:Nat->Prop} {w:Bc} {u v:Aw} (h:EU ok w (.lit u) v):v=u:=by cases h;rfl
def aMr :∀(l:A8 Int),flat (l.map Ag)=l.map fun n=>.d (Ag n)
 | []=>rfl
 |n::l=>by rw[JJ,UA,aMr l];rfl
def a1M {ok:Nat->Prop} {w:Bc} {H:A8 CP} {h:CP} {e:CO} {l:A8 Int}:FZ ok w H h (.arr e 1 (List.map Ag l))↔h.size=1/\lG w e 1 h.v l.length (l.map (.int .i64)):=by
 constructor
 ·rintro⟨u,_,xs,q,z,I⟩;refine⟨u,?_⟩;rw[DY]at q
  have :xs=l.map (.int .i64):=by
   rw[aMr]at z I;rw[DY]at z;refine sW (by simp[z]) fun i hi M=>?_;have j:i<l.length:=AB
   have J:=(I i Vq).2;simp only[List.getD,Ji,EK j,Ij,ML,EK hi]at J;cases J with |d _ _ h=>rw[EU.aes h];simp
  rw[←this];exact q
 rintro⟨u,q⟩;refine⟨u,fun x L=>?_,l.map (.int .i64),by rw[DY];exact q,?_⟩
 ·obtain⟨n,_,rfl⟩:=FY.1 L;rfl
 rw[aMr];refine⟨Bj,fun i hi=>?_⟩;have j:i<l.length:=Gp
 simp only[List.getD,Ji,EK j,Ij,ML];exact⟨rfl,.d _ _ (.lit _)⟩
def aQN {j:Bh Aw} (hs:j.size=1):j= #[j.getD 0 undef]:=by
 refine Z4 (by simp[hs]) fun i u q=>?_;simp at q;subst q;simp[Array.getD,hs]
def El.aD9 {P:Cm} {f:FuncId} {e:CO} {l r:A8 Int}
 (h:∀(v:Aw) (w:Bc),lG w e 1 v l.length (l.map (.int .i64))->Calls P f #[v] w fun x w'=>x=.returned (.tuple #[])/\lG w' e 1 v r.length (r.map (.int .i64))/\Turns v w w'):
 El P f [.aO 0] [.arr e 1 (List.map Ag l)] (.eX []) [.arr e 1 (List.map Ag r)]:=by
 intro ok X H w Y hm hs ha;have h0:=ha 0 Bo;rw[aQN hs];obtain⟨hd,L,M⟩:=H8 hm.ent hm.hlen (k:=0) rfl;obtain hv:=Oe h0 L;rw[hv];obtain⟨hz,O⟩:=a1M.1 M;refine(h hd.v w O).mono ?_;rintro x w' ⟨rfl,z,ht⟩;have q:=fun b I=>hm.blk 0 _ hd b rfl rfl L I
 have hg:=hm.change (ok':=ok) (H':=H) (w':=w') (es':=[.arr e 1 (List.map Ag r)]) (fun c=>EF hd.v=some c) ht.os ht.tape ht.output ht.size ht.block (fun c Z _=>⟨(q c Z).1,(q c Z).2.2⟩) (fun _ h=>h) (fun _ h=>.inl h) (.refl _) hm.hlen (by
  intro k e' h' j J
  match k,j with
  |0,j=>
   simp at j;subst j;rw[L]at J;obtain rfl:=Dh J;refine .inr ⟨a1M.2 ⟨hz,z⟩,fun _ b I=>⟨(q b I).1,VP (q b I).2.1 ht.size,(q b I).2.2,fun k' e'' h'' U u=>?_⟩⟩
   match k',u with
   |0,_=>exact absurd rfl U
   |k'+1,u=>simp at u
  |k+1,j=>simp at j)
 exact⟨_,ok,H,rfl,hg.1,.eX [] #[] rfl (fun i hi=>PY)⟩
def El.turned {P:Cm} {f:FuncId} {e:CO} {l r:A8 Int}
 (h:∀(v:Aw) (w:Bc),lG w e 1 v l.length (l.map (.int .i64))->Calls P f #[v] w fun x w'=>∃v',x=.returned v'/\lG w' e 1 v' r.length (r.map (.int .i64))/\Turns v w w'/\∀g,EF v'=some g->EF v=some g\/w.heap.size<=g):
 El P f [.aO 0] [.arr e 1 (List.map Ag l)] (.aO 1) [.dead,.arr e 1 (List.map Ag r)]:=by
 intro ok X H w J hm hs ha;have O:=ha 0 Bo;rw[aQN hs];obtain⟨hd,L,z⟩:=H8 hm.ent hm.hlen (k:=0) rfl;obtain U:=Oe O L;rw[U];obtain⟨Y,I⟩:=a1M.1 z;refine(h hd.v w I).mono ?_;rintro x w' ⟨v',rfl,j,ht,q⟩;have u:=hm.turn (e:=.arr e 1 (List.map Ag r)) (h':=⟨v',1⟩) (w':=w') (k:=0) rfl rfl L ht.os ht.tape ht.output ht.size ht.block (fun g u=>⟨yA j u,q g u⟩) (fun _=>a1M.2 ⟨rfl,j⟩);refine⟨v',ok,H++[⟨v',1⟩],rfl,u.1,?_⟩;have hl:H.length=1:=hm.hlen;have M:(H++[(⟨v',1⟩:CP)])[1]? =some ⟨v',1⟩:=by rw[←hl];simp
 rcases j.2 with⟨rfl,_⟩|⟨g,cap,cur,rfl,_⟩
 ·exact .aO 1 _ _ _ 1 M
 exact .aO 1 _ _ _ 1 M
def El.plain {P:Cm} {f:FuncId} {vs:A8 Aw} {j:Ai} {v:Aw} (M:∀ok w H,R ok w H j v)
 (h:∀w,Calls P f vs.toArray w fun x w'=>x=.returned v/\Below w.heap.size w w'):El P f (vs.map fun u=>.d (.lit u)) [] j []:=by
 intro ok X H w q hm hs ha
 have e:q=vs.toArray:=by
  refine Z4 sK fun i O U=>?_;have z:i<vs.length:=aEc
  have L:=ha i MW;simp only[List.getD,Ji,EK z,Ij,ML]at L;cases L with |d _ _ h=>have :=EU.aes h;simpa[Array.getD,O]using this
 rw[e];refine(h w).mono ?_;rintro x w' ⟨rfl,I⟩
 have Y:=hm.change (ok':=ok) (H':=H) (w':=w') (es':=[]) (fun _=>False) I.os I.tape I.output I.size (fun c Z _=>I.block c Z) (fun _ h=>h.elim) (fun _ h=>h) (fun _ h=>.inl h) (.refl _) hm.hlen (by
  intro k e' h' J hh'
  simp at J)
 exact⟨v,ok,H,rfl,Y.1,M _ _ _⟩
def Chain.aAe {P:Cm} {ops:Bh Oper} {l O:A8 Oper} {σ σ':BR} (h:Chain P ops l σ σ') {ro:AO Nat} {C:En} {H0:A8 CP} {Q:Exit->Act->Bc->Prop}:
 ∀{ok:Nat->Prop} {H:A8 CP} {a:Act} {w:Bc},Holds C ok H σ a w->Names H0 H->(∀ok' H' a' w',Holds C ok' H' σ' a' w'->Names H0 H'->wpListIn (JF ro) 0 P ops Q O a' w')->wpListIn (JF ro) 0 P ops Q (l++O) a w:=by
 induction h with
 |nil σ=>intro ok H a w j U z;exact z ok H a w j U
 | @op o rest σ σ' ns x d Y U L hd k M=>
   intro ok H a w j q z;subst hd;rw[Zb];unfold wpListIn;rw[DX (Q7 j L)];refine Qm ?_ (Y.inR ro C ok H a w Q j.mem (fun n I=>Q5 U n I▸j.get n.1));rintro a' w' ⟨v,ok',H',rfl,J,u,hm,Z⟩;exact M (j.put o.dst J u hm Z) (q.trans u) z
 | @oe o rest σ σ' ns x es' d E Y he U L hd k M=>
   intro ok H a w j q z;subst hd;subst he;rw[Zb];unfold wpListIn;rw[DX (Q7 j L)];refine Qm ?_ (Y.inR ro C ok H a w Q j.mem (fun n I=>Q5 U n I▸j.get n.1));rintro a' w' ⟨v,ok',H',rfl,J,u,hm,Z⟩;exact M (j.put o.dst J u hm Z) (q.trans u) z
 | @skip o rest σ σ' d L hd k M=>
   intro ok H a w j q z;subst hd;rw[Zb];unfold wpListIn;rw[Dk jP];exact⟨fun _ _=>trivial,M (j.put o.dst (.refl _ _) (.refl _) j.mem (.d _ _ (.lit _))) q z⟩
 | @any o rest σ σ' x d hs hd k M=>
   intro ok H a w j q z;subst hd;rw[Zb];unfold wpListIn;rcases hs.1 with⟨ns,Y,U,_,L⟩|⟨rfl,_,L⟩
   ·rw[DX (Q7 j L)];refine Qm ?_ (Y.inR ro C ok H a w Q j.mem (fun n I=>Q5 U n I▸j.get n.1));rintro a' w' ⟨v,ok',H',rfl,J,u,hm,Z⟩;exact M (j.put o.dst J u hm Z) (q.trans u) z
   rw[Dk jP];exact⟨fun _ _=>trivial,M (j.put o.dst (.refl _ _) (.refl _) j.mem (.d _ _ (.lit _))) q z⟩
 | @ah4 o rest σ σ' x E bar d hs hd k M=>
   intro ok H a w j q z;subst hd;rw[Zb];unfold wpListIn;rcases hs.1 with⟨ns,Y,U,_,L⟩|⟨rfl,rfl,L⟩
   ·rw[DX (Q7 j L)];refine Qm ?_ (Y.inR ro C ok H a w Q j.mem (fun n I=>Q5 U n I▸j.get n.1));rintro a' w' ⟨v,ok',H',rfl,J,u,hm,Z⟩;exact M (j.put o.dst J u hm Z) (q.trans u) z
   rw[Dk jP];exact⟨fun _ _=>trivial,M (j.put o.dst (.refl _ _) (.refl _) j.mem (.d _ _ (.lit _))) q z⟩
 |conv σ2 hc k M=>
  intro ok H a w j q z;obtain⟨ok',hh'⟩:=hc C ok H a w j;exact M hh' q z
def Bz.ays {P:Cm} {σ I:BR} {Q:Exit->BR->Prop} {id:Nat} {ops:Bh Oper} {q:Oper} {x:CM} {t t' e d:Nat} {es:A8 D} (k:Nat) (j:ops.toList.drop k=[q]) (h:Chain P ops (ops.toList.take k) σ I)
 (O:q.op=.binOp .eql t x (.const (.slice none 0 0)) t') (hd:q.dst=some d) (U:q.guard=none) (ht:P.underlying t=some (.slice e)) (Y:I.get x=.d (.sl es)) (Z:∀b,(es≠[]->b=false)->Q .normal (I.qJ (some d) (.d (.lit (.bool b))))):Bz P (.region id ops false) σ Q:=by
 refine⟨fun ro _ C ok H a w hh=>aSB ?_⟩;rw[←SI k ops.toList,j];refine h.aAe hh (.refl H) fun ok' H' a' w' J _=>?_;have z:=Y▸J.get x
 obtain⟨b,hb,hr⟩:∃b,(es≠[]->b=false)/\(execOp a'.eval q).run P w'=.ok (.value (.bool b)) w':=by
  cases z with
  |d _ _ z=>
   generalize u:a'.eval x=v at z
   have key:∀(ad:AO Addr) (n c:Nat),v=.slice ad n c->(execOp a'.eval q).run P w'=.ok (.value (.bool ad.isNone)) w':=fun ad n c L=>by
    have M:(eqGuard .eql t x (.const (.slice none 0 0)) (.slice ad n c) (.slice none 0 0)).run P w'=.ok () w':=by simp[eqGuard]
    have e0:a'.eval (.const (.slice none 0 0))=.slice none 0 0:=rfl;rw[L]at u;simp only[execOp,O,u,e0,Fl,M,G8,Lib.run_eql_slice_nil w' t e ad n c 0 0 ht,Gw]
   cases z with
   |sl0 ad cap=>exact⟨ad.isNone,fun h=>absurd rfl h,key _ _ _ rfl⟩
   |sl es b off cap size=>exact⟨false,fun _=>rfl,key _ _ _ rfl⟩
 unfold wpListIn;rw[DX (by unfold Region.wanted;rw[U])];unfold Oper.wpIn;rw[iT _ _ _ (by rw[O];intro c h;cases h),hr,Oper.uponIn_value];refine⟨fun _ _=>trivial,?_⟩;unfold wpListIn;exact⟨ok',H',_,by rw[hd];exact J.put (some d) (.refl _ _) (.refl _) J.mem (.d _ _ (.lit _)),Z b hb⟩
def qc {P:Cm} {σ u:BR} {Q:Exit->BR->Prop} {id:Nat} {ops:Bh Oper} {y:Code} {q:Oper} {x:CM} {t t' e d:Nat} {es:A8 D} (k:Nat) (j:ops.toList.drop k=[q]) (h:Chain P ops (ops.toList.take k) σ u)
 (I:q.op=.binOp .eql t x (.const (.slice none 0 0)) t') (hd:q.dst=some d) (J:q.guard=none) (ht:P.underlying t=some (.slice e)) (L:u.get x=.d (.sl es)) (M:∀b,(es≠[]->b=false)->Bz P y (u.qJ (some d) (.d (.lit (.bool b)))) Q):Bz P (.seq (.region id ops false) y) σ Q:=
 Bz.seq (fun s=>∃b,(es≠[]->b=false)/\s=u.qJ (some d) (.d (.lit (.bool b)))) (Bz.ays k j h I hd J ht L fun b z=>⟨b,z,rfl⟩) (by rintro _ ⟨b,z,rfl⟩;exact M b z)
def vK {α:Type} {l:A8 α} {e:α->D} (h:List.map e l≠[]->true=false):l=[]:=by
 cases l with
 |nil=>rfl
 |cons a l=>exact absurd (h Bj) Bo
def pieces :A8 Nat->Nat->A8 Aw->A8 Aw
 | [],_,_=>[]
 |n::r,o,cs=>(cs.drop o).take n++pieces r (o+n) cs
def pieces_eq :∀(ns:A8 Nat) (o:Nat) (cs:A8 Aw),cs.length=o+ns.sum->pieces ns o cs=cs.drop o
 | [],o,cs,h=>by simp at h;simp[pieces,h]
 |n::r,o,cs,h=>by
  simp only[List.sum_cons]at h;unfold pieces;rw[pieces_eq r (o+n) cs AB,←aIL,SI]
def MO (w:Bc) (q:A8 D) (cs:A8 Aw):Prop:=cs.length=q.length/\∀j,j<q.length->(q.getD j ES).leaf=true/\EU (fun b=>b<w.heap.size) w (q.getD j ES) (cs.getD j undef)
def MO.nil (w:Bc):MO w [] []:=⟨rfl,fun j h=>J8⟩
def MO.append {w:Bc} {q es:A8 D} {cs us:A8 Aw} (h:MO w q cs) (k:MO w es us):MO w (q++es) (cs++us):=by
 refine⟨by simp[h.1,k.1],fun j J=>?_⟩;by_cases e:j<q.length
 ·have u:(q++es).getD j ES=q.getD j ES:=aH9
  have z:(cs++us).getD j undef=cs.getD j undef:=by simp[List.getD,Hf (show j<cs.length by rw[h.1];exact e)]
  rw[u,z];exact h.2 j e
 have I:j-q.length<es.length:=iq
 have u:(q++es).getD j ES=es.getD (j-q.length) ES:=by simp[List.getD,KX (X7 e)]
 have z:(cs++us).getD j undef=us.getD (j-q.length) undef:=by
  have L:=h.1;simp only[List.getD,KX (show cs.length<=j by omega),L]
 rw[u,z];exact k.2 _ I
section
variable {H:Type} {enc:CO×Aw->H} {w:Bc} {base:Nat} {spare:Nat->Ad} {held:Ad} {P:Cm} {t:CO}
def a2X {α:Type} (enc:CO×Aw->H) (P:Cm) (w:Bc) (base:Nat) (spare:Nat->Ad) (held:Ad) (t:CO) (e:α->D) (V:α->Prop):Prop:=
 ∀Az cs x,DataW.trod enc P w base spare held Az t cs=some x->∃a:α,V a/\MO w (e a).cells cs
def MO.one {w:Bc} {x:D} {v:Aw} (q:x.cells=[x]) (hl:x.leaf=true) (h:EU (fun b=>b<w.heap.size) w x v):MO w x.cells [v]:=by
 rw[q];refine⟨rfl,fun j u=>?_⟩
 match j,u with
 |0,_=>exact⟨hl,h⟩
def aM2 {k:IntKind} (ht:P.underlying t=some (.int k)):a2X enc P w base spare held t (fun n=>D.lit (.int k n)) (fun n:Int=>k.min<=n/\n<=k.max):=by
 intro Az cs x h;obtain⟨n,rfl, -,j⟩:=DataW.trod_int ht h;exact⟨n,by simpa[Lit.wf]using j,.one rfl rfl (.lit _)⟩
def aXA (ht:P.underlying t=some .string):a2X enc P w base spare held t DW (fun s=>s.size<=maxLen):=by
 intro Az cs x h;obtain⟨n,rfl, -,j⟩:=DataW.trod_string ht h;exact⟨n,j,.one rfl rfl (.lit _)⟩
def zM {α:Type} {I:Bh Field} {Az:Nat} {cs:A8 Aw} {x:DataW H×A8 MemPlace} (ht:P.underlying t=some (.struct I)) (h:DataW.trod enc P w base spare held Az t cs=some x) (i:Nat) (u o n:Nat) (q:(I[i]?).map (fun f=>(f.type,f.offset,P.cellsOf f.type))=some (u,o,n))
 {J:α->D} {V:α->Prop} (M:a2X enc P w base spare held u J V):∃a:α,V a/\MO w (J a).cells ((cs.drop o).take n):=by
 obtain⟨xs,k, -, -, -,hlen,z⟩:=DataW.trod_struct ht h;cases j:I[i]? with
 |none=>rw[j]at q;simp at q
 |some f=>
  rw[j]at q;simp only[Ij,Jh,NT]at q;obtain⟨rfl,rfl,rfl⟩:=q;have L:=z i f j;have hi:i<I.size:=(Gl.1 j).1;rw[EK AB]at L;exact M _ _ _ L
def abP {j:Bh Field} {Az:Nat} {cs:A8 Aw} {x:DataW H×A8 MemPlace} (ht:P.underlying t=some (.struct j)) (h:DataW.trod enc P w base spare held Az t cs=some x) (n:Nat) (q:P.cellsOf t=n):cs.length=n:=by
 obtain⟨xs,k, -, -,hlen, -⟩:=DataW.trod_struct ht h;rw[hlen,q]
def adF {cs:A8 Aw} {j:A8 D} (ns:A8 Nat) (hl:cs.length=ns.sum) (h:MO w j (pieces ns 0 cs)):MO w j cs:=by
 rw[pieces_eq ns 0 cs AB]at h;simpa using h
end
def ahs {w:Bc} {x:D} {j:A8 D} {cs:Bh Aw} (q:x=.agg j) (h:MO w x.cells (Value.agg cs).cells.toList):EU (fun b=>b<w.heap.size) w x (.agg cs):=by
 subst q;have h':MO w j cs.toList:=h
 exact .agg j cs (by simpa using h'.1) (fun i hi=>(h'.2 i hi).1) fun i hi=>by
  have :=(h'.2 i hi).2;simpa[Io,List.getD]using this
def El.start {P:Cm} {f:FuncId} {xs:A8 D} {j:Bh Aw} {W:Bc} {x:D} (h:El P f (xs.map .d) [] (.d x) []) (hs:j.size=xs.length) (ha:∀i,i<xs.length->EU (fun b=>b<W.heap.size) W (xs.getD i ES) (j.getD i undef)):
 Calls P f j W fun e W'=>∃v ok,e=.returned v/\EU ok W' x v/\Below W.heap.size W W':=by
 refine(h (fun b=>b<W.heap.size) [] [] W j ⟨.refl _ _,fun _ h=>h,fun _ h=>.inl h,fun _ h=>h,.refl _,rfl,fun k e h q=>iR,fun k e h b q=>iR,fun k k' e e' h h' b q=>iR⟩ sK (fun i hi=>?_)).mono ?_
 ·have u:i<xs.length:=Gp
  have :(xs.map Ai.d).getD i .junk=.d (xs.getD i ES):=aKk
  rw[this];exact .d _ _ (ha i u)
 rintro e W' ⟨v,ok',H',rfl,hm,z⟩;cases z with
 |d _ _ z=>exact⟨v,ok',rfl,z,hm.fr.below⟩
def El.law {P:Cm} {f:FuncId} {xs:A8 D} {j:Bh Aw} {W:Bc} (h:El P f (xs.map .d) [] (.d (Ea true)) []) (hs:j.size=xs.length) (ha:∀i,i<xs.length->EU (fun b=>b<W.heap.size) W (xs.getD i ES) (j.getD i undef)):
 Calls P f j W fun e W'=>e=.returned (.bool true)/\Below W.heap.size W W':=by
 refine(h.start hs ha).mono ?_;rintro e W' ⟨v,ok,rfl,q,u⟩;exact⟨by rw[EU.aes q],u⟩
end
section
def ER (l:A8 Int) (x:Int):Ad:=l.contains x
def LJ {l:A8 Int} {x:Int}:ER l x=true↔x∈l:=by unfold ER;simp
def PG {l:A8 Int} {x:Int}:ER l x=false↔x∉l:=by unfold ER;simp
def put (l:A8 Int) (x:Int):A8 Int:=if ER l x then l else l.takeWhile (decide<| · <x)++x::l.dropWhile (decide<| · <x)
def Eh (l:A8 Int):A8 Int:=l.foldl put []
def Ii (a b:A8 Int):A8 Int:=b.foldl put (Eh a)
def P6 (a b:A8 Int):A8 Int:=(Eh a).filter (fun x=> !ER b x)
abbrev Inc (l:A8 Int):Prop:=l.Pairwise (· < ·)
def al8 {l:A8 Int} {x:Int}:∀y∈l.takeWhile (decide<| · <x),y<x:=by
 intro y j;have :=List.all_takeWhile (l:=l) (p:=(decide<| · <x));rw[EY]at this;simpa using this y j
def aOc :∀{l:A8 Int} {x:Int},Inc l->∀y∈l.dropWhile (decide<| · <x),x<=y
 | [],x,_,y,j=>xM
 |a::l,x,h,y,j=>by
  have h':=Po.1 h;by_cases ha:a<x
  ·rw[aSv (by simpa using ha)]at j;exact aOc h'.2 y j
  rw[aRM (by simpa using ha)]at j;rcases F5.1 j with rfl|j
  ·omega
  have :=h'.1 y j;omega
def X4 {l:A8 Int} {x y:Int}:y∈put l x↔y∈l\/y=x:=by
 unfold put;split
 ·rename_i h;have j:x∈l:=LJ.1 h;constructor
  ·exact .inl
  rintro(h|rfl)
  ·exact h
  exact j
 have e:l.takeWhile (decide<| · <x)++l.dropWhile (decide<| · <x)=l:=ug
 have :y∈l↔y∈l.takeWhile (decide<| · <x)\/y∈l.dropWhile (decide<| · <x):=by
  conv=>lhs;rw[←e]
  exact Il
 rw[this,Il,F5];constructor
 ·rintro(h|h|h)
  ·exact .inl (.inl h)
  ·exact .inr h
  exact .inl (.inr h)
 rintro((h|h)|h)
 ·exact .inl h
 ·exact .inr (.inr h)
 exact .inr (.inl h)
def TK {l:A8 Int} {x:Int} (h:Inc l):Inc (put l x):=by
 unfold put;split
 ·exact h
 rename_i I;have j:x∉l:=fun h=>I (LJ.2 h)
 have hd:∀y∈l.dropWhile (decide<| · <x),x<y:=by
  intro y u;have z:=aOc h y u;have J:y∈l:=(aF0 _).mem u;have :y≠x:=fun e=>j (e▸J);omega
 refine kT.2 ⟨h.sublist (aHh _),Po.2 ⟨hd,h.sublist (aF0 _)⟩,?_⟩;intro a ha b q;have z:=al8 a ha;rcases F5.1 q with rfl|q
 ·exact z
 have :=hd b q;omega
def aGd {l:A8 Int}:∀{acc:A8 Int} {y:Int},y∈l.foldl put acc↔y∈acc\/y∈l:=by
 induction l with
 |nil=>intro acc y;simp
 |cons a l j=>intro acc y;rw[Gm,j,X4,F5,or_assoc]
def a3b {l:A8 Int}:∀{acc:A8 Int},Inc acc->Inc (l.foldl put acc):=by
 induction l with
 |nil=>intro acc h;exact h
 |cons a l j=>intro acc h;exact j (TK h)
def KR {l:A8 Int} {y:Int}:y∈Eh l↔y∈l:=by unfold Eh;rw[aGd];simp
def Kt (l:A8 Int):Inc (Eh l):=a3b List.Pairwise.nil
def CZ :∀{a b:A8 Int},Inc a->Inc b->(∀x,x∈a↔x∈b)->a=b
 | [],[],_,_,_=>rfl
 | [],b::bs,_,_,h=>by have :=(h b).2 Bj;simp at this
 |a::aNB,[],_,_,h=>by have :=(h a).1 Bj;simp at this
 |a::aNB,b::bs,ha,J,h=>by
  have q:=Po.1 ha;have u:=Po.1 J
  have e:a=b:=by
   rcases F5.1 ((h a).1 Bj)with j|j
   ·exact j
   rcases F5.1 ((h b).2 Bj)with z|z
   ·exact z.symm
   have :=q.1 b z;have :=u.1 a j;omega
  subst e;congr 1;refine CZ q.2 u.2 fun x=>?_;have I:=h x;rw[F5,F5]at I;constructor
  ·intro j;rcases I.1 (.inr j)with rfl|z
   ·exact absurd (q.1 x j) AB
   exact z
  intro j;rcases I.2 (.inr j)with rfl|z
  ·exact absurd (u.1 x j) AB
  exact z
def agy {l:A8 Int} (h:Inc l):Eh l=l:=CZ (Kt l) h fun _=>KR
def sV (a b:A8 Int):Ii a b=Eh (a++b):=by unfold Ii Eh;rw[V5]
def dB {a b:A8 Int} {x:Int}:x∈Ii a b↔x∈a\/x∈b:=by rw[sV,KR,Il]
def a03 (a b:A8 Int):Inc (Ii a b):=by rw[sV];exact Kt _
def aUo {a b:A8 Int} {x:Int}:x∈P6 a b↔x∈a/\x∉b:=by unfold P6;rw[HY,KR];simp[ER]
def aJy (a b:A8 Int):Inc (P6 a b):=(Kt a).sublist RI
def aZr (Dn:A8 Int):∀m,m<=Dn.length->∀x,x∈Lib.compactUpTo Dn.toArray m↔x∈Dn.take m:=by
 intro m
 induction m with
 |zero=>intro _ x;simp[Lib.compactUpTo]
 |succ m u=>
  intro hm x;rw[Lib.compactUpTo_succ,Il,u AB,OE AB,Il];have z:Dn.toArray[m]! =Dn[m]' AB:=by simp[show m<Dn.length by omega]
  by_cases q:Lib.keeps Dn.toArray m=true
  ·rw[DX q,z]
  rw[Dk q];have j:Lib.keeps Dn.toArray m=false:=Np
  have I:m≠0:=by intro e;subst e;simp[Lib.keeps]at j
  have J:Dn[m]' AB=Dn[m-1]' AB:=by
   simp[Lib.keeps,I]at j;simpa[show m<Dn.length by omega,show m-1<Dn.length by omega]using j
  constructor
  ·intro h;rcases h with h|h
   ·exact .inl h
   simp at h
  rintro(h|h)
  ·exact .inl h
  refine .inl ?_;simp at h;subst h;rw[J];rw[List.mem_take_iff_getElem];exact⟨m-1,AB,rfl⟩
def ajk (Dn:A8 Int) (hs:Dn.Pairwise (· <= ·)):∀m,m<=Dn.length->Inc (Lib.compactUpTo Dn.toArray m)/\∀x∈Lib.compactUpTo Dn.toArray m,∃i,∃_:i<m,∃u:i<Dn.length,x=Dn[i]:=by
 intro m
 induction m with
 |zero=>intro _;refine⟨by simp[Lib.compactUpTo],fun x q=>by simp[Lib.compactUpTo]at q⟩
 |succ m O=>
  intro hm;obtain⟨L,u⟩:=O AB;have U:Dn.toArray[m]! =Dn[m]' AB:=by simp[show m<Dn.length by omega]
  rw[Lib.compactUpTo_succ];by_cases z:Lib.keeps Dn.toArray m=true
  ·rw[DX z,U];refine⟨kT.2 ⟨L,Bj,?_⟩,?_⟩
   ·intro a ha b M;simp at M;subst M;obtain⟨i,hi,Y,rfl⟩:=u a ha
    have I:∀j,(Z:j<m)->Dn[j]' AB<=Dn[m-1]' AB:=by
     intro j Z;by_cases e:j=m-1
     ·subst e;omega
     exact KN.1 hs j (m-1) AB AB AB
    have h3:=I i hi;have h4:=KN.1 hs (m-1) m AB AB AB
    have h5:Dn[m]' AB≠Dn[m-1]' AB:=by
     have J:m≠0:=AB
     simp[Lib.keeps,J]at z;simpa[show m<Dn.length by omega,show m-1<Dn.length by omega]using z
    omega
   intro x q;rcases Il.1 q with q|q
   ·obtain⟨i,a,b,c⟩:=u x q;exact⟨i,AB,b,c⟩
   simp at q;exact⟨m,AB,AB,q⟩
  rw[Dk z,P8];refine⟨L,fun x q=>?_⟩;obtain⟨i,a,b,c⟩:=u x q;exact⟨i,AB,b,c⟩
def aMn (l:A8 Int):Lib.compact (l.mergeSort fun x y=>x<=y)=Eh l:=by
 have hs:(l.mergeSort fun x y=>x<=y).Pairwise (· <= ·):=by
  have :=List.pairwise_mergeSort (le:=fun x y:Int=>x<=y) (by intro a b c;simp;omega) (by intro a b;simp;omega) l;exact this.imp (by intro a b h;simpa using h)
 refine CZ (ajk _ hs _ (EX _)).1 (Kt l) fun x=>?_;rw[KR];unfold Lib.compact;rw[aZr _ _ (EX _),GX];exact List.mem_mergeSort
def fF {R:Type} (o:AO R) (Q:R->Prop):Prop:=∃r,o=some r/\Q r
section
variable {R A B α:Type} {Q:R->Prop}
def fF.ret {r:R} (h:Q r):fF (some r) Q:=⟨r,rfl,h⟩
def fF.bind {o:AO A} {f:A->AO R} {P:A->Prop} (h:fF o P) (k:∀x,P x->fF (f x) Q):fF (o.bind f) Q:=by
 obtain⟨x,rfl,j⟩:=h;exact k x j
def fF.mono {o:AO R} {P:R->Prop} (h:fF o P) (k:∀r,P r->Q r):fF o Q:=by
 obtain⟨x,rfl,j⟩:=h;exact⟨x,rfl,k x j⟩
def fF.bif {b:Ad} {x y:AO R} (j:b=true->fF x Q) (q:b=false->fF y Q):fF (bif b then x else y) Q:=by
 cases b with
 |true=>exact j rfl
 |false=>exact q rfl
def fF.eq {o:AO R} {r:R} (h:fF o (· =r)):o=some r:=by obtain⟨x,rfl,rfl⟩:=h;rfl
def fF.of {o:AO R} {r:R} (h:o=some r):fF o (· =r):=⟨r,h,rfl⟩
def aAf (l:A8 α) (i:Nat):Am l (i:Int)=l[i]? :=by unfold Am;rw[DX (aGe i)];simp
def D5 {l:A8 α} {i:Nat} (h:i<l.length):Am l (i:Int)=some l[i]:=by rw[aAf];simp[h]
def ED {b:Nat} {l m:A8 α} (h:(l.length+m.length)*b<=140737488355328):DL b l m=some (l++m):=by unfold DL;rw[DX h]
def oz {l:A8 α} {lo hi:Nat} (j:lo<=hi) (q:hi<=l.length):IE l (lo:Int) (hi:Int)=some ((l.drop lo).take (hi-lo)):=by
 unfold IE;rw[DX ⟨AB,AB,AB⟩];simp
def wrap_succ (i:Nat) (h:i<9223372036854775807):Ar ((i:Int)+1)=((i+1:Nat):Int):=by
 rw[Y9];omega
def OA {x:Int} (j: -9223372036854775808<=x) (q:x<=9223372036854775807):Ar x=x:=by
 rw[Y9];omega
def aSl {body:(A->AO R)->A->AO R} (I:Nat->A->Prop) (hs:∀m a k,I m a->(∀j a',j<m->I j a'->fF (k a') Q)->fF (body k a) Q):
 ∀n m a,m<n->I m a->fF (bJ body n a) Q
 |0,m,a,h,_=>AB
 |n+1,m,a,h,hi=>hs m a _ hi fun j a' h' q=>aSl I hs n j a' AB q
def YA {body:(A->B->AO R)->A->B->AO R} (I:Nat->A->B->Prop) (hs:∀m a b k,I m a b->(∀j a' q,j<m->I j a' q->fF (k a' q) Q)->fF (body k a b) Q):
 ∀n m a b,m<n->I m a b->fF (aU body n a b) Q
 |0,m,a,b,h,_=>AB
 |n+1,m,a,b,h,hi=>hs m a b _ hi fun j a' q h' u=>YA I hs n j a' q AB u
def a0o {body:(Int->AO R)->Int->AO R} (N:Nat) (j:N<Az) (I:Nat->Prop) (q:I 0)
 (hs:∀i k,i<N->I i->(I (i+1)->fF (k ((i+1:Nat):Int)) Q)->fF (body k (i:Int)) Q) (u:∀k,I N->fF (body k (N:Int)) Q):fF (bJ body Az 0) Q:=by
 refine aSl (body:=body) (Q:=Q) (fun m a=>∃i:Nat,a=i/\i+m=N/\I i) ?_ Az N 0 j ⟨0,rfl,AB,q⟩;rintro m a k ⟨i,rfl,hm,hi⟩ z;by_cases e:i<N
 ·exact hs i k e hi fun h=>z (m-1) _ AB ⟨i+1,rfl,AB,h⟩
 have :i=N:=AB
 subst this;exact u k hi
def Jb {body:(A->Int->AO R)->A->Int->AO R} (N:Nat) (j:N<Az) (I:Nat->A->Prop) {a0:A} (q:I 0 a0)
 (hs:∀i a k,i<N->I i a->(∀a',I (i+1) a'->fF (k a' ((i+1:Nat):Int)) Q)->fF (body k a (i:Int)) Q) (u:∀a k,I N a->fF (body k a (N:Int)) Q):fF (aU body Az a0 0) Q:=by
 refine YA (body:=body) (Q:=Q) (fun m a b=>∃i:Nat,b=i/\i+m=N/\I i a) ?_ Az N a0 0 j ⟨0,rfl,AB,q⟩;rintro m a b k ⟨i,rfl,hm,hi⟩ z;by_cases e:i<N
 ·exact hs i a k e hi fun a' h=>z (m-1) _ _ AB ⟨i+1,rfl,AB,h⟩
 have :i=N:=AB
 subst this;exact u a k hi
end
end
end Go.Proofs.YtkkdimcnpacjhaaGreat
section
namespace Go.Proofs
open Go.Proofs.YtkkdimcnpacjhaaGreat
open Go.Shelf
def Tryz.avX:Go.Shelf.Ren:=⟨fun |137=>140|217=>231|266=>316|n=>n,fun |9=>9|5=>5|3=>3|n=>n,fun |n=>n⟩
noncomputable abbrev Au:=Tryz.prog
def Tryz.lays137:Go.Proofs.Lays.n137 Au Tryz.avX:={
 mixed:=AA
 f137:=Tryz.func140.trans (BP some AA)
 f217:=Tryz.func231.trans (BP some AA)
 f266:=Tryz.func316.trans (BP some AA)
 t3:=Ws
 a3:=kF
 z3:=iY
 v3:=jl
 t5:=zT
 a5:=a0J
 z5:=pG
 v5:=qX
 t9:=er
 a9:=qO
 z9:=qm
 v9:=zn }
open Go.RowKit in
def Tryz.strings_IndexByte (s:BA) (c:Int) (w:Bc):
 Calls Au 140 #[.string s,.int .u8 c] w fun e w'=>e=.returned (.int .i64 (Lib.indexByte s.data.toList c.toNat.toUInt8))/\w'=w:=Any.strings_IndexByte Tryz.lays137 s c w
def Tryz.avY:Go.Shelf.Ren:=⟨fun |219=>317|217=>231|225=>370|224=>371|267=>372|266=>316|314=>399|n=>n,fun |9=>9|3=>3|4=>4|5=>5|46=>148|146=>328|51=>212|n=>n,fun |1=>0|n=>n⟩
def Tryz.lays219:Go.Proofs.Lays.n219 Au Tryz.avY:={
 mixed:=AA
 f217:=Tryz.func231.trans (BP some AA)
 f219:=Tryz.func317.trans (BP some AA)
 f224:=Tryz.func371.trans (BP some AA)
 f225:=Tryz.func370.trans (BP some AA)
 f266:=Tryz.func316.trans (BP some AA)
 f267:=Tryz.func372.trans (BP some AA)
 f314:=Tryz.func399.trans (BP some AA)
 t3:=Ws
 a3:=kF
 z3:=iY
 v3:=jl
 t4:=kX
 a4:=uK
 z4:=a07
 v4:=zu
 t5:=zT
 a5:=a0J
 z5:=pG
 v5:=qX
 t9:=er
 a9:=qO
 z9:=qm
 v9:=zn
 t46:=a0q
 a46:=Tryz.isAgg148
 z46:=aAm
 v46:=aBx
 t51:=aBa
 a51:=Tryz.isAgg212
 z51:=aEF
 v51:=a2a
 t146:=Tryz.underlying328
 a146:=Tryz.isAgg328
 z146:=Tryz.sizeOf328
 v146:=Tryz.zeroValue328
 g1:=by kernel_rfl }
open Go.RowKit Go.Lib in
def Tryz.stringslite_Index_one (s:BA) (c:UInt8) (w:Bc):
 Calls Au 317 #[.string s,.string ⟨#[c]⟩] w fun e w'=>e=.returned (.int .i64 (Lib.indexByte s.data.toList c))/\w'=w:=Any.stringslite_Index_one Tryz.lays219 s c w
def Tryz.avZ:Go.Shelf.Ren:=⟨fun |189=>61|125=>124|257=>123|128=>215|129=>216|294=>207|295=>208|296=>209|297=>210|298=>211|299=>212|216=>205|300=>213|301=>214|328=>306|329=>307|330=>308|331=>309|332=>310|215=>270|343=>362|n=>n,fun |28=>35|3=>3|46=>148|0=>0|51=>212|53=>214|4=>4|183=>206|182=>205|131=>47|5=>5|9=>9|218=>279|222=>283|228=>305|229=>306|n=>n,fun |n=>n⟩
def Tryz.lays189:Go.Proofs.Lays.n189 Au Tryz.avZ:={
 mixed:=AA
 f125:=Tryz.func124.trans (BP some AA)
 f128:=Tryz.func215.trans (BP some AA)
 f129:=Tryz.func216.trans (BP some AA)
 f189:=Tryz.func61.trans (BP some AA)
 f215:=Tryz.func270.trans (BP some AA)
 f216:=Tryz.func205.trans (BP some AA)
 f257:=Tryz.func123.trans (BP some AA)
 f294:=Tryz.func207.trans (BP some AA)
 f295:=Tryz.func208.trans (BP some AA)
 f296:=Tryz.func209.trans (BP some AA)
 f297:=Tryz.func210.trans (BP some AA)
 f298:=Tryz.func211.trans (BP some AA)
 f299:=Tryz.func212.trans (BP some AA)
 f300:=Tryz.func213.trans (BP some AA)
 f301:=Tryz.func214.trans (BP some AA)
 f328:=Tryz.func306.trans (BP some AA)
 f329:=Tryz.func307.trans (BP some AA)
 f330:=Tryz.func308.trans (BP some AA)
 f331:=Tryz.func309.trans (BP some AA)
 f332:=Tryz.func310.trans (BP some AA)
 f343:=Tryz.func362.trans (BP some AA)
 t0:=aCA
 a0:=Tryz.isAgg0
 z0:=Tryz.sizeOf0
 v0:=a2I
 t3:=Ws
 a3:=kF
 z3:=iY
 v3:=jl
 t4:=kX
 a4:=uK
 z4:=a07
 v4:=zu
 t5:=zT
 a5:=a0J
 z5:=pG
 v5:=qX
 t9:=er
 a9:=qO
 z9:=qm
 v9:=zn
 t28:=Tryz.underlying35
 a28:=Tryz.isAgg35
 z28:=Tryz.sizeOf35
 v28:=Tryz.zeroValue35
 t46:=a0q
 a46:=Tryz.isAgg148
 z46:=aAm
 v46:=aBx
 t51:=aBa
 a51:=Tryz.isAgg212
 z51:=aEF
 v51:=a2a
 t53:=Tryz.underlying214
 a53:=Tryz.isAgg214
 z53:=Tryz.sizeOf214
 v53:=Tryz.zeroValue214
 t131:=Tryz.underlying47
 a131:=Tryz.isAgg47
 z131:=Tryz.sizeOf47
 v131:=Tryz.zeroValue47
 t182:=Tryz.underlying205
 a182:=Tryz.isAgg205
 z182:=Tryz.sizeOf205
 v182:=Tryz.zeroValue205
 t183:=Tryz.underlying206
 a183:=Tryz.isAgg206
 z183:=Tryz.sizeOf206
 v183:=Tryz.zeroValue206
 t218:=Tryz.underlying279
 a218:=Tryz.isAgg279
 z218:=Tryz.sizeOf279
 v218:=Tryz.zeroValue279
 t222:=Tryz.underlying283
 a222:=Tryz.isAgg283
 z222:=Tryz.sizeOf283
 v222:=Tryz.zeroValue283
 t228:=Tryz.underlying305
 a228:=Tryz.isAgg305
 z228:=Tryz.sizeOf305
 v228:=Tryz.zeroValue305
 t229:=Tryz.underlying306
 a229:=Tryz.isAgg306
 z229:=Tryz.sizeOf306
 v229:=Tryz.zeroValue306 }
open Go.Sort Go.RowKit in
def Tryz.slices_Sort_int (blk off cap:Nat) (Dn:A8 Int) (w:Bc) (hH:Holds Di w blk off Dn.toArray) (hblk:blk<w.heap.size) (hsz:Dn.length<4611686018427387904):
 Calls Au 61 #[.slice (some ⟨blk,off,none⟩) Dn.length cap] w fun e w'=>
  e=.returned (.tuple #[])/\∃n os,w'=grow (putRow Di (Sort.ahead w n) blk off (Dn.mergeSort fun x y=>x<=y).toArray) os:=Any.slices_Sort_int Tryz.lays189 blk off cap Dn w hH hblk hsz
def Tryz.arx:Go.Shelf.Ren:=⟨fun |20=>62|n=>n,fun |22=>35|3=>3|4=>4|0=>0|n=>n,fun |n=>n⟩
def Tryz.aqB:Go.Proofs.Lays2.n20 Au Tryz.arx:={
 mixed:=AA
 f20:=Tryz.func62.trans (BP some AA)
 t0:=aCA
 a0:=Tryz.isAgg0
 z0:=Tryz.sizeOf0
 v0:=a2I
 t3:=Ws
 a3:=kF
 z3:=iY
 v3:=jl
 t4:=kX
 a4:=uK
 z4:=a07
 v4:=zu
 t22:=Tryz.underlying35
 a22:=Tryz.isAgg35
 z22:=Tryz.sizeOf35
 v22:=Tryz.zeroValue35
 i3:=by kernel_rfl }
open Go.RowKit Go.Lib Go.Sort in
def Tryz.slices_Compact_int (blk off cap:Nat) (Dn:A8 Int) (w:Bc) (hH:Holds Di w blk off Dn.toArray) (hsz:Dn.length<=9223372036854775807) (hcap:Dn.length<=cap):
 Calls Au 62 #[.slice (some ⟨blk,off,none⟩) Dn.length cap] w fun e w'=>e=.returned (.slice (some ⟨blk,off,none⟩) (Lib.compact Dn).length cap)/\∃q,w'=putRow Di (Sort.ahead w q) blk off (Lib.compact Dn++List.replicate (Dn.length-(Lib.compact Dn).length) 0).toArray:=Any.slices_Compact_int Tryz.aqB blk off cap Dn w hH hsz hcap
open Go.RowKit Go.Lib Go.Sort in
def Tryz.slices_Compact_int_empty (a:AO Addr) (cap:Nat) (w:Bc):
 Calls Au 62 #[.slice a 0 cap] w fun e w'=>e=.returned (.slice a 0 cap)/\w'=w:=Any.slices_Compact_int_empty Tryz.aqB a cap w
open Go.RowKit Go.Sort in
def Tryz.slices_Sort_int_none (p:AO Addr) (cap:Nat) (w:Bc):
 Calls Au 61 #[.slice p 0 cap] w fun e w'=>e=.returned (.tuple #[])/\w'=w:=Any.slices_Sort_int_none Tryz.lays189 p cap w
end Go.Proofs
end
namespace Go.Proofs.YtkkdimcnpacjhaaGreat
open Go.RowKit Go.Proofs.Tryz
section
def Zj (x:Int):A8 Int->A8 Int
 | []=>[x]
 |y::l=>bif x<=y then x::y::l else y::Zj x l
def Qb (l:A8 Int):A8 Int:=l.foldr Zj []
def aHv (x:Int):∀l,(Zj x l).Perm (x::l)
 | []=>.refl _
 |y::l=>by
  unfold Zj;cases h:decide (x<=y)with
  |true=>exact .refl _
  |false=>exact((aHv x l).cons y).trans (.swap x y l)
def TS :∀l,(Qb l).Perm l
 | []=>.refl _
 |x::l=>(aHv x (Qb l)).trans ((TS l).cons x)
def aT4 (x:Int):∀l,l.Pairwise (· <= ·)->(Zj x l).Pairwise (· <= ·)
 | [],_=>by simp[Zj]
 |y::l,h=>by
  have h':=Po.1 h;unfold Zj;cases u:decide (x<=y)with
  |true=>
   have q:x<=y:=YN u;refine Po.2 ⟨fun z j=>?_,h⟩;rcases F5.1 j with rfl|j
   ·exact q
   have :=h'.1 z j;omega
  |false=>
   have q:¬x<=y:=LQ u;refine Po.2 ⟨fun z j=>?_,aT4 x l h'.2⟩;rcases F5.1 ((aHv x l).mem_iff.1 j)with rfl|j
   ·omega
   exact h'.1 z j
def pR :∀l,(Qb l).Pairwise (· <= ·)
 | []=>.nil
 |x::l=>aT4 x _ (pR l)
def aFs (l:A8 Int):Qb l=l.mergeSort fun x y=>decide (x<=y):=by
 have hs:(l.mergeSort fun x y=>x<=y).Pairwise (· <= ·):=by
  have :=List.pairwise_mergeSort (le:=fun x y:Int=>x<=y) (by intro a b c;simp;omega) (by intro a b;simp;omega) l;exact this.imp (by intro a b h;simpa using h)
 exact((TS l).trans (List.mergeSort_perm l _).symm).eq_of_pairwise (fun a b _ _ h k=>AB) (pR l) hs
abbrev AP:=A8 Int
def N7 (l:A8 Int):AO AP:=if l.length<=1099511627776 then some (Qb l)else none
def Vs (l:A8 Int):AO AP:=if l.length<=1099511627776 then some (Lib.compact l)else none
def lG.nil (w:Bc) (e size:Nat):lG w e size (.slice none 0 0) 0 []:=.of (a1B w 0 e size)
def ad5 {w:Bc} {g cap n:Nat} {e:CO} {os:Bh Obj} {cur:Bh Aw} {j q:A8 Int} (hl:q.length=j.length) (u:w.heap[g]? =some (.cells cur e (0,0)))
 (z:j.length<=cap) (I:cap<=maxLen) (J:cap*1<=cur.size):
 lG (Go.Sort.grow (Go.Sort.putRow Di (Go.Sort.ahead w n) g 0 q.toArray) os) e 1 (.slice (some ⟨g,0,none⟩) j.length cap) j.length (q.map Di):=
 ⟨aC,.inr ⟨g,cap,_,rfl,Du _,heap_sortedI _ u,z,I,by simpa[Go.Sort.putCells]using J,by rw[dO,←hl];exact take_putCellsI cur q AB⟩⟩
def aaj {w:Bc} {e:CO} {g n cap q k:Nat} {Dn ys:A8 Int} (h:lG w e 1 (.slice (some ⟨g,0,none⟩) n cap) n (Dn.map Di)) (J:ys.length=n) (L:k<=n):
 lG (Go.Sort.putRow Di (Go.Sort.ahead w q) g 0 ys.toArray) e 1 (.slice (some ⟨g,0,none⟩) k cap) k ((ys.take k).map Di):=by
 rcases h.2 with⟨j,_⟩|⟨M,u,cur,j,z,I,O,hm,hs,ht⟩
 ·cases j
 injection j with e1 _ e3
 injection e1 with e1
 injection e1 with e1
 subst e1;subst e3;refine⟨EN,.inr ⟨g,cap,Go.Sort.putCells Di 0 ys.toArray cur,rfl,z,?_,AB,hm,by simpa[Go.Sort.putCells]using hs,?_⟩⟩
 ·simp[Go.Sort.putRow,Go.Sort.mapBlock,Go.Sort.ahead,OH,I,Go.Sort.onCells]
 have :=take_putCellsI cur ys AB;rw[dO,YK,←this,aKV,jK AB]
def aj7 {l m:A8 Int} (h:l.Perm m):Qb l=Qb m:=by
 have hs:∀(l:A8 Int),(Qb l).Pairwise (· <= ·):=pR;exact((TS l).trans (h.trans (TS m).symm)).eq_of_pairwise (fun a b _ _ j q=>AB) (hs l) (hs m)
def acH {l m:A8 Int} (h:l.Perm m):N7 l=N7 m:=by
 unfold N7;rw[h.length_eq,aj7 h]
abbrev BF:=El Au
def yZ (l r:A8 Int) (h:N7 l=some r):BF 61 [.aO 0] [.arr 3 1 (List.map Ag l)] (.eX []) [.arr 3 1 (List.map Ag r)]:=by
 unfold N7 at h;split at h
 ·rename_i O;obtain rfl:=Dh h;refine El.aD9 fun v w q=>?_;rcases q.2 with⟨rfl,M⟩|⟨g,cap,cur,rfl,u,z,I,J,L,j⟩
  ·have hl:l=[]:=Hw M;subst hl;refine(Tryz.slices_Sort_int_none _ _ _).mono ?_;rintro e w' ⟨rfl,h⟩;subst h;exact⟨rfl,lG.nil _ _ _,Turns.refl _ _⟩
  have hs:(l.mergeSort fun x y=>x<=y).length=l.length:=List.length_mergeSort _;refine(Tryz.slices_Sort_int g 0 cap l w (holds_of_blockI z Vq) (Gl.1 z).1 AB).mono ?_;rintro e w' ⟨rfl,n,os,rfl⟩;rw[aFs];refine⟨rfl,?_,Turns.aBX (grownBy_sortedI _)⟩;rw[hs];exact ad5 (os:=os) (n:=n) hs z I J L
 cases h
def aKY (l r:A8 Int) (h:Vs l=some r):BF 62 [.aO 0] [.arr 3 1 (List.map Ag l)] (.aO 1) [.dead,.arr 3 1 (List.map Ag r)]:=by
 unfold Vs at h;split at h
 ·rename_i hn;obtain rfl:=Dh h;refine El.turned fun v w u=>?_;rcases u.2 with⟨rfl,O⟩|⟨g,cap,cur,rfl,I,z,J,U,Y,j⟩
  ·have hl:l=[]:=Hw O;subst hl;refine(Tryz.slices_Compact_int_empty _ _ _).mono ?_;rintro e w' ⟨rfl,h⟩;subst h;exact⟨_,rfl,lG.nil _ _ _,Turns.refl _ _,fun g z=>by simp[EF]at z⟩
  refine(Tryz.slices_Compact_int g 0 cap l w (holds_of_blockI z Vq) AB J).mono ?_;rintro e w' ⟨rfl,q,rfl⟩;have L:=Lib.compact_length_le l;have Z:(Lib.compact l++List.replicate (l.length-(Lib.compact l).length) 0).length=l.length:=EN
  refine⟨_,rfl,?_,?_,fun g z=>.inl z⟩
  ·have :=aaj (q:=q) u Z L;rw[pK rfl]at this;exact this
  exact⟨rfl,rfl,rfl,by simp[Sort.putRow,Sort.mapBlock,Sort.ahead],fun k hk M=>by
   have :g≠k:=fun e=>M jd
   simp[Sort.putRow,Sort.mapBlock,Sort.ahead,OH,this]⟩
 cases h
def strings_IndexByte (s:BA) (c:Int):AO Int:=some (Lib.indexByte s.data.toList c.toNat.toUInt8)
def agA (s:BA) (c:Int) (r:Int) (h:strings_IndexByte s c=some r):BF 140 [.d (DW s),.d (Dp c)] [] (.d (Ag r)) []:=by
 rw[←Dh h];exact El.plain (vs:=[.string s,.int .u8 c]) (v:=.int .i64 (Lib.indexByte s.data.toList c.toNat.toUInt8)) (fun _ _ _=>.d _ _ (.lit _)) fun w=>(Tryz.strings_IndexByte s c w).mono fun e w' ⟨j,q⟩=>⟨j,by rw[q];exact⟨rfl,rfl,rfl,EX _,fun _ _=>rfl⟩⟩
def aC7 (s t:BA):AO Int:=match t.data.toList with
 | [c]=>some (Lib.indexByte s.data.toList c)
 |_=>none
def ae0 (s t:BA) (r:Int) (h:aC7 s t=some r):BF 317 [.d (DW s),.d (DW t)] [] (.d (Ag r)) []:=by
 unfold aC7 at h;split at h
 ·rename_i c j;rw[←Dh h];obtain⟨⟨l⟩⟩:=t;simp only at j;subst j;exact El.plain (vs:=[.string s,.string ⟨#[c]⟩]) (v:=.int .i64 (Lib.indexByte s.data.toList c)) (fun _ _ _=>.d _ _ (.lit _)) fun w=>(Tryz.stringslite_Index_one s c w).mono fun e w' ⟨q,u⟩=>⟨q,by rw[u];exact⟨rfl,rfl,rfl,EX _,fun _ _=>rfl⟩⟩
 cases h
structure Yf (P:Program) (t:TypeId) (s:Nat) (z:Value):Prop where
 und:∃n e,P.underlying t=some (.array n e)/\∃i,P.info? e=some i/\i.size=s
 zero:(P.info? t).bind (·.zero)=some z
 one:z.cells.all (·.oneCell')=true
def aSH (P:Cm) (t:CO) (s:Nat):Ad:=
 match P.underlying t with
 |some (.array _ e)=>match P.info? e with
  |some i=>i.size=s
  |none=>false
 |_=>false
def a04 {P:Cm} {t:CO} {s:Nat} {z:Aw} (h:aSH P t s=true) (j:(P.info? t).bind (·.zero)=some z) (q:z.cells.all (·.oneCell')=true):Yf P t s z:=by
 unfold aSH at h;split at h
 ·rename_i n e u;split at h
  ·rename_i i hi;exact⟨⟨n,e,u,i,hi,YN h⟩,j,q⟩
  cases h
 cases h
section
variable {P:Cm} {o:Oper} {es:A8 Bf} {α:Type}
def alD {t:CO} {j:Bh (Nat×CM)} {s:Nat} {z:Aw} (hA:Yf P t s z) (vs:A8 Ai) (hp:O6 (fun i=>some (i*s,s)) (GI z).length j.toList vs=true)
 (hd:(LG (fun i=>some (i*s,s)) (GI z) j.toList vs).all Ai.BJ=true) (ho:o.op=.build t j):
 CS P o (Nw j.toList vs) es (.d (.agg (JQ (LG (fun i=>some (i*s,s)) (GI z) j.toList vs)))) es:=
 .pure fun ok H a w _ _ hn=>by
  obtain⟨⟨n,e,hu,i,hi,hs⟩,hz,h1⟩:=hA;have u:=aDq (P:=P) hz w;have I:(underlying t).run P w=.ok (.array n e) w:=aEd
  have J:(sizeOf e).run P w=.ok s w:=aFw
  obtain⟨q,hc,L⟩:=sB (place:=fun i=>some (i*s,s)) j.toList vs (GI z) z.cells (aJV (ok:=ok) (w:=w) (H:=H) h1) hp hn;refine⟨.agg q,?_,.d _ _ ?_⟩
  ·have e:(j.map fun(i,x)=>(i,a.eval x)).toList=j.toList.map fun p=>(p.1,a.eval p.2):=Bj
   simp only[execOp,ho,Instr.build,Fl,u,I,J,G8];rw[e,hc];rfl
  rw[aOx hd]at L;generalize JQ (LG (fun i=>some (i*s,s)) (GI z) j.toList vs)=xs at L ⊢;obtain⟨Z,M⟩:=L;simp only[DY]at Z M
  have hg:∀i,i<xs.length->(xs.map Ai.d).getD i .junk=.d (xs.getD i ES):=by
   intro i hi;simp[List.getD,hi]
  have O:q.size=xs.length:=by simpa using Z
  refine .agg xs q O ?_ ?_<;>intro i hi
  ·have :=(M i hi).1;rw[hg i hi]at this;exact this
  have U:=(M i hi).2;rw[hg i hi]at U;have Y:i<q.size:=AB
  have e:q.toList.getD i undef=q.getD i undef:=by simp[List.getD,Array.getD,Y]
  rw[e]at U;cases U with |d _ _ h=>exact h
def NZ (enc:α->D) (l:A8 α):D:=.agg (l.map enc)
def a2y {x y:CM} {t e:CO} {n:Nat} {k:IntKind} {i:Int} (enc:α->D) {l:A8 α} {a:α} (h:Am l i=some a) (ht:P.underlying t=some (.array n e)) (I:Ee P e false 1) (hl:l.length=n) (U:o.op=.index t x y):
 CS P o [(x,.d (NZ enc l)),(y,.d (.lit (.int k i)))] es (.d (enc a)) es:=
 .pure fun ok H Y w _ _ J=>by
  obtain⟨Z,L⟩:=GH h;have q:=(FK J).1;have M:=(FK J).2.lit;simp only at q M;have u:=(Fv.1 L).1;have hu:(underlying t).run P w=.ok (.array n e) w:=O4
  generalize hv:Y.eval x=v at q;cases q with
  |d _ _ q=>
   cases q with
   |agg _ vs z hf O=>
    rw[DY]at z hf O;have j:i.toNat<vs.size:=AB
    refine⟨vs[i.toNat],?_,?_⟩
    ·have hb:0<=i/\i<n:=⟨Z,AB⟩
     simp only[execOp,U,hv,M,Instr.index,asIntOf,Fl,Gw,hu,G8,hb,and_self,Jr,I.size w,part,I.agg w];simp[j]
    have :=O i.toNat u;simp only[Array.getD,j,dif_pos]at this;have e2:(l.map enc).getD i.toNat ES=enc a:=by simp[List.getD,L]
    rw[e2]at this;exact .d _ _ this
def akb {x:CM} {k off:Nat} (q:o.op=.nilCheck x):CS P o [(x,.ptr k off)] es (.ptr k off) es:=
 .pure fun ok H a w _ _ z=>by
  have j:=LP z;simp only at j;generalize I:a.eval x=u at j;cases j with
  |ptr _ _ b s h=>exact⟨_,by simp[execOp,q,I],.ptr _ _ b s h⟩
def af9 {x:CM} {k i off:Nat} (q:o.op=.nilCheck x):CS P o [(x,.lC k i off)] es (.lC k i off) es:=
 .pure fun ok H a w _ _ z=>by
  have j:=LP z;simp only at j;generalize I:a.eval x=u at j;cases j with
  |lC _ _ _ b n cap s h=>exact⟨_,by simp[execOp,q,I],.lC _ _ _ b n cap s h⟩
def adq {x:CM} {cs:A8 D} {off:Nat} (z:o.op=.nilCheck x):CS P o [(x,.d (.ref cs off))] es (.d (.ref cs off)) es:=
 .pure fun ok H a w _ _ I=>by
  have j:=LP I;simp only at j;generalize J:a.eval x=u at j;cases j with
  |d _ _ h=>cases h with
   |ref _ _ b p q L M O=>exact⟨_,by simp[execOp,z,J],.d _ _ (.ref _ _ b p q L M O)⟩
def aVz (n:Nat):D:=.fn (.func n) [] []
end
def Pz {α:Type} (p:α->Prop):A8 α->Prop
 | []=>True
 |x::l=>p x/\Pz p l
def Pz.mem {α:Type} {p:α->Prop}:∀{l:A8 α},Pz p l->∀x∈l,p x
 | [],_,x,h=>J8
 |y::l,hl,x,h=>by
  rcases F5.1 h with rfl|h
  ·exact hl.1
  exact hl.2.mem x h
class Kn (P:Program) where
 und:List (Nat×TypeDesc)
 amv:Pz (fun p:Nat×TypeDesc=>P.underlying p.1=some p.2) und
 ty:List (Nat×Bool×Nat)
 hty:Pz (fun p:Nat×Bool×Nat=>Ee P p.1 p.2.1 p.2.2) ty
 fld:List ((Nat×Nat)×Nat)
 hfld:Pz (fun p:(Nat×Nat)×Nat=>EH P p.1.1 p.1.2 p.2) fld
 part:List ((Nat×Nat)×Nat×Bool×Nat)
 hpart:Pz (fun p:(Nat×Nat)×Nat×Bool×Nat=>nS P p.1.1 p.1.2 p.2.1 p.2.2.1 p.2.2.2=true) part
 zero:List (Nat×Value)
 hzero:Pz (fun p:Nat×Value=>(P.info? p.1).bind (·.zero)=some p.2/\p.2.cells.all (·.oneCell')=true) zero
 st:List (Nat×List (Nat×Nat)×Value)
 hst:Pz (fun p:Nat×List (Nat×Nat)×Value=>Jj P p.1 p.2.1 p.2.2) st
 arr:List (Nat×Nat×Value)
 harr:Pz (fun p:Nat×Nat×Value=>Yf P p.1 p.2.1 p.2.2) arr
def RH {β:Type} (t:Nat):A8 (Nat×β)->AO β
 | []=>none
 |(u,b)::l=>match Nat.beq t u with |true=>some b|false=>RH t l
def OX {β:Type} {t:Nat} {b:β}:∀{l:A8 (Nat×β)},RH t l=some b->(t,b)∈l
 | [],h=>JD
 |(u,c)::l,h=>by
  unfold RH at h;split at h
  ·rename_i e;cases h;rw[aIS e];exact GU
  exact Gv _ (OX h)
def sI {β:Type} (t f:Nat):A8 ((Nat×Nat)×β)->AO β
 | []=>none
 |((u,g),b)::l=>match Nat.beq t u&&Nat.beq f g with |true=>some b|false=>sI t f l
def rQ {β:Type} {t f:Nat} {b:β}:∀{l:A8 ((Nat×Nat)×β)},sI t f l=some b->((t,f),b)∈l
 | [],h=>JD
 |((u,g),c)::l,h=>by
  unfold sI at h;split at h
  ·rename_i e;cases h;rw[Df]at e;rw[aIS e.1,aIS e.2];exact GU
  exact Gv _ (rQ h)
structure QA where
 ns:List (Operand×Ai)
 x:Ai
 E:List Bf
 bar:Bool
def aGt (op:BinOp) (k:IntKind) (a b:Int):AO Aw:=
 match op with
 | .add=>some (.int k (k.wrap (a+b)))
 | .sub=>some (.int k (k.wrap (a-b)))
 | .mul=>some (.int k (k.wrap (a*b)))
 | .eql=>some (.bool (a==b))
 | .neq=>some (.bool (a != b))
 | .lss=>some (.bool (decide (a<b)))
 | .leq=>some (.bool (decide (a<=b)))
 | .gtr=>some (.bool (decide (a>b)))
 | .geq=>some (.bool (decide (a>=b)))
 |_=>none
def ag8 {op:BinOp} {k:IntKind} {a b:Int} {r:Aw} {t:CO} {P:Cm} (h:aGt op k a b=some r) (w:Bc):(binOp op t (.int k a) (.int k b)).run P w=.ok r w:=by
 unfold aGt at h;cases op<;>first|(cases h;done)|(cases h;simp[binOp,Op.intArith,Op.intCmp];done)|(cases h;cases k<;>rfl)
def aJx (op:BinOp) (a b:BA):AO Aw:=
 match op with
 | .eql=>some (.bool (a.toList==b.toList))
 | .neq=>some (.bool (!(a.toList==b.toList)))
 | .lss=>some (.bool (Op.bytesLess a.toList b.toList))
 | .leq=>some (.bool (Op.bytesLess a.toList b.toList||a.toList==b.toList))
 | .gtr=>some (.bool (!(Op.bytesLess a.toList b.toList||a.toList==b.toList)))
 | .geq=>some (.bool (!Op.bytesLess a.toList b.toList))
 |_=>none
def amx {op:BinOp} {a b:BA} {r:Aw} {t:CO} {P:Cm} (h:aJx op a b=some r) (w:Bc):(binOp op t (.string a) (.string b)).run P w=.ok r w:=by
 unfold aJx at h;cases op<;>first|(cases h;done)|(cases h;rfl)
def CS.aFz {P:Cm} {o:Oper} {ns j:A8 (CM×Ai)} {es es':A8 Bf} {x:Ai} (h:CS P o ns es x es') (q:∀n∈ns,n∈j\/n=(.const (.slice none 0 0),.d (.sl []))):CS P o j es x es':=by
 intro C ok H a w Q hm z;refine h C ok H a w Q hm (fun n u=>?_);rcases q n u with I|rfl
 ·exact z n I
 exact .d _ _ (.sl0 none 0)
def Ai.aNx:Ai->AO Aw
 | .d (.lit v)=>some v
 |_=>none
def aL2 {P:Cm} (K:Kn P) (σ:BR) (o:Oper):AO QA:=
 match o.op with
 | .move x=>match x with
   | .const (.slice none 0 0)=>some ⟨[],.d (.sl []),σ.ents,false⟩
   |x=>some ⟨[(x,σ.get x)],σ.get x,σ.ents,false⟩
 | .assign x=>match x with
   | .const (.slice none 0 0)=>some ⟨[],.d (.sl []),σ.ents,false⟩
   |x=>some ⟨[(x,σ.get x)],σ.get x,σ.ents,false⟩
 | .pick c x y=>match σ.get c with
   | .d (.lit (.bool true))=>some ⟨[(c,.d (.lit (.bool true))),(x,σ.get x)],σ.get x,σ.ents,false⟩
   | .d (.lit (.bool false))=>some ⟨[(c,.d (.lit (.bool false))),(y,σ.get y)],σ.get y,σ.ents,false⟩
   |_=>none
 | .binOp op t x y _=>match σ.get x,σ.get y with
   | .d (.lit (.int k a)),.d (.lit (.int k' b))=>if k=k' then(aGt op k a b).map fun r=>⟨[(x,.d (.lit (.int k a))),(y,.d (.lit (.int k b)))],.d (.lit r),σ.ents,false⟩else none
   | .d (.lit (.string a)),.d (.lit (.string b))=>(aJx op a b).map fun r=>⟨[(x,.d (.lit (.string a))),(y,.d (.lit (.string b)))],.d (.lit r),σ.ents,false⟩
   | .d (.lit (.bool a)),.d (.lit (.bool b))=>match RH t K.und with
     |some .bool=>match op with
      | .eql=>some ⟨[(x,.d (Ea a)),(y,.d (Ea b))],.d (Ea (a==b)),σ.ents,false⟩
      | .neq=>some ⟨[(x,.d (Ea a)),(y,.d (Ea b))],.d (Ea (!(a==b))),σ.ents,false⟩
      |_=>none
     |_=>none
   |_,_=>none
 | .unOp op _ x=>match σ.get x with
   | .d (.lit (.bool b))=>match op with
     | .not=>some ⟨[(x,.d (.lit (.bool b)))],.d (.lit (.bool !b)),σ.ents,false⟩
     |_=>none
   | .d (.lit (.int k n))=>match op with
     | .neg=>some ⟨[(x,.d (.lit (.int k n)))],.d (.lit (.int k (k.wrap (0-n)))),σ.ents,false⟩
     |_=>none
   |_=>none
 | .convert s t x=>match RH s K.und,RH t K.und,σ.get x with
   |some (.int J),some (.int k),.d (.lit (.int L n))=>if J=L then some ⟨[(x,.d (.lit (.int J n)))],.d (.lit (.int k (k.wrap n))),σ.ents,false⟩else none
   |some .string,some .string,.d (.lit (.string u))=>some ⟨[(x,.d (DW u))],.d (DW u),σ.ents,false⟩
   |_,_,_=>none
 | .extract x i=>match σ.get x with
   | .eX xs=>match xs[i]? with
     |some v=>some ⟨[(x,.eX xs)],v,σ.ents,false⟩
     |none=>none
   |_=>none
 | .fieldAddr t x f=>match sI t f K.fld,σ.get x with
   |some off,.ptr k I=>some ⟨[(x,.ptr k I)],.ptr k (I+off),σ.ents,false⟩
   |some off,.lC k i I=>some ⟨[(x,.lC k i I)],.lC k i (I+off),σ.ents,false⟩
   |some off,.d (.ref cs I)=>some ⟨[(x,.d (.ref cs I))],.d (.ref cs (I+off)),σ.ents,false⟩
   |_,_=>none
 | .nilCheck x=>match σ.get x with
   | .ptr k I=>some ⟨[(x,.ptr k I)],.ptr k I,σ.ents,false⟩
   | .lC k i I=>some ⟨[(x,.lC k i I)],.lC k i I,σ.ents,false⟩
   | .d (.ref cs I)=>some ⟨[(x,.d (.ref cs I))],.d (.ref cs I),σ.ents,false⟩
   |_=>none
 | .field t x f=>match sI t f K.part,σ.get x with
   |some (off,agg,n),.d (.agg cs)=>if off+n<=cs.length/\(agg=false->n=1)then some ⟨[(x,.d (.agg cs))],.d (QY agg cs off n),σ.ents,false⟩else none
   |_,_=>none
 | .load t x=>match RH t K.ty,σ.get x with
   |some (agg,n),.d (.ref cs off)=>if off+n<=cs.length/\(agg=false->n=1)then some ⟨[(x,.d (.ref cs off))],.d (QY agg cs off n),σ.ents,false⟩else none
   |some (agg,n),.ptr k off=>match σ.ents[k]? with
    |some (.box cs)=>if(off+n<=cs.length/\(agg=false->n=1))/\cs.all Ai.BJ=true then some ⟨[(x,.ptr k off)],.d (QY agg (JQ cs) off n),σ.ents,false⟩else match agg,n,cs[off]? with
     |false,1,some v=>some ⟨[(x,.ptr k off)],v,σ.ents,false⟩
     |_,_,_=>none
    |_=>none
   |_,_=>none
 | .box _ x=>if(σ.get x).cells.all Ai.leaf=true then some ⟨[(x,σ.get x)],.ptr σ.ents.length 0,σ.ents++[.box (σ.get x).cells],true⟩else none
 | .alloc t=>match RH t K.zero with
   |some z=>some ⟨[],.ptr σ.ents.length 0,σ.ents++[.box (GI z)],true⟩
   |none=>none
 | .store t x y=>match RH t K.ty,σ.get x with
   |some (_,n),.ptr k off=>match σ.ents[k]? with
    |some (.box cs)=>match y with
     | .const (.slice none 0 0)=>if n=1/\off+1<=cs.length then some ⟨[(x,.ptr k off)],.junk,σ.ents.set k (.box (setAt cs off [.d (.sl [])])),true⟩else none
     |y=>if((σ.get y).cells.all Ai.leaf=true/\(σ.get y).cells.length=n)/\off+n<=cs.length then some ⟨[(x,.ptr k off),(y,σ.get y)],.junk,σ.ents.set k (.box (setAt cs off (σ.get y).cells)),true⟩else none
    |_=>none
   |_,_=>none
 | .build t j=>match RH t K.st with
   |some (q,z)=>
    if O6 (fun(i:Nat)=>q[i]?) (GI z).length j.toList (j.toList.map fun p=>σ.get p.2)=true/\(LG (fun(i:Nat)=>q[i]?) (GI z) j.toList (j.toList.map fun p=>σ.get p.2)).all Ai.BJ=true
    then some ⟨Nw j.toList (j.toList.map fun p=>σ.get p.2),.d (.agg (JQ (LG (fun(i:Nat)=>q[i]?) (GI z) j.toList (j.toList.map fun p=>σ.get p.2)))),σ.ents,false⟩
    else none
   |none=>match RH t K.arr with
    |some (s,z)=>
     if O6 (fun i=>some (i*s,s)) (GI z).length j.toList (j.toList.map fun p=>σ.get p.2)=true/\(LG (fun i=>some (i*s,s)) (GI z) j.toList (j.toList.map fun p=>σ.get p.2)).all Ai.BJ=true
     then some ⟨Nw j.toList (j.toList.map fun p=>σ.get p.2),.d (.agg (JQ (LG (fun i=>some (i*s,s)) (GI z) j.toList (j.toList.map fun p=>σ.get p.2)))),σ.ents,false⟩
     else none
    |none=>none
 | .call c=>match c.callee,c.args.toList,c.argTypes.toList with
   | .builtin .len,[x],[t]=>match RH t K.und,σ.get x with
     |some .string,.d (.lit (.string s))=>some ⟨[(x,.d (DW s))],.d (Ag s.size),σ.ents,false⟩
     |_,_=>none
   |_,_,_=>none
 |_=>none
def aMa (σ:BR):∀(l:A8 (Nat×CM)),needs σ (Nw l (l.map fun p=>σ.get p.2))
 | []=>trivial
 |(_,x)::l=>⟨rfl,aMa σ l⟩
def aa4 {P:Cm} (K:Kn P) {σ:BR} {o:Oper} {r:QA} (h:aL2 K σ o=some r):CS P o r.ns σ.ents r.x r.E/\needs σ r.ns/\(r.bar=false->r.E=σ.ents):=by
 unfold aL2 at h;split at h
 ·rename_i x j;split at h
  ·cases h;exact⟨aZx j,trivial,fun _=>rfl⟩
  cases h;exact⟨alO j,⟨rfl,trivial⟩,fun _=>rfl⟩
 ·rename_i x j;split at h
  ·cases h;exact⟨agP j,trivial,fun _=>rfl⟩
  cases h;exact⟨anC j,⟨rfl,trivial⟩,fun _=>rfl⟩
 ·rename_i c x y j;split at h
  ·rename_i e;cases h;exact⟨alM true rfl j,⟨e,rfl,trivial⟩,fun _=>rfl⟩
  ·rename_i e;cases h;exact⟨af2 false rfl j,⟨e,rfl,trivial⟩,fun _=>rfl⟩
  cases h
 ·rename_i op t x y t' j;split at h
  ·rename_i k a k' b U Y;split at h
   ·rename_i J;subst J;rw[Ul]at h;obtain⟨v,M,rfl⟩:=h;exact⟨Ho j (ag8 M) ⟨rfl,rfl⟩,⟨U,Y,trivial⟩,fun _=>rfl⟩
   cases h
  ·rename_i a b U Y;rw[Ul]at h;obtain⟨v,M,rfl⟩:=h;exact⟨Ho j (amx M) ⟨rfl,rfl⟩,⟨U,Y,trivial⟩,fun _=>rfl⟩
  ·rename_i a b U Y;split at h
   ·rename_i Z;have Z:=K.amv.mem _ (OX Z);split at h
    ·cases h;exact⟨alE Z j,⟨U,Y,trivial⟩,fun _=>rfl⟩
    ·cases h;exact⟨ahS Z j,⟨U,Y,trivial⟩,fun _=>rfl⟩
    cases h
   cases h
  cases h
 ·rename_i op t x j;split at h
  ·rename_i b e;split at h
   ·cases h;exact⟨aNf j (fun _=>rfl),⟨e,trivial⟩,fun _=>rfl⟩
   cases h
  ·rename_i k n e;split at h
   ·cases h;exact⟨aNf j (fun _=>rfl),⟨e,trivial⟩,fun _=>rfl⟩
   cases h
  cases h
 ·rename_i s t x j;split at h
  ·rename_i k0 k k1 n I h2 e;split at h
   ·rename_i J;subst J;cases h;exact⟨aeA (K.amv.mem _ (OX I)) (K.amv.mem _ (OX h2)) j,⟨e,trivial⟩,fun _=>rfl⟩
   cases h
  ·rename_i u I h2 e;cases h;exact⟨ajN (K.amv.mem _ (OX I)) (K.amv.mem _ (OX h2)) j,⟨e,trivial⟩,fun _=>rfl⟩
  cases h
 ·rename_i x i j;split at h
  ·rename_i xs e;split at h
   ·rename_i v M;cases h;exact⟨aeN j M,⟨e,trivial⟩,fun _=>rfl⟩
   cases h
  cases h
 ·rename_i t x f j;split at h
  ·rename_i off k o' I e;cases h;exact⟨ahQ (K.hfld.mem _ (rQ I)) j,⟨e,trivial⟩,fun _=>rfl⟩
  ·rename_i off k i o' I e;cases h;exact⟨ab6 (K.hfld.mem _ (rQ I)) j,⟨e,trivial⟩,fun _=>rfl⟩
  ·rename_i off cs o' I e;cases h;exact⟨ag3 (K.hfld.mem _ (rQ I)) j,⟨e,trivial⟩,fun _=>rfl⟩
  cases h
 ·rename_i x j;split at h
  ·rename_i e;cases h;exact⟨akb j,⟨e,trivial⟩,fun _=>rfl⟩
  ·rename_i e;cases h;exact⟨af9 j,⟨e,trivial⟩,fun _=>rfl⟩
  ·rename_i e;cases h;exact⟨adq j,⟨e,trivial⟩,fun _=>rfl⟩
  cases h
 ·rename_i t x f j;split at h
  ·rename_i off agg n cs I e;split at h
   ·rename_i q;cases h;exact⟨abC rfl (K.hpart.mem _ (rQ I)) q.1 q.2 j,⟨e,trivial⟩,fun _=>rfl⟩
   cases h
  cases h
 ·rename_i t x j;split at h
  ·rename_i agg n cs off I e;split at h
   ·rename_i q;cases h;exact⟨ajF rfl (K.hty.mem _ (OX I)) q.1 q.2 j,⟨e,trivial⟩,fun _=>rfl⟩
   cases h
  ·rename_i agg n k off I e;split at h
   ·rename_i cs J;split at h
    ·rename_i q;cases h;exact⟨agi rfl J q.2 (K.hty.mem _ (OX I)) q.1.1 q.1.2 j,⟨e,trivial⟩,fun _=>rfl⟩
    split at h
    ·rename_i v M _;cases h;exact⟨aTv J M (K.hty.mem _ (OX I)) j,⟨e,trivial⟩,fun _=>rfl⟩
    cases h
   cases h
  cases h
 ·rename_i t x j;split at h
  ·rename_i q;cases h;exact⟨akq q j,⟨rfl,trivial⟩,fun O=>by cases O⟩
  cases h
 ·rename_i t j;split at h
  ·rename_i z hz;cases h;exact⟨ao2 (K.hzero.mem _ (OX hz)).1 (K.hzero.mem _ (OX hz)).2 j,trivial,fun O=>by cases O⟩
  cases h
 ·rename_i t x y j;split at h
  ·rename_i agg n k off I e;split at h
   ·rename_i cs J;split at h
    ·split at h
     ·rename_i q;cases h;refine⟨CS.aFz (aYT (v:=.d (.sl [])) J rfl (by have h9:=(K.hty.mem _ (OX I)).size;rw[q.1]at h9;exact h9) rfl q.2 j) (fun n hn=>?_),⟨e,trivial⟩,fun O=>by cases O⟩;simp only[F5,FB,nI]at hn;rcases hn with rfl|rfl
      ·exact .inl Bj
      exact .inr rfl
     cases h
    split at h
    ·rename_i q;cases h;exact⟨aYT J q.1.1 (K.hty.mem _ (OX I)).size q.1.2 q.2 j,⟨e,rfl,trivial⟩,fun O=>by cases O⟩
    cases h
   cases h
  cases h
 ·rename_i t parts j;split at h
  ·rename_i places z hs;split at h
   ·rename_i q;cases h;exact⟨al4 (K.hst.mem _ (OX hs)) _ j rfl q.1 q.2,aMa σ _,fun _=>rfl⟩
   cases h
  split at h
  ·rename_i s z hs;split at h
   ·rename_i q;cases h;exact⟨alD (K.harr.mem _ (OX hs)) _ q.1 q.2 j,aMa σ _,fun _=>rfl⟩
   cases h
  cases h
 ·rename_i c j;split at h
  ·rename_i x t L ha ht
   have j:o.op=.call { callee:=.builtin .len,args:= #[x],argTypes:= #[t] }:=by
    obtain⟨cal,aNB,ts⟩:=c;simp only at L ha ht;rw[j,L,show aNB= #[x]from by rw[←ah (xs:=aNB),ha],show ts= #[t]from by rw[←ah (xs:=ts),ht]]
   split at h
   ·rename_i s I e;cases h;exact⟨afM s (K.amv.mem _ (OX I)) j,⟨e,trivial⟩,fun _=>rfl⟩
   cases h
  cases h
 cases h
def JC (ops:Bh Oper) (σ:BR):AO (Nat×Ad)->AO Ad
 |none=>some true
 |some (j,q)=>match(ops[j]?).bind (·.dst)with
  |some d=>match σ.slots.getD d .junk with
   | .d (.lit (.bool b))=>some (b==q)
   | .d (.lit (.tuple a))=>match a.toList with
     | []=>some false
     |_=>none
   |_=>none
  |none=>none
def Na {ops:Bh Oper} {σ:BR} {g:AO (Nat×Ad)} (h:JC ops σ g=some true):WQ ops σ g:=by
 unfold JC at h;split at h
 ·exact .inl rfl
 rename_i j q;split at h
 ·rename_i d hd;split at h
  ·rename_i b hs;refine .inr ⟨j,q,d,b,rfl,hd,hs,?_⟩;simpa using h
  ·split at h<;>cases h
  cases h
 cases h
def ag4 {ops:Bh Oper} {σ:BR} {g:AO (Nat×Ad)} (h:JC ops σ g=some false):Yn ops σ g:=by
 unfold JC at h;split at h
 ·cases h
 rename_i j q;split at h
 ·rename_i d hd;split at h
  ·rename_i b hs;refine aZu j q d b rfl hd hs ?_;have :(b==q)=false:=Dh h;cases b<;>cases q<;>first|rfl|cases this
  ·rename_i a hs;split at h
   ·rename_i ha;have ha:a= #[]:=by rw[←ah (xs:=a),ha]
    subst ha;exact afj j q d rfl hd hs
   cases h
  cases h
 cases h
def WI {P:Cm} (K:Kn P) (ops:Bh Oper) (σ:BR) (o:Oper):AO QA:=
 match JC ops σ o.guard with
 |some true=>match aL2 K σ o with
  |some r=>if(KF r.ns).all (tmpsOf o).contains=true then some r else none
  |none=>none
 |some false=>some ⟨[],.d (.lit undef),σ.ents,false⟩
 |none=>none
def Vu {P:Cm} (K:Kn P) {ops:Bh Oper} {σ:BR} {o:Oper} {r:QA} (h:WI K ops σ o=some r):Sr P ops σ r.x r.E r.bar o:=by
 unfold WI at h;split at h
 ·rename_i j;split at h
  ·rename_i J q;split at h
   ·rename_i ht;cases h;obtain⟨u,z,I⟩:=aa4 K q;exact⟨.inl ⟨_,u,z,ht,Na j⟩,I⟩
   cases h
  cases h
 ·rename_i j;cases h;exact⟨.inr ⟨rfl,rfl,ag4 j⟩,fun _=>rfl⟩
 cases h
def Gy {P:Cm} (K:Kn P) (ops:Bh Oper):Nat->A8 Oper->BR->AO (BR×A8 QA)
 |0,_,σ=>some (σ,[])
 |n+1,l,σ=>match l with
  |o::l=>match WI K ops σ o with
   |some r=>match Gy K ops n l (σ.put o.dst r.x r.E)with
    |some (σ',rs)=>some (σ',r::rs)
    |none=>none
   |none=>none
  | []=>none
def OQ :AO (BR×A8 QA)->BR
 |some (σ,_)=>σ
 |none=>⟨[],[],0⟩
def eS :AO (BR×A8 QA)->A8 QA
 |some (_,rs)=>rs
 |none=>[]
def Chain.auto {P:Cm} (K:Kn P) {ops:Bh Oper}:∀(n:Nat) {l:A8 Oper} {σ σ':BR},(Gy K ops n l σ).isSome=true->Chain P ops (l.drop n) (OQ (Gy K ops n l σ)) σ'->Chain P ops l σ σ'
 |0,l,σ,σ',_,k=>by simpa[Gy,OQ]using k
 |n+1,l,σ,σ',h,k=>by
  unfold Gy at h k;split at h
  ·rename_i o l';split at h
   ·rename_i r q;split at h
    ·rename_i u rs j;simp only[q,j]at k;refine .ah4 o.dst (Vu K q) rfl (Chain.auto K n (by rw[j];rfl) ?_);rw[j];exact k
    cases h
   cases h
  cases h
def Fe.auto {P:Cm} (K:Kn P) {ops:Bh Oper}:∀(n:Nat) {l:A8 Oper} {σ σ':BR} {rs:A8 Ai} {ess:A8 (A8 Bf)} {bs:A8 Ad},(Gy K ops n l σ).isSome=true->Fe P ops (l.drop n) (OQ (Gy K ops n l σ)) rs ess bs σ'->
 Fe P ops l σ ((eS (Gy K ops n l σ)).map QA.x++rs) ((eS (Gy K ops n l σ)).map QA.E++ess) ((eS (Gy K ops n l σ)).map QA.bar++bs) σ'
 |0,l,σ,σ',rs,ess,bs,_,k=>by simpa[Gy,OQ,eS]using k
 |n+1,l,σ,σ',rs,ess,bs,h,k=>by
  unfold Gy at h k ⊢;split at h
  ·rename_i o l';split at h
   ·rename_i r q;split at h
    ·rename_i z u j;simp only[q,j]at k ⊢;refine .ah4 o.dst (Vu K q) rfl ?_;have :=Fe.auto K n (l:=l') (σ:=σ.put o.dst r.x r.E) (σ':=σ') (rs:=rs) (ess:=ess) (bs:=bs) (by rw[j];rfl) (by rw[j];exact k);rw[j]at this;exact this
    cases h
   cases h
  cases h
def Chain.a {P:Cm} [T:Kn P] {ops:Bh Oper} {l:A8 Oper} {σ σ':BR} (n:Nat) (k:Chain P ops (l.drop n) (OQ (Gy T ops n l σ)) σ') (h:(Gy T ops n l σ).isSome=true:=by kernel_rfl):Chain P ops l σ σ':=Chain.auto T n h k
def Fe.a {P:Cm} [T:Kn P] {ops:Bh Oper} {l:A8 Oper} {σ σ':BR} {rs:A8 Ai} {ess:A8 (A8 Bf)} {bs:A8 Ad} (n:Nat) (k:Fe P ops (l.drop n) (OQ (Gy T ops n l σ)) rs ess bs σ') (h:(Gy T ops n l σ).isSome=true:=by kernel_rfl):
 Fe P ops l σ ((eS (Gy T ops n l σ)).map QA.x++rs) ((eS (Gy T ops n l σ)).map QA.E++ess) ((eS (Gy T ops n l σ)).map QA.bar++bs) σ':=Fe.auto T n h k
def Chain.c {P:Cm} [T:Kn P] {ops:Bh Oper} {o:Oper} {rest:A8 Oper} {σ σ':BR} {e c:Ad} (h:some e=some c) (k:Chain P ops rest (σ.qJ o.dst (.d (.lit (.bool c)))) σ') (hs:(WI T ops σ o).map (fun r=>(r.x,r.E,r.bar))=some (.d (.lit (.bool e)),σ.ents,false):=by kernel_rfl):Chain P ops (o::rest) σ σ':=by
 rw[Ul]at hs;obtain⟨r,u,j⟩:=hs;have q:=Vu T u;simp only[NT]at j;rw[j.1,j.2.1,j.2.2,Dh h]at q;exact .ah4 o.dst q rfl k
def Fe.c {P:Cm} [T:Kn P] {ops:Bh Oper} {o:Oper} {rest:A8 Oper} {σ σ':BR} {rs:A8 Ai} {ess:A8 (A8 Bf)} {bs:A8 Ad} {e c:Ad} (h:some e=some c) (k:Fe P ops rest (σ.qJ o.dst (.d (.lit (.bool c)))) rs ess bs σ') (hs:(WI T ops σ o).map (fun r=>(r.x,r.E,r.bar))=some (.d (.lit (.bool e)),σ.ents,false):=by kernel_rfl):
 Fe P ops (o::rest) σ (.d (.lit (.bool c))::rs) (σ.ents::ess) (false::bs) σ':=by
 rw[Ul]at hs;obtain⟨r,u,j⟩:=hs;have q:=Vu T u;simp only[NT]at j;rw[j.1,j.2.1,j.2.2,Dh h]at q;exact .ah4 o.dst q rfl k
def aY6 (σ:BR) (ns:A8 (CM×Ai)):Prop:=(ns.map fun n=>σ.get n.1)=ns.map (·.2)
def Qs {σ:BR}:∀{ns:A8 (CM×Ai)},aY6 σ ns->needs σ ns
 | [],_=>trivial
 |n::ns,h=>by
  simp only[aY6,JJ,aFR]at h;exact⟨h.1,Qs h.2⟩
def Chain.p {P:Cm} {ops:Bh Oper} {o:Oper} {rest:A8 Oper} {σ σ':BR} {ns:A8 (CM×Ai)} {x:Ai} (h:CS P o ns σ.ents x σ.ents) (k:Chain P ops rest (σ.qJ o.dst x) σ') (j:(ns.map fun n=>σ.get n.1)=ns.map (·.2):=by kernel_rfl) (q:JC ops σ o.guard=some true:=by kernel_rfl):Chain P ops (o::rest) σ σ':=
 .op o.dst h (Qs j) (Na q) rfl k
def Fe.p {P:Cm} {ops:Bh Oper} {o:Oper} {rest:A8 Oper} {σ σ':BR} {ns:A8 (CM×Ai)} {x:Ai} {rs:A8 Ai} {ess:A8 (A8 Bf)} {bs:A8 Ad} (h:CS P o ns σ.ents x σ.ents) (k:Fe P ops rest (σ.qJ o.dst x) rs ess bs σ') (j:(ns.map fun n=>σ.get n.1)=ns.map (·.2):=by kernel_rfl) (q:JC ops σ o.guard=some true:=by kernel_rfl)
 (ht:(KF ns).all (tmpsOf o).contains=true:=by kernel_rfl):Fe P ops (o::rest) σ (x::rs) (σ.ents::ess) (false::bs) σ':=
 .op o.dst h (Qs j) (Na q) rfl ht k
def Chain.e {P:Cm} {ops:Bh Oper} {o:Oper} {rest:A8 Oper} {σ σ':BR} {ns:A8 (CM×Ai)} {x:Ai} {es':A8 Bf} (E:A8 Bf) (h:CS P o ns σ.ents x es') (k:Chain P ops rest (σ.put o.dst x E) σ') (j:es'=E:=by kernel_rfl) (q:(ns.map fun n=>σ.get n.1)=ns.map (·.2):=by kernel_rfl) (u:JC ops σ o.guard=some true:=by kernel_rfl):Chain P ops (o::rest) σ σ':=
 .oe o.dst E h j (Qs q) (Na u) rfl k
def Fe.e {P:Cm} {ops:Bh Oper} {o:Oper} {rest:A8 Oper} {σ σ':BR} {ns:A8 (CM×Ai)} {x:Ai} {es':A8 Bf} {rs:A8 Ai} {ess:A8 (A8 Bf)} {bs:A8 Ad} (E:A8 Bf) (h:CS P o ns σ.ents x es') (k:Fe P ops rest (σ.put o.dst x E) rs ess bs σ') (j:es'=E:=by kernel_rfl) (q:(ns.map fun n=>σ.get n.1)=ns.map (·.2):=by kernel_rfl) (u:JC ops σ o.guard=some true:=by kernel_rfl)
 (ht:(KF ns).all (tmpsOf o).contains=true:=by kernel_rfl):Fe P ops (o::rest) σ (x::rs) (E::ess) (true::bs) σ':=
 .oe o.dst E h j (Qs q) (Na u) rfl ht k
def UE (σ:BR) (o:Oper):AO (FuncId×A8 Ai):=
 match o.op with
 | .call c=>match c.callee with
   | .value (.func f)=>some (f,c.args.toList.map σ.get)
   |_=>none
 |_=>none
def aSD {srcs:A8 ET}:∀{l:A8 Ai},l.all Ai.BJ=true->NW srcs l l
 | [],_=>trivial
 |x::l,h=>by
  simp only[pX,Df]at h;refine⟨?_,aSD h.2⟩;cases x with
  |d x=>exact .inl rfl
  |_=>cases h.1
def aSo (σ:BR):∀(l:A8 CM),needs σ (Fq l (l.map σ.get))
 | []=>trivial
 |_::l=>⟨rfl,aSo σ l⟩
def a08 {P:Cm} {σ:BR} {o:Oper} {f:FuncId} {eG:A8 Ai} {u:Ai} (L:El P f eG [] u []) (M:Hg P f=true) (q:UE σ o=some (f,eG)) (hd:eG.all Ai.BJ=true):∃ns,CS P o ns σ.ents (u.up [] σ.ents.length) σ.ents/\needs σ ns/\(KF ns).all (tmpsOf o).contains=true:=by
 unfold UE at q;split at q
 ·rename_i c J;split at q
  ·rename_i Y j;cases q;obtain⟨callee,args,ats⟩:=c;simp only at j;subst j;refine⟨_,aQC L M (aSD hd) Bj rfl J,aSo σ _,?_⟩;rw[EY];intro t ht;unfold KF at ht;rw[TR]at ht;obtain⟨n,O,I⟩:=ht
   have z:n.1∈args.toList:=by
    have :∀(l:A8 CM) (vs:A8 Ai),n∈Fq l vs->n.1∈l:=by
     intro l
     induction l with
     |nil=>intro vs h;cases vs<;>simp[Fq]at h
     |cons x l U=>
      intro vs h;cases vs with
      |nil=>simp[Fq]at h
      |cons v vs=>
       simp only[Fq,F5]at h;rcases h with rfl|h
       ·exact GU
       exact Gv _ (U vs h)
    exact this _ _ O
   unfold tmpsOf;simp only[List.contains_iff_mem,TR];refine⟨n.1,?_,I⟩;rw[J];show n.1∈(#[Operand.func f]++args).toList;simp[z]
  cases q
 cases q
def Chain.call {P:Cm} {ops:Bh Oper} {o:Oper} {rest:A8 Oper} {σ σ':BR} {f:FuncId} {eG:A8 Ai} {j:Ai} (q:El P f eG [] j []) (u:Hg P f=true) (k:Chain P ops rest (σ.qJ o.dst (j.up [] σ.ents.length)) σ') (z:UE σ o=some (f,eG):=by kernel_rfl)
 (hd:eG.all Ai.BJ=true:=by kernel_rfl) (I:JC ops σ o.guard=some true:=by kernel_rfl):Chain P ops (o::rest) σ σ':=by
 obtain⟨ns,J,L,_⟩:=a08 q u z hd;exact .op o.dst J L (Na I) rfl k
def Fe.call {P:Cm} {ops:Bh Oper} {o:Oper} {rest:A8 Oper} {σ σ':BR} {f:FuncId} {eG:A8 Ai} {j:Ai} {rs:A8 Ai} {ess:A8 (A8 Bf)} {bs:A8 Ad} (q:El P f eG [] j []) (u:Hg P f=true) (k:Fe P ops rest (σ.qJ o.dst (j.up [] σ.ents.length)) rs ess bs σ') (z:UE σ o=some (f,eG):=by kernel_rfl)
 (hd:eG.all Ai.BJ=true:=by kernel_rfl) (I:JC ops σ o.guard=some true:=by kernel_rfl):Fe P ops (o::rest) σ (j.up [] σ.ents.length::rs) (σ.ents::ess) (false::bs) σ':=by
 obtain⟨ns,J,L,M⟩:=a08 q u z hd;exact .op o.dst J L (Na I) rfl M k
def zx (v:Aw):Exit:=.panic [{ v,recovered:=false }]
structure Dw (P:Program) (ops:Array Oper) (l:List Oper) (σ:BR) (K:Exit->BR->Prop):Prop where
 run:∀(ro:Option Nat) (l2:List Oper) (Q:Exit->Act->World->Prop) (C:En) (ok:Nat->Prop) (H:List CP) (a:Act) (w:World),Holds C ok H σ a w->
  ((∀σ' ok' H' a' w',K .normal σ'->Holds C ok' H' σ' a' w'->wpListIn (JF ro) 0 P ops Q l2 a' w')/\(∀v σ' ok' H' a' w',K (zx v) σ'->Holds C ok' H' σ' a' w'->Q (zx v) a' w'))->wpListIn (JF ro) 0 P ops Q (l++l2) a w
section
variable {P:Cm} {ops:Bh Oper} {o:Oper} {rest l:A8 Oper} {σ:BR} {K:Exit->BR->Prop}
def Dw.nil (h:K .normal σ):Dw P ops [] σ K:=⟨fun _ _ _ _ _ _ _ _ j q=>q.1 _ _ _ _ _ h j⟩
def Dw.aZ {M:BR->Prop} (h:M σ):Dw P ops [] σ (KH M K):=.nil h
def Dw.step {x:Ai} {E:A8 Bf} {bar:Ad} (hs:Sr P ops σ x E bar o) (k:Dw P ops rest (σ.put o.dst x E) K):Dw P ops (o::rest) σ K:=by
 refine⟨fun ro q Q C ok H a w j L=>?_⟩;show wpListIn (JF ro) 0 P ops Q (o::(rest++q)) a w;unfold wpListIn;rcases hs.1 with⟨ns,M,O,_,u⟩|⟨rfl,rfl,u⟩
 ·rw[DX (Q7 j u)];refine Qm ?_ (M.inR ro C ok H a w Q j.mem (fun n z=>Q5 O n z▸j.get n.1));rintro a' w' ⟨v,ok',H',rfl,I,J,hm,U⟩;exact k.run ro q Q C _ _ _ _ (j.put o.dst I J hm U) L
 rw[Dk (by rw[aKZ j u];simp)];exact⟨fun _ _=>trivial,k.run ro q Q C _ _ _ _ (j.put o.dst (.refl _ _) (.refl _) j.mem (.d _ _ (.lit _))) L⟩
def Dw.conv (q:BR) (h:∀C ok H a w,Holds C ok H σ a w->∃ok',Holds C ok' H q a w) (k:Dw P ops l q K):Dw P ops l σ K:=⟨fun ro u Q C ok H a w z I=>by
 obtain⟨ok',j⟩:=h C ok H a w z
 exact k.run ro u Q C _ _ _ _ j I⟩
def Dw.auto (T:Kn P):∀(n:Nat) {l:A8 Oper} {σ:BR},(Gy T ops n l σ).isSome=true->Dw P ops (l.drop n) (OQ (Gy T ops n l σ)) K->Dw P ops l σ K
 |0,l,σ,_,k=>by simpa[Gy,OQ]using k
 |n+1,l,σ,h,k=>by
  unfold Gy at h k;split at h
  ·rename_i o l';split at h
   ·rename_i r q;split at h
    ·rename_i u rs j;simp only[q,j]at k;refine .step (Vu T q) (Dw.auto T n (by rw[j];rfl) ?_);rw[j];exact k
    cases h
   cases h
  cases h
def Dw.a [T:Kn P] (n:Nat) (k:Dw P ops (l.drop n) (OQ (Gy T ops n l σ)) K) (h:(Gy T ops n l σ).isSome=true:=by kernel_rfl):Dw P ops l σ K:=Dw.auto T n h k
def Dw.p {ns:A8 (CM×Ai)} {x:Ai} (h:CS P o ns σ.ents x σ.ents) (k:Dw P ops rest (σ.qJ o.dst x) K) (j:(ns.map fun n=>σ.get n.1)=ns.map (·.2):=by kernel_rfl) (q:JC ops σ o.guard=some true:=by kernel_rfl) (ht:(KF ns).all (tmpsOf o).contains=true:=by kernel_rfl):Dw P ops (o::rest) σ K:=
 .step (aT3 h (Qs j) (Na q) ht) k
def Dw.e {ns:A8 (CM×Ai)} {x:Ai} {es':A8 Bf} (E:A8 Bf) (h:CS P o ns σ.ents x es') (k:Dw P ops rest (σ.put o.dst x E) K) (j:es'=E:=by kernel_rfl) (q:(ns.map fun n=>σ.get n.1)=ns.map (·.2):=by kernel_rfl) (u:JC ops σ o.guard=some true:=by kernel_rfl) (ht:(KF ns).all (tmpsOf o).contains=true:=by kernel_rfl):Dw P ops (o::rest) σ K:=
 .step (bar:=true) ⟨.inl ⟨ns,j▸h,Qs q,ht,Na u⟩,fun h=>JD⟩ k
def Dw.call {f:FuncId} {eG:A8 Ai} {j:Ai} (q:El P f eG [] j []) (u:Hg P f=true) (k:Dw P ops rest (σ.qJ o.dst (j.up [] σ.ents.length)) K) (z:UE σ o=some (f,eG):=by kernel_rfl)
 (hd:eG.all Ai.BJ=true:=by kernel_rfl) (I:JC ops σ o.guard=some true:=by kernel_rfl):Dw P ops (o::rest) σ K:=by
 obtain⟨ns,J,L,M⟩:=a08 q u z hd;exact .step (aT3 J L (Na I) M) k
def Dw.c [T:Kn P] {e c:Ad} (h:some e=some c) (k:Dw P ops rest (σ.qJ o.dst (.d (.lit (.bool c)))) K) (hs:(WI T ops σ o).map (fun r=>(r.x,r.E,r.bar))=some (.d (.lit (.bool e)),σ.ents,false):=by kernel_rfl):Dw P ops (o::rest) σ K:=by
 rw[Ul]at hs;obtain⟨r,u,j⟩:=hs;have q:=Vu T u;simp only[NT]at j;rw[j.1,j.2.1,j.2.2,Dh h]at q;exact .step q k
def BR.wipe (j:A8 Nat) (σ:BR):BR:=⟨j.foldl (fun l d=>l.set d .junk) σ.slots,σ.ents,σ.base⟩
def Holds.wipe {C:En} {ok:Nat->Prop} {H:A8 CP} {a:Act} {w:Bc}:∀(j:A8 Nat) {σ:BR},Holds C ok H σ a w->Holds C ok H (σ.wipe j) a w
 | [],σ,h=>h
 |d::j,σ,h=>by
  refine Holds.wipe j (σ:=⟨σ.slots.set d .junk,σ.ents,σ.base⟩) ⟨h.mem,by simpa using h.size,h.defers,h.base,fun t ht=>?_⟩;simp only[bF]at ht;by_cases e:d=t
  ·subst e;have q:(σ.slots.set d .junk).getD d .junk=.junk:=aGa
   rw[q];exact .junk _
  have q:(σ.slots.set d .junk).getD t .junk=σ.slots.getD t .junk:=aLT
  rw[q];exact h.slot t ht
def ahN (n:Nat) (l j:A8 Oper):l++j=l.take n++(l.drop n++j):=by
 rw[←IU,SI]
def Dw.join (n:Nat) (M:BR->Prop) (z:∀s,M s->Dw P ops (l.drop n) s K) (I:Dw P ops (l.take n) σ (KH M K)):Dw P ops l σ K:=⟨fun ro q Q C ok H a w J u=>by
 rw[ahN n l q]
 exact I.run ro _ Q C ok H a w J ⟨fun σ' ok' H' a' w' L j=>(z σ' L).run ro q Q C ok' H' a' w' j u,u.2⟩⟩
def Dw.merge (n:Nat) (j:A8 Nat) (d:Nat) (x:Ai) (u:Dw P ops (l.take n) σ (KH (fun s=>s.wipe j=(σ.wipe j).qJ (some d) x) K)) (z:Dw P ops (l.drop n) ((σ.wipe j).qJ (some d) x) K):Dw P ops l σ K:=
 .join n _ (fun s hs=>⟨fun ro I Q C ok H a w J L=>by
  have e:s.wipe j=(σ.wipe j).qJ (some d) x:=hs;have q:=J.wipe j;rw[e]at q
  exact z.run ro I Q C ok H a w q L⟩) u
def Ap {id:Nat} {Q:Exit->BR->Prop} (h:Dw P ops ops.toList σ Q):Bz P (.region id ops false) σ Q:=⟨fun ro _ C ok H a w u=>by
 refine aSB ?_;have :=h.run ro [] (fun e a' w'=>∃ok' H' σ',Holds C ok' H' σ' a' w'/\Q e σ') C ok H a w u ⟨fun σ' ok' H' a' w' q j=>⟨ok',H',σ',j,q⟩,fun v σ' ok' H' a' w' q j=>⟨ok',H',σ',j,q⟩⟩
 rwa [P8]at this⟩
def BX {id:Nat} {y:Code} {Q:Exit->BR->Prop} (h:Dw P ops ops.toList σ (KH (fun s=>Bz P y s Q) Q)):Bz P (.seq (.region id ops false) y) σ Q:=
 Bz.seq (fun s=>Bz P y s Q) (Ap h) (fun _ h=>h)
def AV [T:Kn P] {id:Nat} {y:Code} {Q:Exit->BR->Prop} (n:Nat) (k:Dw P ops (ops.toList.drop n) (OQ (Gy T ops n ops.toList σ)) (KH (fun s=>Bz P y s Q) Q)) (h:(Gy T ops n ops.toList σ).isSome=true:=by kernel_rfl):Bz P (.seq (.region id ops false) y) σ Q:=BX (Dw.a n k h)
end
def BH (n:Nat) (l:A8 (Nat×Ai)):A8 Ai:=(List.range n).map fun i=>(RH i l).getD .junk
def mk (n w:Nat):A8 Ad:=(List.range n).map fun i=>Nat.testBit w i
def akB {σ S:BR} (m:A8 Ad) (π:A8 (Nat×Ad)) (j:Uj σ.base σ.ents π=true:=by kernel_rfl) (q:S=⟨MV π m σ.slots,SY σ.ents π,σ.base⟩:=by kernel_rfl):Cb σ S:=aCb.sub ⟨m,π,j,q⟩
inductive JR (P:Program) where
 |call (i:Nat) (f:FuncId) (eG:List Ai) (res:Ai) (run:El P f eG [] res []) (ent:Hg P f=true) (dat:eG.all Ai.BJ=true)
 |dat (i:Nat) (op:Op) (ns:List (Operand×Ai)) (x:Ai) (h:∀(o:Oper) (es:List Bf),o.op=op->CS P o ns es x es)
 |at_ (i:Nat) (op:Op) (ns:List (Operand×Ai)) (k:Nat) (e:Bf) (x:Ai) (h:∀(o:Oper) (es:List Bf),es[k]? =some e->o.op=op->CS P o ns es x es)
 |fix (i:Nat) (op:Op) (ns:List (Operand×Ai)) (es:List Bf) (x:Ai) (E:List Bf) (h:∀(o:Oper),o.op=op->CS P o ns es x E)
def JR.ix {P:Cm}:JR P->Nat
 | .call i .. =>i
 | .dat i .. =>i
 | .at_ i .. =>i
 | .fix i .. =>i
inductive Rq where
 |call (c:Option (FuncId×List Ai))
 |dat (op:Op) (vs:List Ai)
 |at_ (op:Op) (vs:List Ai) (e:Option Bf)
 |fix (op:Op) (vs:List Ai) (es:List Bf)
def aEg {P:Cm} (i:Nat):A8 (JR P)->AO (JR P)
 | []=>none
 |c::l=>match Nat.beq i c.ix with |true=>some c|false=>aEg i l
section
variable {P:Cm}
def WR (σ:BR) (o:Oper):JR P->BR×AO Rq
 | .call _ _ _ j _ _ _=>(σ.qJ o.dst (j.up [] σ.ents.length),some (.call (UE σ o)))
 | .dat _ _ ns x _=>(σ.qJ o.dst x,some (.dat o.op (ns.map fun n=>σ.get n.1)))
 | .at_ _ _ ns k _ x _=>(σ.qJ o.dst x,some (.at_ o.op (ns.map fun n=>σ.get n.1) σ.ents[k]?))
 | .fix _ _ ns _ x E _=>(σ.put o.dst x E,some (.fix o.op (ns.map fun n=>σ.get n.1) σ.ents))
def Xa :JR P->Rq
 | .call _ f eG _ _ _ _=>.call (some (f,eG))
 | .dat _ op ns _ _=>.dat op (ns.map (·.2))
 | .at_ _ op ns _ e _ _=>.at_ op (ns.map (·.2)) (some e)
 | .fix _ op ns es _ _ _=>.fix op (ns.map (·.2)) es
def NH (T:Kn P) (L:A8 (JR P)) (ops:Bh Oper) (σ:BR) (i:Nat):AO (BR×AO Rq):=
 match ops[i]? with
 |none=>none
 |some o=>match aEg i L with
  |some c=>match JC ops σ o.guard with
   |some true=>some (WR σ o c)
   |_=>none
  |none=>match WI T ops σ o with
   |some r=>some (σ.put o.dst r.x r.E,none)
   |none=>none
def Hq (T:Kn P) (L:A8 (JR P)) (ops:Bh Oper) (σ:BR):A8 Nat->BR
 | []=>σ
 |i::l=>match NH T L ops (Hq T L ops σ l) i with
  |some (σ',_)=>σ'
  |none=>σ
def Zz (ops:Bh Oper) (m:A8 Nat) (i:Nat):Ad:=match ops[i]? with
 |some o=>o.after.toList.all fun e=> !Region.binds .any e||(m.contains e.on&&(e.on<ops.size))
 |none=>false
def aLx (ops:Bh Oper) (N:A8 (A8 Nat)) (F:A8 Nat) (k:Nat) (m:A8 Nat) (T:A8 (Nat×Nat×Nat)):Ad:=
 ((List.range ops.size).all fun i=>m.contains i|| !Zz ops m i||
   T.any fun t=>t.2.1==i&&(t.2.2<N.length)&&(fun q=>(List.range ops.size).all fun j=>q.contains j==(m.contains j||j==i)) (N.getD t.2.2 []))&&
 (F.contains k||(List.range ops.size).any fun i=> !m.contains i&&Zz ops m i)
def aCq (ops:Bh Oper) (N:A8 (A8 Nat)) (F:A8 Nat):Nat->A8 (A8 Nat)->A8 (Nat×Nat×Nat)->Ad
 |_,[],_=>true
 |k,m::M,Tr=>aLx ops N F k m (Tr.takeWhile fun t=>t.1==k)&&aCq ops N F (k+1) M (Tr.dropWhile fun t=>t.1==k)
def fP (ops:Bh Oper) (N:A8 (A8 Nat)) (Tr:A8 (Nat×Nat×Nat)) (F:A8 Nat):Ad:=aCq ops N F 0 N Tr
def aGf {α:Type} {p:α->Ad}:∀{l:A8 α} {x:α},x∈l.takeWhile p->p x=true
 | [],_,h=>J8
 |y::l,x,h=>by
  rw[List.takeWhile_cons]at h;cases j:p y with
  |true=>
   rw[j]at h;rcases F5.1 h with rfl|h
   ·exact j
   exact aGf h
  |false=>rw[j]at h;simp at h
def aOi {ops:Bh Oper} {N:A8 (A8 Nat)} {F:A8 Nat}:∀(M:A8 (A8 Nat)) (k:Nat) (Tr:A8 (Nat×Nat×Nat)),aCq ops N F k M Tr=true->∀j,j<M.length->
 ∃T,aLx ops N F (k+j) (M.getD j []) T=true/\∀t∈T,t∈Tr/\t.1=k+j
 | [],_,_,_,j,q=>iR
 |m::M,k,Tr,h,j,q=>by
  unfold aCq at h;rw[Df]at h;cases j with
  |zero=>exact⟨_,h.1,fun t ht=>⟨(aHh _).subset ht,by have :=aGf ht;simpa using this⟩⟩
  |succ j=>
   obtain⟨T,z,u⟩:=aOi M (k+1) _ h.2 j Np;refine⟨T,?_,fun t ht=>⟨(aF0 _).subset (u t ht).1,?_⟩⟩
   ·rw[show k+(j+1)=k+1+j by omega];simpa using z
   rw[(u t ht).2];omega
def NR (L:A8 (JR P)) (i:Nat):AO Rq:=(aEg i L).map Xa
def ak2 (T:Kn P) {L:A8 (JR P)} {ops:Bh Oper} {σ σ':BR} {i:Nat} {o:Oper} (I:ops[i]? =some o) (h:NH T L ops σ i=some (σ',NR L i)):
 ∃x E,((∃ns,CS P o ns σ.ents x E/\needs σ ns/\WQ ops σ o.guard)\/(x=.d (.lit undef)/\E=σ.ents/\Yn ops σ o.guard))/\σ'=σ.put o.dst x E:=by
 unfold NH NR at h;rw[I]at h;simp only at h;split at h
 ·rename_i c J;split at h
  ·rename_i q;simp only[J,Ij,Jh]at h;cases c with
   |call i f eG M run ent dat=>
    simp only[WR,Xa,NT,Jh,Rq.call.injEq]at h;obtain⟨ns,u,z,U⟩:=a08 run ent h.2 dat;exact⟨_,_,.inl ⟨ns,u,z,Na q⟩,h.1.symm⟩
   |dat i op ns x j=>
    simp only[WR,Xa,NT,Jh,Rq.dat.injEq]at h;exact⟨_,_,.inl ⟨ns,j o _ h.2.1,Qs h.2.2,Na q⟩,h.1.symm⟩
   |at_ i op ns k e x j=>
    simp only[WR,Xa,NT,Jh,Rq.at_.injEq]at h;exact⟨_,_,.inl ⟨ns,j o _ h.2.2.2 h.2.1,Qs h.2.2.1,Na q⟩,h.1.symm⟩
   |fix i op ns es x E j=>
    simp only[WR,Xa,NT,Jh,Rq.fix.injEq]at h;exact⟨_,_,.inl ⟨ns,h.2.2.2▸j o h.2.1,Qs h.2.2.1,Na q⟩,h.1.symm⟩
  cases h
 split at h
 ·rename_i r O;simp only[Jh,NT]at h;obtain⟨u,z⟩:=Vu T O;refine⟨_,_,?_,h.1.symm⟩;rcases u with⟨ns,a,b,_,c⟩|⟨a,b,c⟩
  ·exact .inl ⟨ns,a,b,c⟩
  exact .inr ⟨a,b,c⟩
 cases h
def jh (s t:BR):Prop:=∀C ok H a w,Holds C ok H s a w->∃ok' H',Holds C ok' H' t a w
def aHZ (s:BR):jh s s:=fun _ ok H _ _ h=>⟨ok,H,h⟩
def jk {s t:BR} (h:Cb s t):jh s t:=h
def Bz.nodes (T:Kn P) {id:Nat} {ops:Bh Oper} {σ:BR} {Q:Exit->BR->Prop} (L:A8 (JR P)) (N:A8 (A8 Nat)) (Tr:A8 (Nat×Nat×Nat)) (F:A8 Nat) (fin:BR) (hm:P.follows .mixedOrders=true) (hN:fP ops N Tr F=true) (h0:N.getD 0 [0]=[])
 (hT:(Tr.map fun t=>NH T L ops (Hq T L ops σ (N.getD t.1 [])) t.2.1)=Tr.map fun t=>some (Hq T L ops σ (N.getD t.2.2 []),NR L t.2.1))
 (hF:Pz (fun k=>jh (Hq T L ops σ (N.getD k [])) fin) F) (hQ:Q .normal fin):Bz P (.region id ops true) σ Q:=by
 refine⟨fun ro _ C ok H a w q=>?_⟩;refine aAL hm ?_
 let S:Nat->BR:=fun k=>Hq T L ops σ (N.getD k [])
 let I:Bh Ad->Act->Bc->Prop:=fun l a w=>l.size=ops.size/\∃k ok H,k<N.length/\(∀i,i<ops.size->l.getD i false=(N.getD k []).contains i)/\Holds C ok H (S k) a w
 have hNN:∀k,k<N.length->(((List.range ops.size).all fun i=>(N.getD k []).contains i|| !Zz ops (N.getD k []) i||
  Tr.any fun t=>t.1==k&&t.2.1==i&&(t.2.2<N.length)&&(List.range ops.size).all fun j=>(N.getD t.2.2 []).contains j==((N.getD k []).contains j||j==i))&&
  (F.contains k||(List.range ops.size).any fun i=> !(N.getD k []).contains i&&Zz ops (N.getD k []) i))=true:=fun k hk=>by
  obtain⟨T,J,O⟩:=aOi N 0 Tr hN k hk;unfold aLx at J;rw[J3,Df,EY]at J;rw[Df,EY];refine⟨fun i hi=>?_,J.2⟩;have u:=J.1 i hi;rw[TQ]at u ⊢;rcases u with u|u
  ·exact .inl u
  obtain⟨t,ht,h4⟩:=I8.1 u;obtain⟨Z,U⟩:=O t ht;rw[J3]at U;refine .inr (I8.2 ⟨t,Z,?_⟩);rw[show(t.1==k)=true by simpa using U,Gh];exact h4
 refine aAE I (fun l a w h=>h.1) ?_ ?_ ops.size _ _ _ ?_ ?_
 ·rintro l a w ⟨J,k,ok,H,hk,hl,q⟩ i hi;unfold Region.ready at hi;rw[HY]at hi;obtain⟨hi1,hi2⟩:=hi;have hi':i<ops.size:=a0v
  have ho:ops[i]? =some ops[i]:=by simp[hi']
  simp only[Df]at hi2;have z:=hi2.2;rw[ho]at z;simp only[Ij,ML]at z;have Y:=fun e he=>(QJ.1 z) e he
  have hself:l.getD i false=false:=by
   have h8:=hi2.1;have hil:i<l.size:=AB
   simp[Array.getD,hil]at h8 ⊢;exact h8
  have hnc:(N.getD k []).contains i=false:=by rw[←hl i hi'];exact hself
  have hrd:Zz ops (N.getD k []) i=true:=by
   unfold Zz;rw[ho];simp only[EY];intro e he;have h9:=Y e dw;cases hb:Region.binds .any e with
   |false=>simp
   |true=>
    simp only[hb,Eo,Lj]at h9 ⊢;by_cases hon:e.on<ops.size
    ·rw[←hl e.on hon,h9];simp[hon]
    have :l.getD e.on false=false:=aPG
    rw[this]at h9;cases h9
  have O:=hNN k hk;simp only[Df,EY]at O;have u:=O.1 i aBz;rw[hnc,hrd]at u;simp only[Eo,a1T,Lj,I8]at u;obtain⟨⟨k',M,t⟩,htm,h4⟩:=u;simp only[Df,Oa,Hd,EY]at h4;obtain⟨⟨⟨rfl,rfl⟩,ht⟩,Z⟩:=h4;have U:NH T L ops (S k') M=some (S t,NR L M):=sJ.1 hT (k',M,t) htm;obtain⟨x,E,hs,he⟩:=ak2 T ho U
  have hnew:∀(a':Act) (w':Bc) (ok':Nat->Prop) (H':A8 CP),Holds C ok' H' ((S k').put ops[M].dst x E) a' w'->I (l.setIfInBounds M true) a' w':=by
   intro a' w' ok' H' hp;refine⟨by simp[J],t,ok',H',ht,fun j hj=>?_,he▸hp⟩;have h7:=Z j aE7;rw[h7,←hl j hj];by_cases hij:M=j
   ·subst hij;simp[Array.getD,J,hj]
   have :(j==M)=false:=EN
   rw[this,MJ];simp only[Io,Nb hij]
  unfold wpOpIn;rw[ho];show if Region.wanted ops[M] (yielded ops a.tmps)=true then _ else _
  rcases hs with⟨ns,hop,afP,hg⟩|⟨rfl,rfl,hg⟩
  ·rw[DX (Q7 q hg)];refine Qm ?_ (hop.inR ro C ok H a w _ q.mem (fun n hn'=>Q5 afP n hn'▸q.get n.1));rintro a' w' ⟨v,ok',H',rfl,hgr,hnn,hm',hx⟩;exact hnew _ _ _ _ (q.put ops[M].dst hgr hnn hm' hx)
  rw[Dk (by rw[aKZ q hg];simp)];exact⟨fun _ _=>trivial,hnew _ _ _ _ (q.put ops[M].dst (.refl _ _) (.refl _) q.mem (.d _ _ (.lit _)))⟩
 ·rintro l a w ⟨J,k,ok,H,hk,hl,q⟩ hr;have O:=hNN k hk;simp only[Df,TQ]at O
  have hFk:k∈F:=by
   rcases O.2 with h|h
   ·simpa using h
   rw[I8]at h;obtain⟨i,hi,u⟩:=h;simp only[og]at hi;simp only[Df,Ls]at u;obtain⟨h4,Z⟩:=u;have ho:ops[i]? =some ops[i]:=SC
   have hmem:i∈Region.ready .any ops l:=by
    unfold Region.ready;rw[HY];refine⟨Gp,?_⟩;have hf:l.getD i false=false:=by rw[hl i hi];exact h4
    have hil:i<l.size:=AB
    have hf':l.getD i true=false:=qG
    rw[hf',ho];simp only[Iu,Gh,Ij,ML];rw[QJ];intro e he;unfold Zz at Z;rw[ho]at Z;simp only[EY]at Z;have U:=Z e dw;cases hb:Region.binds .any e with
    |false=>simp
    |true=>
     simp only[hb,Eo,Lj]at U ⊢;rw[Df,Hd]at U;rw[hl e.on U.2];exact U.1
   rw[hr]at hmem;simp at hmem
  obtain⟨ok',H',u⟩:=hF.mem k hFk C ok H a w q;exact⟨ok',H',fin,u,hQ⟩
 ·unfold toCome;simp
 refine⟨Bj,0,ok,H,?_,fun i hi=>?_,?_⟩
 ·cases N with
  |nil=>cases h0
  |cons x l=>simp
 ·have e:N.getD 0 []=[]:=by
   cases N with
   |nil=>rfl
   |cons x l=>simpa using h0
  rw[e];simp[Array.getD]
 have e:S 0=σ:=by
  show Hq T L ops σ (N.getD 0 [])=σ;cases N with
  |nil=>rfl
  |cons x l=>have :x=[]:=a2T
             subst this;rfl
 rw[e];refine⟨⟨⟨q.mem.fr.os,q.mem.fr.tape,q.mem.fr.output,q.mem.fr.size,q.mem.fr.block⟩,q.mem.yF,q.mem.yG,q.mem.kM,q.mem.names,q.mem.hlen,fun k e h J O=>(q.mem.ent k e h J O).drew,q.mem.blk,q.mem.Ef⟩,q.size,q.defers.mono (fun b hb=>⟨hb,rfl⟩),q.base,fun t ht=>R.mono (w:=w) (ok:=ok) (w':={ w with drawn:=w.drawn+1 }) (fun b hb=>⟨hb,rfl⟩) (.refl _) (q.slot t ht)⟩
def a1o {f:FuncId} {eG:A8 Ai} {j:Ai} (i:Nat) (run:El P f eG [] j []) (ent:Hg P f=true) (dat:eG.all Ai.BJ=true:=by kernel_rfl):JR P:=.call i f eG j run ent dat
def UU {ns:A8 (CM×Ai)} {x:Ai} (i:Nat) (op:Op) (h:∀(o:Oper) (es:A8 Bf),o.op=op->CS P o ns es x es):JR P:=.dat i op ns x h
def aDc {ns:A8 (CM×Ai)} {x:Ai} (i:Nat) (op:Op) (k:Nat) (e:Bf) (h:∀(o:Oper) (es:A8 Bf),es[k]? =some e->o.op=op->CS P o ns es x es):JR P:=.at_ i op ns k e x h
def gG {ns:A8 (CM×Ai)} {x:Ai} (i:Nat) (op:Op) (es E:A8 Bf) (h:∀(o:Oper),o.op=op->CS P o ns es x E):JR P:=.fix i op ns es x E h
section
variable [T:Kn P] {id:Nat} {ops:Bh Oper} {σ:BR} {Q:Exit->BR->Prop} {y:Code}
def Bz.node1 (L:A8 (JR P)) (N:A8 (A8 Nat)) (Tr:A8 (Nat×Nat×Nat)) (j:Nat) (q:Q .normal (Hq T L ops σ (N.getD j []))) (hm:P.follows .mixedOrders=true:=by kernel_rfl) (u:fP ops N Tr [j]=true:=by kernel_rfl) (z:N.getD 0 [0]=[]:=by kernel_rfl)
 (I:(Tr.map fun t=>NH T L ops (Hq T L ops σ (N.getD t.1 [])) t.2.1)=Tr.map fun t=>some (Hq T L ops σ (N.getD t.2.2 []),NR L t.2.1):=by kernel_rfl):Bz P (.region id ops true) σ Q:=
 Bz.nodes T L N Tr [j] _ hm u z I ⟨aHZ _,trivial⟩ q
def Bz.aGN (L:A8 (JR P)) (N:A8 (A8 Nat)) (Tr:A8 (Nat×Nat×Nat)) (j:Nat) (q:Bz P y (Hq T L ops σ (N.getD j [])) Q) (hm:P.follows .mixedOrders=true:=by kernel_rfl) (u:fP ops N Tr [j]=true:=by kernel_rfl) (z:N.getD 0 [0]=[]:=by kernel_rfl)
 (I:(Tr.map fun t=>NH T L ops (Hq T L ops σ (N.getD t.1 [])) t.2.1)=Tr.map fun t=>some (Hq T L ops σ (N.getD t.2.2 []),NR L t.2.1):=by kernel_rfl):Bz P (.seq (.region id ops true) y) σ Q:=
 aFH _ (Bz.nodes T L N Tr [j] _ hm u z I ⟨aHZ _,trivial⟩ rfl) q
def Bz.aGO (L:A8 (JR P)) (N:A8 (A8 Nat)) (Tr:A8 (Nat×Nat×Nat)) (F:A8 Nat) (j:BR) (q:Pz (fun k=>jh (Hq T L ops σ (N.getD k [])) j) F) (u:Bz P y j Q) (hm:P.follows .mixedOrders=true:=by kernel_rfl) (z:fP ops N Tr F=true:=by kernel_rfl) (I:N.getD 0 [0]=[]:=by kernel_rfl)
 (J:(Tr.map fun t=>NH T L ops (Hq T L ops σ (N.getD t.1 [])) t.2.1)=Tr.map fun t=>some (Hq T L ops σ (N.getD t.2.2 []),NR L t.2.1):=by kernel_rfl):Bz P (.seq (.region id ops true) y) σ Q:=
 aFH j (Bz.nodes T L N Tr F j hm z I J q rfl) u
end
end
section
variable {P:Cm} {ops:Bh Oper} {es:A8 Bf}
def Ym (n:Nat) (sl:A8 Nat):A8 (Nat×Nat):=sl.flatMap fun i=>((List.range (n+1)).filter fun m=>i<=m).map fun m=>(i,m)
def yJ (ops:Bh Oper) (σ:BR) (rs:A8 Ai) (ess:A8 (A8 Bf)) (i:Nat):BR:=GK ops σ (fun i=>rs.getD i .junk) (fun i=>ess.getD i []) i
def aC9 (T:Kn P) (ops:Bh Oper) (σ:BR) (rs:A8 Ai) (ess:A8 (A8 Bf)) (p:Nat×Nat):AO (Ai×A8 Bf×Ad):=
 match ops[p.1]? with
 |some o=>(WI T ops ⟨(yJ ops σ rs ess p.1).slots,(yJ ops σ rs ess p.2).ents,σ.base⟩ o).map fun r=>(r.x,r.E,r.bar)
 |none=>none
def aVb (T:Kn P) {σ:BR} {rs:A8 Ai} {ess:A8 (A8 Bf)} {bs:A8 Ad} {sl:A8 Nat} (u:(sl.all fun i=> !(bs.getD i false))=true)
 (z:(Ym ops.size sl).map (aC9 T ops σ rs ess)=(Ym ops.size sl).map fun p=>some (rs.getD p.1 .junk,(yJ ops σ rs ess p.2).ents,false)):
 ∀i,i∈sl->bs.getD i false=false/\∀m,i<=m->m<=ops.size->∀o,ops[i]? =some o->Sr P ops ⟨(GK ops σ (fun i=>rs.getD i .junk) (fun i=>ess.getD i []) i).slots,(GK ops σ (fun i=>rs.getD i .junk) (fun i=>ess.getD i []) m).ents,σ.base⟩ (rs.getD i .junk) (GK ops σ (fun i=>rs.getD i .junk) (fun i=>ess.getD i []) m).ents false o:=by
 intro i hi;refine⟨by have :=EY.1 u i hi;simpa using this,fun m J O o L=>?_⟩
 have hp:(i,m)∈Ym ops.size sl:=by
  unfold Ym;rw[XA];exact⟨i,hi,FY.2 ⟨m,HY.2 ⟨EN,TL⟩,rfl⟩⟩
 have j:=sJ.1 z (i,m) hp;unfold aC9 at j;rw[L]at j;simp only[Ul]at j;obtain⟨r,M,q⟩:=j;have I:=Vu T M;simp only[NT]at q;rw[q.1,q.2.1,q.2.2]at I;exact I
def Bz.aDE [T:Kn P] {id:Nat} {σ σ':BR} {Q:Exit->BR->Prop} {rs:A8 Ai} {ess:A8 (A8 Bf)} {bs:A8 Ad} (sl:A8 Nat) (h:Fe P ops ops.toList σ rs ess bs σ') (I:Q .normal σ') (hm:P.follows .mixedOrders=true:=by kernel_rfl)
 (j:(U4 ops&&Xj ops&&Wn ops σ.slots.length&&Wj ops)=true:=by kernel_rfl) (q:U5 ops bs sl=true:=by kernel_rfl) (u:(sl.all fun i=> !(bs.getD i false))=true:=by kernel_rfl)
 (z:(Ym ops.size sl).map (aC9 T ops σ rs ess)=(Ym ops.size sl).map fun p=>some (rs.getD p.1 .junk,(yJ ops σ rs ess p.2).ents,false):=by kernel_rfl):Bz P (.region id ops true) σ Q:=
 Bz.aye hm j sl q h (aVb T u z) I
def Bz.aDF [T:Kn P] {id:Nat} {y:Code} {σ σ':BR} {Q:Exit->BR->Prop} {rs:A8 Ai} {ess:A8 (A8 Bf)} {bs:A8 Ad} (sl:A8 Nat) (h:Fe P ops ops.toList σ rs ess bs σ') (I:Bz P y σ' Q) (hm:P.follows .mixedOrders=true:=by kernel_rfl)
 (j:(U4 ops&&Xj ops&&Wn ops σ.slots.length&&Wj ops)=true:=by kernel_rfl) (q:U5 ops bs sl=true:=by kernel_rfl) (u:(sl.all fun i=> !(bs.getD i false))=true:=by kernel_rfl)
 (z:(Ym ops.size sl).map (aC9 T ops σ rs ess)=(Ym ops.size sl).map fun p=>some (rs.getD p.1 .junk,(yJ ops σ rs ess p.2).ents,false):=by kernel_rfl):Bz P (.seq (.region id ops true) y) σ Q:=
 aFH σ' (Bz.aye hm j sl q h (aVb T u z) rfl) I
def BR.akv (σ:BR) (k j:Nat) (xs:A8 D) (cs:A8 Ai):BR:=⟨σ.slots.map (Ai.thaw k xs),(σ.ents.set k .dead).set j (.box (cs.map (Ai.thaw k xs))),σ.base⟩
def acC {σ:BR} (k j:Nat) {e s:Nat} {xs:A8 D} {cs:A8 Ai} (hk:σ.ents[k]? =some (.arr e s xs)) (hj:σ.ents[j]? =some (.box cs)) (hl:(cs.map (Ai.thaw k xs)).all Ai.leaf=true):∀C ok H a w,Holds C ok H σ a w->∃ok',Holds C ok' H (σ.akv k j xs cs) a w:=by
 intro C ok H a w u;have hkj:k≠j:=fun e=>by subst e;rw[hk]at hj;cases hj
 obtain⟨hd,Z,hok⟩:=H8 u.mem.ent u.mem.hlen hk;have hkl:k<σ.ents.length:=(Fv.1 hk).1;have hjl:j<(σ.ents.set k .dead).length:=by rw[bF];exact(Fv.1 hj).1
 let ok':Nat->Prop:=fun b=>ok b\/EF hd.v=some b
 have O:=fun b q=>u.mem.blk k _ hd b hk rfl Z q;have hg:Ep ok w ok' w:=fun b q=>⟨.inl q,rfl⟩
 have z:∀{x:Ai} {v:Aw},R ok w H x v->R ok' w H (x.thaw k xs) v:=by
  intro x v hR0;have hR:=hR0.mono hg (bD H);cases x with
  |aO i=>
   simp only[Ai.thaw];split
   ·rename_i hi;subst hi;obtain rfl:=Oe hR Z;exact .d _ _ (dY hok (fun b q=>.inl q) (fun b q=>.inr q))
   exact hR
  |lC i i2 off=>
   simp only[Ai.thaw];split
   ·exact .junk _
   exact hR
  |_=>exact hR
 have U:∀(i:Nat) (e':Bf),((σ.ents.set k .dead).set j (.box (cs.map (Ai.thaw k xs))))[i]? =some e'->(i=j/\e'=.box (cs.map (Ai.thaw k xs)))\/(i≠j/\((i=k/\e'=.dead)\/(i≠k/\σ.ents[i]? =some e'))):=by
  intro i e' he;rcases MI hjl he with⟨rfl,rfl⟩|⟨h1,h2⟩
  ·exact .inl ⟨rfl,rfl⟩
  refine .inr ⟨h1,?_⟩;rcases MI hkl h2 with⟨rfl,rfl⟩|⟨Y,h4⟩
  ·exact .inl ⟨rfl,rfl⟩
  exact .inr ⟨Y,h4⟩
 have I:∀(i:Nat) (e':Bf),((σ.ents.set k .dead).set j (.box (cs.map (Ai.thaw k xs))))[i]? =some e'->e'.live=true->i≠k/\∃e0,σ.ents[i]? =some e0/\e0.live=true:=by
  intro i e' he M;rcases U i e' he with⟨rfl,rfl⟩|⟨h1,⟨rfl,rfl⟩|⟨h2,Y⟩⟩
  ·exact⟨Zk hkj,_,hj,rfl⟩
  ·cases M
  exact⟨h2,_,Y,M⟩
 refine⟨ok',⟨u.mem.fr,fun b q=>.inl (u.mem.yF b q),?_,?_,u.mem.names,by simp[BR.akv,u.mem.hlen],?_,?_,?_⟩,by simp[BR.akv,u.size],u.defers.mono hg,u.base,?_⟩
 ·rintro b (q|q)
  ·exact u.mem.yG b q
  exact .inr (O b q).2.2
 ·rintro b (q|q)
  ·exact u.mem.kM b q
  exact(O b q).2.1
 ·intro i e' h' he J;rcases U i e' he with⟨rfl,rfl⟩|⟨_,⟨rfl,rfl⟩|⟨_,he'⟩⟩
  ·obtain⟨b,vs,T,h1,h2,Y,h4⟩:=u.mem.ent i _ h' hj J;refine⟨b,vs,T,h1,h2,WJ,fun n hn=>?_⟩;rw[DY]at hn;rw[S9 _ _ _ hn];refine⟨?_,z (h4 n hn).2⟩;rw[EY]at hl;exact hl _ (FY.2 ⟨_,by simp[List.getD,hn],rfl⟩)
  ·trivial
  exact(u.mem.ent i e' h' he' J).mono hg (.refl _) (fun _ _ _=>rfl)
 ·intro i e' h' b he M J q;obtain⟨hik,e0,he0,hl0⟩:=I i e' he M;have Y:=u.mem.blk i e0 h' b he0 hl0 J q;refine⟨fun L=>?_,Y.2⟩;rcases L with L|L
  ·exact Y.1 L
  exact hik (u.mem.Ef i k e0 _ h' hd b he0 hk hl0 rfl J Z q L)
 ·intro i i' e1 e2 h1 h2 b he1 he2 hl1 hl2 hh1 hh2 hb1 hb2;obtain⟨_,e1',as8,aHO⟩:=I i e1 he1 hl1;obtain⟨_,e2',amn,aHP⟩:=I i' e2 he2 hl2;exact u.mem.Ef i i' e1' e2' h1 h2 b as8 amn aHO aHP hh1 hh2 hb1 hb2
 intro t ht;simp only[BR.akv,DY]at ht
 have e1:(σ.akv k j xs cs).slots.getD t .junk=(σ.slots.getD t .junk).thaw k xs:=by
  simp only[BR.akv];exact S9 _ _ _ ht
 rw[e1];exact z (u.slot t ht)
def Bz.conv {c:Code} {σ q:BR} {Q:Exit->BR->Prop} (h:∀C ok H a w,Holds C ok H σ a w->∃ok',Holds C ok' H q a w) (k:Bz P c q Q):Bz P c σ Q:=⟨fun ro u C ok H a w z=>by
 obtain⟨ok',j⟩:=h C ok H a w z
 exact k.run ro u C ok' H a w j⟩
end
def aFA (es:A8 Bf) (H:A8 CP):A8 Nat:=(es.zip H).filterMap fun p=>if p.1.live then EF p.2.v else none
def aTA {es:A8 Bf} {H:A8 CP} {b:Nat}:b∈aFA es H↔∃(k:Nat) (e:Bf) (h:CP),es[k]? =some e/\e.live=true/\H[k]? =some h/\EF h.v=some b:=by
 unfold aFA;rw[TR];constructor
 ·rintro⟨⟨e,h⟩,hm,j⟩;obtain⟨k,q⟩:=List.mem_iff_getElem?.1 hm;rw[aSP]at q;split at j
  ·rename_i hl;exact⟨k,e,h,q.1,hl,q.2,j⟩
  cases j
 rintro⟨k,e,h,u,z,I,J⟩;exact⟨(e,h),List.mem_iff_getElem?.2 ⟨k,aSP.2 ⟨u,I⟩⟩,by simp[z,J]⟩
def En.now (w:Bc) (ok:Nat->Prop) (es:A8 Bf) (H:A8 CP):En:=⟨w,ok,aFA es H,H⟩
section
variable {C:En} {ok ok':Nat->Prop} {H H':A8 CP} {es es':A8 Bf} {w w':Bc}
def Dv.inner (hm:Dv C ok H es w):Dv (En.now w ok es H) ok H es w:=
 ⟨.refl _ _,fun _ h=>h,fun _ h=>.inl h,hm.kM,.refl _,hm.hlen,hm.ent,
  fun k e h b j hl q u=>⟨(hm.blk k e h b j hl q u).1,(hm.blk k e h b j hl q u).2.1,.inr (aTA.2 ⟨k,e,h,j,hl,q,u⟩)⟩,hm.Ef⟩
def Dv.outer (hm:Dv C ok H es w) (h:Dv (En.now w ok es H) ok' H' es' w'):Ep ok w ok' w'/\Names H H'/\Dv C ok' H' es' w':=by
 have z:∀b,b∈aFA es H->¬ok b/\b<w.heap.size/\(C.w0.heap.size<=b\/b∈C.X):=fun b q=>by
  obtain⟨k,e,hd,j,J,u,U⟩:=aTA.1 q;exact hm.blk k e hd b j J u U
 refine⟨fun b q=>⟨h.yF b q,h.fr.block b (hm.kM b q) fun I=>(z b I).1 q⟩,h.names,⟨h.fr.os.trans hm.fr.os,h.fr.tape.trans hm.fr.tape,h.fr.output.trans hm.fr.output,FC hm.fr.size h.fr.size,fun k O I=>?_⟩,fun b q=>h.yF b (hm.yF b q),fun b q=>?_,h.kM,hm.names.trans h.names,h.hlen,h.ent,fun k e hd b Y hl Z q=>?_,h.Ef⟩
 ·have L:k<w.heap.size:=VP O hm.fr.size;refine(h.fr.block k L fun M=>?_).trans (hm.fr.block k O I);rcases(z k M).2.2 with j|j
  ·omega
  exact I j
 ·rcases h.yG b q with j|j|j
  ·exact hm.yG b j
  ·exact .inr (.inl (FC hm.fr.size j))
  exact .inr ((z b j).2.2)
 obtain⟨j,J,u⟩:=h.blk k e hd b Y hl Z q;refine⟨j,J,?_⟩;rcases u with u|u
 ·exact .inl (FC hm.fr.size u)
 exact(z b u).2.2
def Dv.akw (hm:Dv C ok H es w) {n:Nat} {e e':Bf} {h:CP} {b:Nat} {o:Obj} (J:es[n]? =some e) (hl:e.live=true) (L:H[n]? =some h) (M:EF h.v=some b) (he:Ep ok w ok (w.putObj b o)->FZ ok (w.putObj b o) H h e'):
 Dv C ok H (es.set n e') (w.putObj b o)/\Ep ok w ok (w.putObj b o):=by
 obtain⟨O,h2,h3⟩:=hm.blk n e h b J hl L M;have hg:Ep ok w ok (w.putObj b o):=fun c j=>⟨j,YJ fun e=>O (e▸j)⟩
 have z:=(Fv.1 J).1;refine hm.change (fun c=>c=b) rfl rfl rfl Bj (fun c _ j=>YJ j) (fun c j _=>by subst j;exact⟨O,h3⟩) (fun _ h=>h) (fun _ h=>.inl h) (.refl _) (by simpa using hm.hlen) fun k e2 h4 hk q=>?_;rcases MI z hk with⟨rfl,rfl⟩|⟨u,I⟩
 ·right;rw[L]at q;obtain rfl:=Dh q;refine⟨he hg,fun _ c j=>?_⟩;rw[M]at j;obtain rfl:=Dh j;refine⟨O,pF,h3,fun k' e3 h5 u U Y Z hb3=>?_⟩;rcases MI z U with⟨rfl,_⟩|⟨_,hk4⟩
  ·exact u rfl
  exact u (hm.Ef k' _ e3 e h5 h _ hk4 J Y hl Z L hb3 M)
 left;exact⟨I,q,fun hl2 c j hcb=>u (hm.Ef k n e2 e h4 h c I J hl2 hl q L j (by rw[hcb];exact M))⟩
def bM :A8 Tmp->A8 Ai->A8 Ai->A8 Ai
 |p::j,x::xs,sl=>bM j xs (sl.set p x)
 |_,_,sl=>sl
def aTd :∀(j:A8 Tmp) (xs:A8 Ai) (vs:A8 Aw) (sl:A8 Ai) (tm:Bh Aw),xs.length=j.length->vs.length=j.length->(∀i,i<xs.length->R ok w H (xs.getD i .junk) (vs.getD i undef))->
 tm.size=sl.length->(∀t,t<sl.length->R ok w H (sl.getD t .junk) (tm.getD t undef))->
 ((j.zip vs).foldl (fun t p=>t.setIfInBounds p.1 p.2) tm).size=(bM j xs sl).length/\∀t,t<(bM j xs sl).length->R ok w H ((bM j xs sl).getD t .junk) (((j.zip vs).foldl (fun t p=>t.setIfInBounds p.1 p.2) tm).getD t undef)
 | [],xs,vs,sl,tm,_,_,_,hs,q=>by
   have e:bM [] xs sl=sl:=by cases xs<;>rfl
   rw[e];exact⟨hs,q⟩
 |p::j,[],vs,sl,tm,h,_,_,_,_=>J8
 |p::j,x::xs,[],sl,tm,_,h,_,_,_=>J8
 |p::j,x::xs,v::vs,sl,tm,J,L,I,hs,q=>by
  refine aTd j xs vs (sl.set p x) (tm.setIfInBounds p v) TL Y6 (fun i hi=>by simpa using I (i+1) Gp) sK (fun t ht=>?_);rw[bF]at ht;by_cases e:p=t
  ·subst e;have u:(sl.set p x).getD p .junk=x:=aGa
   have z:(tm.setIfInBounds p v).getD p undef=v:=by simp[Array.getD,hs,ht]
   rw[u,z];simpa using I 0 Bj
  have u:(sl.set p x).getD t .junk=sl.getD t .junk:=aLT
  have z:(tm.setIfInBounds p v).getD t undef=tm.getD t undef:=by simp[Io,Nb e]
  rw[u,z];exact q t ht
end
def Y2 :Exit->AO (LoopState×AO Code)
 | .normal=>some (.ready,none)
 | .ret=>some (.done,some .ret)
 | .exit i=>some (.done,some (.exit i))
 |_=>none
section
variable {P:Cm} {ops:Bh Oper} {o:Oper} {rest l:A8 Oper} {σ:BR} {K:Exit->BR->Prop}
def a1n {h:CP} {l:Nat} (e:h.v=.func (.yield l) #[] #[]):EF h.v=some l:=jd
def Dw.yield {f:CM} {xs:Bh CM} {ts:Bh CO} {tm:Bh Aw} {slots:A8 Ai} {rc:Bh Tmp×Code×Code} (k:Nat) (eG:A8 Ai)
 (ho:o.op=.call { callee:=.value f,args:=xs,argTypes:=ts }) (hf:σ.get f=.mp k) (hk:σ.ents[k]? =some (.loop tm slots rc .ready none)) (hx:xs.toList.map σ.get=eG) (I:rc.1.size=xs.size)
 (hg:JC ops σ o.guard=some true) (J:(QN rc.2.1&&QN rc.2.2)=true)
 (h:Bz P rc.2.1 ⟨bM rc.1.toList eG slots,σ.ents,σ.ents.length⟩ fun e s=>e=.normal/\∃sl,s.ents[k]? =some (.loop tm sl rc .ready none)/\
  Bz P rc.2.2 ⟨s.slots,s.ents.set k (.loop tm sl rc .busy none),s.base⟩ fun e s2=>∃z j,s2.ents[k]? =some (.loop tm z rc .busy none)/\Y2 e=some j/\
   Dw P ops rest (BR.qJ ⟨σ.slots,s2.ents.set k (.loop tm z rc j.1 j.2),σ.base⟩ o.dst (.d (.lit (.bool j.2.isNone)))) K):Dw P ops (o::rest) σ K:=by
 rw[Df]at J;refine⟨fun ro l2 Q C ok H a w u L=>?_⟩;show wpListIn (JF ro) 0 P ops Q (o::(rest++l2)) a w;unfold wpListIn;rw[DX (Q7 u (Na hg))];have hv:=hf▸u.get f;obtain⟨hd,M,Y⟩:=H8 u.mem.ent u.mem.hlen hk;obtain⟨l,fn,D,e1,e2,e3,e4⟩:=Y
 have Z:a.eval f=.func (.yield l) #[] #[]:=by
  cases hv with
  |mp _ v s hl hH=>
   rw[M]at hH;obtain rfl:=Dh hH;exact e1
 have hrun:(execOp a.eval o).run P w=.ok (.round l fn ((rc.1.zip (xs.map a.eval)).foldl (fun tmps (t,a)=>tmps.setIfInBounds t a) tm) rc.2.1 rc.2.2) w:=by
  have :=run_yield (P:=P) e2 (args:=xs.map a.eval) (by simp[I]);simp[execOp,ho,resolve,Z,Deferred.ofValue,invoke,this]
 unfold Oper.wpIn;rw[iT _ _ _ (by rw[ho];intro c h;cases h),hrun,Oper.uponIn_round];refine⟨fun _ _=>trivial,fun h=>JD,roundIn_of_wpIn trivial ?_⟩
 have hT:(rc.1.zip (xs.map a.eval)).foldl (fun tmps (t,a)=>tmps.setIfInBounds t a) tm=(rc.1.toList.zip (xs.toList.map a.eval)).foldl (fun t p=>t.setIfInBounds p.1 p.2) tm:=by
  rw[←Array.foldl_toList,Array.toList_zip,Array.toList_map]
 rw[hT];have hpl:eG.length=rc.1.toList.length:=by rw[←hx];simp[I]
 obtain⟨p1,p2⟩:=aTd (ok:=ok) (w:=w) (H:=H) rc.1.toList eG (xs.toList.map a.eval) slots tm hpl (by simp[I]) (fun i hi=>by
  have hi':i<xs.toList.length:=by rw[←hx]at hi;simpa using hi
  have hi2:i<xs.size:=aBz
  have U:eG.getD i .junk=σ.get xs.toList[i]:=by rw[←hx];simp[List.getD,hi2]
  have q2:(xs.toList.map a.eval).getD i undef=a.eval xs.toList[i]:=by simp[List.getD,hi2]
  rw[U,q2];exact u.get _) e3 e4
 have hin:Holds (En.now w ok σ.ents H) ok H ⟨bM rc.1.toList eG slots,σ.ents,σ.ents.length⟩ { tmps:=(rc.1.toList.zip (xs.toList.map a.eval)).foldl (fun t p=>t.setIfInBounds p.1 p.2) tm,defers:=[] } w:=
  ⟨u.mem.inner,p1,.nil _ _ _,u.mem.hlen,p2⟩
 show Code.wpIn (JF (some l)) 0 P _ _ _ _;refine VX (h.run (some l) (.inr J.1) _ _ _ _ _ hin) ?_;rintro e a1 w1 ⟨ok1,H1,s1,q,rfl,sl,hs1,h2⟩;obtain⟨g1,n1,m1⟩:=u.mem.outer q.mem;have hk1:=n1 k hd M;obtain⟨l',fn',D',U,q2,q3,q4⟩:=q.mem.ent k _ hd hs1 hk1;have O:l'=l:=by rw[e1]at U;cases U;rfl
 subst O
 obtain⟨m2,g2⟩:=q.mem.akw (o:=.loop { state:=.busy,pending:=none,fn:=fn',tmps:=tm,params:=rc.1,assign:=rc.2.1,body:=rc.2.2,defers:=D' }) (e':=.loop tm sl rc .busy none) hs1 rfl hk1 (a1n U)
  (fun g=>⟨l',fn',D',U,X9 (Gl.1 q2).1,q3,fun t ht=>(q4 t ht).mono g (.refl _)⟩)
 refine⟨_,run_beginRound q2 rfl,?_⟩;refine VX (h2.run (some l') (.inr J.2) _ _ _ _ _ ⟨m2,q.size,q.defers.mono g2,q.base,fun t ht=>(q.slot t ht).mono g2 (.refl _)⟩) ?_;rintro e a2 w3 ⟨ok2,H2,s2,hh2,z,j,hs2,hj,hL⟩;obtain⟨g3,n3,m3⟩:=u.mem.outer hh2.mem;have hk2:=n3 k hd M;obtain⟨l3,fn3,D3,r1,r2,r3,r4⟩:=hh2.mem.ent k _ hd hs2 hk2;have O:l3=l':=by rw[e1]at r1;cases r1;rfl
 subst O
 have key:j.1=(if j.2.isNone then LoopState.ready else .done)->∃v w',(Instr.endRound l3 j.2).run P w3=.ok v w'/\wpListIn (JF ro) 0 P ops Q (rest++l2) (a.put o.dst v) w':=by
  intro hst
  obtain⟨m4,g4⟩:=m3.akw (o:=.loop { state:=(if j.2.isNone then LoopState.ready else .done),pending:=j.2,fn:=fn3,tmps:=tm,params:=rc.1,assign:=rc.2.1,body:=rc.2.2,defers:=D3 }) (e':=.loop tm z rc j.1 j.2) hs2 rfl hk2 (a1n r1)
   (fun g=>⟨l3,fn3,D3,r1,by rw[hst];exact X9 (Gl.1 r2).1,r3,fun t ht=>(r4 t ht).mono g (.refl _)⟩)
  refine⟨_,_,run_endRound j.2 r2,hL.run ro l2 Q C _ _ _ _ (Holds.put (σ:=⟨σ.slots,s2.ents.set k (.loop tm z rc j.1 j.2),σ.base⟩) ⟨m4,u.size,u.defers.mono (g3.trans g4),u.base,fun t ht=>(u.slot t ht).mono (g3.trans g4) n3⟩ o.dst (.refl _ _) (.refl _) m4 (.d _ _ (.lit _))) L⟩
 cases e with
 |normal=>obtain rfl:=Dh hj;exact key rfl
 |ret=>obtain rfl:=Dh hj;exact key rfl
 |exit i=>obtain rfl:=Dh hj;exact key rfl
 |_=>cases hj
def Bz.aAl {Q:Exit->BR->Prop} {g:CM} {Y:Bh Tmp} {assign body c:Code} {gf:FuncId} {fn:Func} (q:A8 Ai) (hg:∀(C:En) (ok:Nat->Prop) (H:A8 CP) (a:Act) (w:Bc),Holds C ok H σ a w->R ok w H (.fn (.func gf) [] q) (a.eval g)) (hf:P.funcs[gf]? =some fn) (he:Hg P gf=true) (J:fn.body=some c) (hres:fn.results= #[])
 (h:∀tm,Bz P c ⟨(.mp σ.ents.length::q)++List.replicate (fn.ntmps-(q.length+1)) .junk,σ.ents++[.loop tm σ.slots (Y,assign,body) .ready none],σ.ents.length+1⟩ fun e s=>(e=.normal\/e=.ret)/\
  ∃sl j x,s.ents[σ.ents.length]? =some (.loop tm sl (Y,assign,body) j.1 j.2)/\Y2 x=some j/\Q x ⟨σ.slots,s.ents.set σ.ents.length .dead,σ.base⟩):Bz P (.rangeFunc g Y assign body) σ Q:=by
 refine⟨fun ro hr C ok H a w u=>?_⟩;obtain rfl:ro=none:=hr.resolve_right (by simp[QN]);have hv:=hg C ok H a w u;generalize hav:a.eval g=v at hv;cases hv with
 |fn _ _ _ vs us hl1 hl2 h1 h2=>
  obtain rfl:vs= #[]:=XY (by simpa using hl1);refine wpIn_rangeFunc ?_;intro fnm _;obtain⟨M,hrec⟩:∃M:Loop,M={ state:=.ready,pending:=none,fn:=fnm,tmps:=a.tmps,params:=Y,assign,body,defers:=w.heap.size }:=⟨_,rfl⟩
  obtain⟨I,L⟩:∃I,(w.alloc (.deferred (some []))).alloc (.loop M)=I:=⟨_,rfl⟩
  have hsz:I.heap.size=w.heap.size+2:=by rw[←L];simp
  have hL:I.heap[w.heap.size+1]? =some (.loop M):=by
   rw[←L];have :=mD (w.alloc (.deferred (some []))) (.loop M);rwa [aMe]at this
  have hD:I.heap[w.heap.size]? =some (.deferred (some [])):=by
   rw[←L];exact(L8 _ _ _ Bj).trans (mD w _)
  have hold:∀b,b<w.heap.size->I.heap[b]? =w.heap[b]? :=fun b J=>by
   rw[←L];exact(L8 _ _ _ EN).trans (L8 _ _ _ J)
  have hos:I.os=w.os/\I.tape=w.tape/\I.output=w.output:=by rw[←L];exact⟨rfl,rfl,rfl⟩
  obtain⟨hd,hhd⟩:∃hd:CP,hd=⟨.func (.yield (w.heap.size+1)) #[] #[],0⟩:=⟨_,rfl⟩
  have Z:hd.v=.func (.yield (w.heap.size+1)) #[] #[]:=by rw[hhd]
  have hgr:Ep ok w (fun b=>ok b\/b=w.heap.size) I:=fun b J=>⟨.inl J,hold b (u.mem.kM b J)⟩
  have hHn:(H++[hd])[σ.ents.length]? =some hd:=by rw[←u.mem.hlen];simp
  obtain⟨m2,g2⟩:=u.mem.change (ok':=fun b=>ok b\/b=w.heap.size) (H':=H++[hd]) (es':=σ.ents++[.loop a.tmps σ.slots (Y,assign,body) .ready none]) (w':=I) (fun _=>False) hos.1 hos.2.1 hos.2.2 AB (fun b J _=>hold b J) (fun _ h=>h.elim)
   (fun _ h=>.inl h) (fun b J=>J.imp id fun h=>AB) (.push _ _) (by simp[u.mem.hlen]) (fun k e hk he hkk=>by
    rcases Wq he with he'|⟨rfl,rfl⟩
    ·left;have hkl:k<H.length:=by rw[u.mem.hlen];exact(Fv.1 he').1
     rw[Hf hkl]at hkk;exact⟨he',hkk,fun _ _ _ h=>h⟩
    right;rw[hHn]at hkk;obtain rfl:=Dh hkk;refine⟨⟨w.heap.size+1,fnm,w.heap.size,Z,by rw[hL,hrec],u.size,fun t ht=>(u.slot t ht).mono hgr (.push _ _)⟩,fun _ b J=>?_⟩;rw[a1n Z]at J;obtain rfl:=Dh J;refine⟨fun hx=>?_,AB,.inl (by have :=u.mem.fr.size;omega),fun k' e' h' hne he' hl' O hb'=>?_⟩
    ·rcases hx with hx|hx
     ·have :=u.mem.kM _ hx;omega
     omega
    rcases Wq he' with he2|⟨rfl,_⟩
    ·have hkl:k'<H.length:=by rw[u.mem.hlen];exact(Fv.1 he2).1
     rw[Hf hkl]at O;have :=(u.mem.blk k' e' h' _ he2 hl' O hb').2.1;omega
    exact hne rfl)
  have hargs:∀t,t<((.mp σ.ents.length::q)++List.replicate (fn.ntmps-(q.length+1)) .junk:A8 Ai).length->
   R (fun b=>ok b\/b=w.heap.size) I (H++[hd]) (((.mp σ.ents.length::q)++List.replicate (fn.ntmps-(q.length+1)) .junk:A8 Ai).getD t .junk)
     (((#[.func (.yield (w.heap.size+1)) #[] #[]]++us)++Array.replicate (fn.ntmps-(#[.func (.yield (w.heap.size+1)) #[] #[]]++us:Bh Aw).size) undef:Bh Aw).getD t undef):=by
   intro t ht;by_cases h0:t<q.length+1
   ·have q1:((.mp σ.ents.length::q)++List.replicate (fn.ntmps-(q.length+1)) .junk:A8 Ai).getD t .junk=(.mp σ.ents.length::q:A8 Ai).getD t .junk:=by
     simp only[List.getD];rw[Hf a2T]
    have q2:((#[.func (.yield (w.heap.size+1)) #[] #[]]++us)++Array.replicate (fn.ntmps-(#[.func (.yield (w.heap.size+1)) #[] #[]]++us:Bh Aw).size) undef:Bh Aw).getD t undef=(#[.func (.yield (w.heap.size+1)) #[] #[]]++us:Bh Aw).getD t undef:=by
     simp only[Io];rw[Yu EN]
    rw[q1,q2];cases t with
    |zero=>
     have q3:(#[.func (.yield (w.heap.size+1)) #[] #[]]++us:Bh Aw).getD 0 undef=.func (.yield (w.heap.size+1)) #[] #[]:=by
      simp only[Io];rw[Yu Bj];rfl
     rw[q3];exact .mp _ _ 0 rfl (by rw[hHn,hhd])
    |succ t=>
     have q3:(#[.func (.yield (w.heap.size+1)) #[] #[]]++us:Bh Aw).getD (t+1) undef=us.getD t undef:=by
      simp only[Io];rw[aLP Bj];rfl
     rw[q3];simpa using(h2 t AB).mono hgr (.push _ _)
   have q1:((.mp σ.ents.length::q)++List.replicate (fn.ntmps-(q.length+1)) .junk:A8 Ai).getD t .junk=.junk:=by
    simp only[List.getD];rw[KX EN,aGV];split<;>rfl
   rw[q1];exact .junk _
  have hin:Holds (En.now I (fun b=>ok b\/b=w.heap.size) (σ.ents++[.loop a.tmps σ.slots (Y,assign,body) .ready none]) (H++[hd])) (fun b=>ok b\/b=w.heap.size) (H++[hd])
   ⟨(.mp σ.ents.length::q)++List.replicate (fn.ntmps-(q.length+1)) .junk,σ.ents++[.loop a.tmps σ.slots (Y,assign,body) .ready none],σ.ents.length+1⟩
   { tmps:=(#[.func (.yield (w.heap.size+1)) #[] #[]]++us)++Array.replicate (fn.ntmps-(#[.func (.yield (w.heap.size+1)) #[] #[]]++us:Bh Aw).size) undef,defers:=[] } I:=
   ⟨m2.inner,by simp[hl2];omega,.nil _ _ _,by simp[En.now,u.mem.hlen],hargs⟩
  refine⟨w.heap.size+1,[{ target:=.collected w.heap.size,args:= #[] }],I,{ target:=.fn (.func gf) us,args:= #[.func (.yield (w.heap.size+1)) #[] #[]] },I,gf, #[.func (.yield (w.heap.size+1)) #[] #[]]++us,I,?_,?_,fun _ _=>trivial,?_,fun h=>JD,?_⟩
  ·rw[←L,hrec];exact run_enterLoop_outer _ _ _ _ _
  ·have e9:a.eval (.const (.func (.yield (w.heap.size+1)) #[] #[]))=.func (.yield (w.heap.size+1)) #[] #[]:=rfl;simp[resolve,hav,Deferred.ofValue,e9]
  ·have :=U2 he (#[.func (.yield (w.heap.size+1)) #[] #[]]++us) I;simpa[invoke]using this
  refine aKe hf J trivial (VX ((h a.tmps).run none (.inl rfl) _ _ _ _ _ hin) ?_) rfl;rintro e a' w' ⟨ok',H',s,O,hee,sl,j,x,hs,hj,hQ⟩;obtain⟨Ds,hDs,hnd,hds⟩:=O.defers
  have key:LeavesInM (JF none) 0 P fn a'.tmps (rangePost (JF none) 0 P (w.heap.size+1) (fun e a' w'=>∃ok' H' σ',Holds C ok' H' σ' a' w'/\Q e σ') { a with defers:=[{ target:=.collected w.heap.size,args:= #[] }]++a.defers }) a'.defers .returning w':=by
   rw[hDs];refine aO1 (P:=P) (C:=En.now I (fun b=>ok b\/b=w.heap.size) (σ.ents++[.loop a.tmps σ.slots (Y,assign,body) .ready none]) (H++[hd])) m2.kM (fun ok3 a3 w3 h3=>?_) Ds O hds hnd;refine⟨.tuple #[],by simp[results,hres],?_⟩;obtain⟨g3,n3,m3⟩:=m2.outer h3.mem;have hk3:=n3 _ hd hHn;obtain⟨l3,fn3,D3,r1,r2,r3,r4⟩:=h3.mem.ent _ _ hd hs hk3;have hll:l3=w.heap.size+1:=by rw[Z]at r1;cases r1;rfl
   subst hll
   have hnb:j.1≠ .busy:=by
    cases x<;>simp[Y2]at hj<;>rw[←hj]<;>simp
   obtain⟨m4,g4⟩:=m3.akw (o:=.loop { state:=.exhausted,pending:=j.2,fn:=fn3,tmps:=a.tmps,params:=Y,assign:=assign,body:=body,defers:=D3 }) (e':=.dead) hs rfl hk3 (a1n Z) (fun _=>trivial);have U:=(g2.trans g3).trans g4
   have z:Holds C ok3 H' ⟨σ.slots,s.ents.set σ.ents.length .dead,σ.base⟩ { a with defers:=[{ target:=.collected w.heap.size,args:= #[] }]++a.defers }
    (w3.putObj (w.heap.size+1) (.loop { state:=.exhausted,pending:=j.2,fn:=fn3,tmps:=a.tmps,params:=Y,assign:=assign,body:=body,defers:=D3 })):=by
    refine⟨m4,u.size,?_,u.base,fun t ht=>(u.slot t ht).mono U ((Ht _ _).trans n3)⟩;obtain⟨Es,q1,q2,q3⟩:=u.defers.mono U;obtain⟨Fs,p1,p2,p3⟩:=u.defers
    have hEF:Es=Fs:=by
     have :=q1.symm.trans p1;exact(List.map_inj_right (fun a b h=>KC)).1 this
    subst hEF;refine⟨w.heap.size::Es,by simp[q1],Nh.2 ⟨fun hm=>?_,q2⟩,fun D hDm=>?_⟩
    ·have :=u.mem.kM _ (p3 _ hm).1;omega
    rcases F5.1 hDm with rfl|hDm
    ·have hok2:(fun b=>ok b\/b=w.heap.size) w.heap.size:=.inr rfl;have q4:=(g3.trans g4) _ hok2;exact⟨q4.1,u.mem.fr.size,q4.2.trans hD⟩
    exact q3 D hDm
   refine⟨j.2,_,run_endLoop r2 hnb,?_⟩;cases x with
   |normal=>simp[Y2]at hj;rw[←hj]at z ⊢;exact⟨_,_,_,z,hQ⟩
   |ret=>simp[Y2]at hj;rw[←hj]at z ⊢;exact wpIn_ret ⟨_,_,_,z,hQ⟩
   |exit i=>simp[Y2]at hj;rw[←hj]at z ⊢;exact wpIn_exit ⟨_,_,_,z,hQ⟩
   |_=>cases hj
  rcases hee with rfl|rfl
  ·exact key
  exact key
def Bz.rangeFunc {Q:Exit->BR->Prop} {g:CM} {z:Bh Tmp} {assign body c:Code} {I:FuncId} {fn:Func} (q:A8 Ai) (J:σ.get g=.fn (.func I) [] q) (L:P.funcs[I]? =some fn) (M:Hg P I=true) (O:fn.body=some c) (u:fn.results= #[])
 (h:∀tm,Bz P c ⟨(.mp σ.ents.length::q)++List.replicate (fn.ntmps-(q.length+1)) .junk,σ.ents++[.loop tm σ.slots (z,assign,body) .ready none],σ.ents.length+1⟩ fun e s=>(e=.normal\/e=.ret)/\
  ∃sl j x,s.ents[σ.ents.length]? =some (.loop tm sl (z,assign,body) j.1 j.2)/\Y2 x=some j/\Q x ⟨σ.slots,s.ents.set σ.ents.length .dead,σ.base⟩):Bz P (.rangeFunc g z assign body) σ Q:=
 Bz.aAl q (fun _ _ _ _ _ U=>J▸U.get g) L M O u h
def Bz.anI {Q:Exit->BR->Prop} {g:CM} {u:Bh Tmp} {assign body c:Code} {z:FuncId} {fn:Func} (cs:A8 D) (I:σ.get g=.d (.fn (.func z) [] cs)) (J:P.funcs[z]? =some fn) (L:Hg P z=true) (M:fn.body=some c) (q:fn.results= #[])
 (h:∀tm,Bz P c ⟨(.mp σ.ents.length::cs.map .d)++List.replicate (fn.ntmps-((cs.map Ai.d).length+1)) .junk,σ.ents++[.loop tm σ.slots (u,assign,body) .ready none],σ.ents.length+1⟩ fun e s=>(e=.normal\/e=.ret)/\
  ∃sl j x,s.ents[σ.ents.length]? =some (.loop tm sl (u,assign,body) j.1 j.2)/\Y2 x=some j/\Q x ⟨σ.slots,s.ents.set σ.ents.length .dead,σ.base⟩):Bz P (.rangeFunc g u assign body) σ Q:=
 Bz.aAl (cs.map .d) (fun _ _ _ _ _ O=>R.dfn (I▸O.get g)) J L M q h
end
def aZt :Code->Nat->Code
 | .seq a b,i=>if i=0 then a else b
 | .cond _ a b,i=>if i=0 then a else b
 | .block _ a,_=>a
 | .loop a,_=>a
 | .scope a,_=>a
 | .rangeFunc _ _ a b,i=>if i=0 then a else b
 |c,_=>c
def aBV (c:AO Code) (p:A8 Nat):Bh Tmp×Code×Code:=
 match p.foldl aZt (c.getD .skip)with
 | .rangeFunc _ j a b=>(j,a,b)
 |_=>(#[],.skip,.skip)
section
variable {K V:Type} [BEq K]
def DV :A8 (K×V)->K->AO V
 | [],_=>none
 |p::l,k=>bif k==p.1 then some p.2 else DV l k
def FM :A8 (K×V)->K->V->A8 (K×V)
 | [],k,v=>[(k,v)]
 |p::l,k,v=>bif k==p.1 then(k,v)::l else p::FM l k v
def DT (ek:K->Aw) (ev:V->D) (p:K×V):Aw×D:=(ek p.1,ev p.2)
structure KeyTy (P:Program) (t:TypeId) (ek:K->Value):Prop where
 same:∃kd,P.underlying t=some kd/\∀a b,Instr.sameNow kd (ek a) (ek b)=some (a==b)
 check:∀e a w,(Instr.checkKey e 10000 t (ek a)).run P w=.ok () w
 eq:∀a b:K,(a==b)=true->a=b
 bits:∀a,Instr.sameBits 10000 (ek a) (ek a)=true
def ae6 {P:Cm} {t:CO} {k:IntKind} (h:P.underlying t=some (.int k)):KeyTy P t (fun n:Int=>Value.int k n):=by
 refine⟨⟨_,h,fun a b=>by simp[Instr.sameNow]⟩,fun e a w=>?_,fun a b h=>KC,fun a=>?_⟩
 ·have :∀n,(Instr.checkKey e (n+1) t (.int k a)).run P w=.ok () w:=fun n=>by simp[Instr.checkKey,underlying,h]
  exact this 9999
 unfold Instr.sameBits;simp
def aBY {ek:K->Aw} {kd:TypeDesc} (hs:∀a b,Instr.sameNow kd (ek a) (ek b)=some (a==b)) (k:K) (v:V):∀(m:A8 (K×V)) (l:A8 MapEntry) (i:Nat),l.map (·.key)=m.map (fun p=>ek p.1)->
 (Instr.findNow kd (ek k) l i=some none/\DV m k=none/\FM m k v=m++[(k,v)])\/
 ∃j e p,Instr.findNow kd (ek k) l i=some (some (i+j,e.val))/\l[j]? =some e/\m[j]? =some p/\DV m k=some p.2/\(k==p.1)=true/\FM m k v=m.set j (k,v)
 | [],[],_,_=>.inl ⟨rfl,rfl,rfl⟩
 | [],_::_,_,h=>J8
 |_::_,[],_,h=>J8
 |p::m,e::l,i,h=>by
  simp only[JJ,aFR]at h;cases q:(k==p.1)with
  |true=>
   refine .inr ⟨0,e,p,?_,rfl,rfl,?_,q,?_⟩
   ·simp[Instr.findNow,h.1,hs,q]
   ·simp[DV,q]
   simp[FM,q]
  |false=>
   rcases aBY hs k v m l (i+1) h.2 with⟨u,z,I⟩|⟨j,e',J,u,z,I,L,M,O⟩
   ·refine .inl ⟨?_,?_,?_⟩
    ·simp[Instr.findNow,h.1,hs,q,u]
    ·simp[DV,q,z]
    simp[FM,q,I]
   refine .inr ⟨j+1,e',J,?_,MW,Ti,?_,M,?_⟩
   ·simp[Instr.findNow,h.1,hs,q,u];omega
   ·simp[DV,q,L]
   simp[FM,q,O]
end
section
variable {ok:Nat->Prop} {w:Bc} {es:A8 (Aw×D)} {ms:Bh MapEntry} {clock:Nat}
def Lc.push (h:Lc ok w es ms clock) {k v:Aw} {x:D} (L:EU ok w x v):Lc ok w (es++[(k,x)]) (ms.push { key:=k,val:=v,born:=clock }) (clock+1):=by
 have q:∀(i:Nat) (m:MapEntry),(ms.push { key:=k,val:=v,born:=clock })[i]? =some m->ms[i]? =some m\/(i=ms.size/\m={ key:=k,val:=v,born:=clock }):=fun i m hm=>by
  rw[aLz]at hm;split at hm
  ·rename_i e;exact .inr ⟨e,(Dh hm).symm⟩
  exact .inl hm
 refine⟨by simp[h.len],fun i e m z hm=>?_,fun i j m n I hm M=>?_⟩
 ·rcases q i m hm with u|⟨rfl,rfl⟩
  ·have hi:i<es.length:=by rw[←h.len];exact(Gl.1 u).1
   rw[Hf hi]at z;obtain⟨O,U,Y⟩:=h.ent i e m z u;exact⟨O,U,Nat.lt_succ_of_lt Y⟩
  rw[h.len]at z;simp at z;subst z;exact⟨rfl,L,WH _⟩
 rcases q i m hm with u|⟨rfl,rfl⟩<;>rcases q j n M with J|⟨rfl,rfl⟩
 ·exact h.inc i j m n I u J
 ·have hi:i<es.length:=by rw[←h.len];exact(Gl.1 u).1
  exact(h.ent i es[i] m SC u).2.2
 ·have :=(Gl.1 J).1;omega
 omega
def Lc.modify (h:Lc ok w es ms clock) {k v:Aw} {x:D} (Z:EU ok w x v) (j:Nat):Lc ok w (es.set j (k,x)) (ms.modify j fun e=>{ e with key:=k,val:=v }) clock:=by
 have u:∀(i:Nat) (m:MapEntry),(ms.modify j fun e=>{ e with key:=k,val:=v })[i]? =some m->∃z,ms[i]? =some z/\m.born=z.born/\(i≠j->m=z)/\(i=j->m.key=k/\m.val=v):=fun i m hm=>by
  rw[OH]at hm;split at hm
  ·rename_i e;rw[Ul]at hm;obtain⟨z,I,rfl⟩:=hm;exact⟨z,I,rfl,fun q=>absurd e.symm q,fun _=>⟨rfl,rfl⟩⟩
  rename_i e;exact⟨m,hm,rfl,fun _=>rfl,fun q=>absurd q.symm e⟩
 refine⟨by simp[h.len],fun i e m J hm=>?_,fun i U m n L hm hn=>?_⟩
 ·obtain⟨z,I,M,h3,Y⟩:=u i m hm;have hi:i<es.length:=by rw[←h.len];exact(Gl.1 I).1
  obtain⟨q1,q2,q3⟩:=h.ent i es[i] z SC I;by_cases O:i=j
  ·subst O;simp[hi]at J;subst J;exact⟨(Y rfl).1,by rw[(Y rfl).2];exact Z,by rw[M];exact q3⟩
  rw[Y8 (fun q=>O q.symm)]at J;rw[h3 O];exact h.ent i e z J I
 obtain⟨z,I,M,_⟩:=u i m hm;obtain⟨n0,g1,g2,_⟩:=u U n hn;rw[M,g2];exact h.inc i U z n0 L I g1
def Lc.mono {ok':Nat->Prop} {w':Bc} (h:Lc ok w es ms clock) (q:Ep ok w ok' w'):Lc ok' w' es ms clock:=⟨h.len,fun i e m j hm=>⟨(h.ent i e m j hm).1,(h.ent i e m j hm).2.1.mono q,(h.ent i e m j hm).2.2⟩,h.inc⟩
def Lc.keys (h:Lc ok w es ms clock):ms.toList.map (·.key)=es.map (·.1):=by
 apply sW
 ·simp[h.len]
 intro i j q;simp at j q;have :=(h.ent i es[i] ms[i] Zg (by simp[j])).1;simpa using this
end
def cG :Aw->D
 | .agg vs=>.agg (vs.toList.map P5)
 |v=>P5 v
def aPa {ok:Nat->Prop} {w:Bc} {z:Aw} (h:z.cells.all (·.oneCell')=true):EU ok w (cG z) z:=by
 unfold cG;split
 ·rename_i vs;refine .agg _ vs Bj (fun i hi=>?_) (fun i hi=>?_)
  ·simp at hi;have e:(vs.toList.map P5).getD i ES=P5 vs[i]:=OC
   rw[e];exact tJ ((QJ.1 h) _ (by simp[Value.cells]))
  simp at hi;have e:(vs.toList.map P5).getD i ES=P5 vs[i]:=OC
  have j:vs.getD i undef=vs[i]:=by simp[Array.getD,hi]
  rw[e,j];exact lX _
 exact lX _
section
variable {P:Cm} {o:Oper} {es:A8 Bf} {K V:Type} [BEq K]
def V4 {ok:Nat->Prop} {w:Bc} {H:A8 CP} {k:Nat} {v:Aw} {h:CP} (q:R ok w H (.mp k) v) (u:H[k]? =some h):v=h.v:=by
 cases q with
 |mp _ _ s hl j=>
  rw[u]at j;cases j;rfl
def aBp {t:CO} (u:o.op=.makeMap t none):CS P o [] es (.mp es.length) (es++[.map []]):=
 .eff fun C ok H a w hm M=>by
  have q:FZ ok (w.alloc (.map #[] 0)) (H++[⟨.map (some w.heap.size),0⟩]) ⟨.map (some w.heap.size),0⟩ (.map []):=
   ⟨w.heap.size, #[],0,rfl,(aI4 w _).1,⟨rfl,fun i e m z=>Fn1,fun i j m n _ hm=>by simp at hm⟩⟩
  obtain⟨I,J⟩:=hm.push (.map #[] 0) ⟨.map (some w.heap.size),0⟩ _ (fun b q=>aNp) q;refine⟨.map (some w.heap.size),_,ok,_,.inl ?_,J,Ht _ _,I,.mp _ _ 0 rfl P7⟩;have L:(newObj (.map #[] 0)).run P w=.ok w.heap.size (w.alloc (.map #[] 0)):=rfl;simp[execOp,u,Instr.makeMap,L]
def abe {t k e:CO} {x:CM} {kd:IntKind} {n:Int} (ht:P.underlying t=some (.map k e)) (z:o.op=.makeMap t (some x)):CS P o [(x,.d (.lit (.int kd n)))] es (.mp es.length) (es++[.map []]):=
 .eff fun C ok H a w hm I=>by
  have q:FZ ok (w.alloc (.map #[] 0)) (H++[⟨.map (some w.heap.size),0⟩]) ⟨.map (some w.heap.size),0⟩ (.map []):=
   ⟨w.heap.size, #[],0,rfl,(aI4 w _).1,⟨rfl,fun i e m J=>by simp at J,fun i j m n _ hm=>by simp at hm⟩⟩
  obtain⟨L,M⟩:=hm.push (.map #[] 0) ⟨.map (some w.heap.size),0⟩ _ (fun b q=>aNp) q;have u:=(LP I).lit;simp only at u;refine⟨.map (some w.heap.size),_,ok,_,.inl ?_,M,Ht _ _,L,.mp _ _ 0 rfl P7⟩;have O:(newObj (.map #[] 0)).run P w=.ok w.heap.size (w.alloc (.map #[] 0)):=rfl;simp[execOp,z,Instr.makeMap,O,u,asInt,asIntOf,underlying,ht]
def aG7 {t Z vt:CO} {ek:K->Aw} (ev:V->D) {J:V} {z:Aw} {m:A8 (K×V)} {key:K} {ok:Nat->Prop} {w:Bc} {b:Nat} {ms:Bh MapEntry} {clock:Nat} (ht:P.underlying t=some (.map Z vt)) (hk:KeyTy P Z ek) (hz:(P.info? vt).bind (·.zero)=some z) (L:cG z=ev J)
 (M:z.cells.all (·.oneCell')=true) (hb:w.heap[b]? =some (.map ms clock)) (hM:Lc ok w (m.map (DT ek ev)) ms clock) (c:Ad):
 ∃v,(Instr.lookup t (.map (some b)) (ek key) c).run P w=.ok (if c then .tuple #[v,.bool (DV m key).isSome]else v) w/\EU ok w (ev ((DV m key).getD J)) v:=by
 obtain⟨kd,q,hs⟩:=hk.same;have O:ms.toList.map (·.key)=m.map (fun p=>ek p.1):=by rw[hM.keys];simp[DT,pz]
 have u:=hk.check;obtain⟨i,hi,U⟩:=iQ.1 hz;rcases aBY (i:=0) hs key J m ms.toList O with⟨Y,I,_⟩|⟨j,e,p,Y,I,h3,h4,_⟩
 ·refine⟨z,?_,?_⟩
  ·rw[I];simp[Instr.lookup,underlying,ht,Sz hb,u,Instr.findKey,q,Y,zeroValue,typeInfo,hi,U]
  rw[I];have :=aPa (ok:=ok) (w:=w) M;rw[L]at this;exact this
 refine⟨e.val,?_,?_⟩
 ·rw[h4];simp[Instr.lookup,underlying,ht,Sz hb,u,Instr.findKey,q,Y]
 rw[h4];have h5:(m.map (DT ek ev))[j]? =some (DT ek ev p):=by rw[Ji,h3];rfl
 exact(hM.ent j _ e h5 Ti).2.1
def aH {t J L:CO} {x y:CM} {k:Nat} {ek:K->Aw} (ev:V->D) (M:V) {z:Aw} {m:A8 (K×V)} {key:K} (ht:P.underlying t=some (.map J L)) (Z:KeyTy P J ek) (hz:(P.info? L).bind (·.zero)=some z) (q:cG z=ev M) (u:z.cells.all (·.oneCell')=true)
 (he:es[k]? =some (.map (m.map (DT ek ev)))) (ho:o.op=.lookup t x y false):CS P o [(x,.mp k),(y,.d (.lit (ek key)))] es (.d (ev ((DV m key).getD M))) es:=
 .pure fun ok H a w j hl O=>by
  obtain⟨hd,hh,I⟩:=H8 j hl he;obtain⟨b,ms,clock,h1,h2,h3⟩:=I;have U:=V4 (FK O).1 hh;have Y:=(FK O).2.lit;simp only at U Y;obtain⟨v,hr,hv⟩:=aG7 (key:=key) ev ht Z hz q u h2 h3 false;refine⟨v,?_,.d _ _ hv⟩;simp[execOp,ho,U,Y,h1,hr]
def a2M {t J L:CO} {x y:CM} {k:Nat} {ek:K->Aw} (ev:V->D) (M:V) {z:Aw} {m:A8 (K×V)} {key:K} (ht:P.underlying t=some (.map J L)) (Z:KeyTy P J ek) (hz:(P.info? L).bind (·.zero)=some z) (q:cG z=ev M) (u:z.cells.all (·.oneCell')=true)
 (he:es[k]? =some (.map (m.map (DT ek ev)))) (ho:o.op=.lookup t x y true):CS P o [(x,.mp k),(y,.d (.lit (ek key)))] es (.eX [.d (ev ((DV m key).getD M)),.d (Ea (DV m key).isSome)]) es:=
 .pure fun ok H a w j hl O=>by
  obtain⟨hd,hh,I⟩:=H8 j hl he;obtain⟨b,ms,clock,h1,h2,h3⟩:=I;have U:=V4 (FK O).1 hh;have Y:=(FK O).2.lit;simp only at U Y;obtain⟨v,hr,hv⟩:=aG7 (key:=key) ev ht Z hz q u h2 h3 true;refine⟨.tuple #[v,.bool (DV m key).isSome],?_,.eX _ _ rfl fun i hi=>?_⟩
  ·simp[execOp,ho,U,Y,h1,hr]
  match i,hi with
  |0,_=>exact .d _ _ hv
  |1,_=>exact .d _ _ (.lit _)
def aKD {C:En} {ok:Nat->Prop} {H:A8 CP} {w:Bc} (hm:Dv C ok H es w) {k:Nat} {es0 u:A8 (Aw×D)} {b clock j:Nat} {ms q:Bh MapEntry} {hd:CP} (J:es[k]? =some (.map es0)) (L:H[k]? =some hd) (z:hd.v=.map (some b)) (I:w.heap[b]? =some (.map ms clock))
 (M:Lc ok w u q j):(setObj b (.map q j)).run P w=.ok () (w.putObj b (.map q j))/\Dv C ok H (es.set k (.map u)) (w.putObj b (.map q j))/\Ep ok w ok (w.putObj b (.map q j)):=by
 refine⟨by simp[setObj,Sem.run,I,World.putObj],hm.akw J rfl L xA fun O=>⟨b,q,j,z,X9 (Gl.1 I).1,M.mono O⟩⟩
def xJ {t kt vt:CO} {x y u:CM} {k:Nat} {ek:K->Aw} (ev:V->D) {m:A8 (K×V)} {key:K} {val:V} (ht:P.underlying t=some (.map kt vt)) (J:KeyTy P kt ek) (U:es[k]? =some (.map (m.map (DT ek ev)))) (ho:o.op=.mapUpdate t x y u):
 CS P o [(x,.mp k),(y,.d (.lit (ek key))),(u,.d (ev val))] es .junk (es.set k (.map ((FM m key val).map (DT ek ev)))):=
 .eff fun C ok H a w hm Y=>by
  obtain⟨hd,Z,hok⟩:=H8 hm.ent hm.hlen U;obtain⟨b,ms,clock,L,M,O⟩:=hok;have hx:=V4 (Y (x,.mp k) Bj) Z;have hy:=(Y (y,.d (.lit (ek key))) Bj).lit;have hu:EU ok w (ev val) (a.eval u):=by have :=Y (u,.d (ev val)) Bj;cases this with |d _ _ h=>exact h
  simp only at hx hy;obtain⟨kd,q,hs⟩:=J.same;have hks:ms.toList.map (·.key)=m.map (fun p=>ek p.1):=by rw[O.keys];simp[DT,pz]
  have z:=J.check;rcases aBY (i:=0) hs key val m ms.toList hks with⟨q1,_,q3⟩|⟨j,e,p,q1,q2,q3,_,q5,q6⟩
  ·have hM:=O.push (k:=ek key) hu;obtain⟨r1,r2,r3⟩:=aKD (P:=P) hm U Z L M hM;refine⟨undef,_,ok,H,.inr ⟨rfl,?_⟩,r3,.refl _,?_,.junk _⟩
   ·simp[execOp,ho,hx,hy,L,Instr.mapUpdate,underlying,ht,Sz M,z,Instr.findKey,q,q1,r1]
   rw[q3,Kw];exact r2
  have hM:=O.modify (k:=ek key) hu j;obtain⟨r1,r2,r3⟩:=aKD (P:=P) hm U Z L M hM
  have I:e.key=ek key:=by
   have h5:(m.map (DT ek ev))[j]? =some (DT ek ev p):=by rw[Ji,q3];rfl
   rw[(O.ent j _ e h5 tC).1,J.eq _ _ q5];rfl
  have hst:∀w,(Instr.keyThatStays (ek key) (ek key)).run P w=.ok (ek key) w:=fun w=>by simp[Instr.keyThatStays,J.bits]
  have hms:ms[j]? =some e:=tC
  refine⟨undef,_,ok,H,.inr ⟨rfl,?_⟩,r3,.refl _,?_,.junk _⟩
  ·simp[execOp,ho,hx,hy,L,Instr.mapUpdate,underlying,ht,Sz M,z,Instr.findKey,q,q1,hms,I,hst,r1]
  rw[q6,aAg];exact r2
def akY {t M O:CO} {x:CM} {k:Nat} {es0:A8 (Aw×D)} (ht:P.underlying t=some (.map M O)) (q:es[k]? =some (.map es0)) (U:o.op=.call { callee:=.builtin .clear,args:= #[x],argTypes:= #[t] }):
 CS P o [(x,.mp k)] es .junk (es.set k (.map [])):=
 .eff fun C ok H a w hm Y=>by
  obtain⟨hd,z,u⟩:=H8 hm.ent hm.hlen q;obtain⟨b,ms,clock,I,J,h3⟩:=u;have L:=V4 (Y (x,.mp k) Bj) z;simp only at L;have Z:Lc ok w [] #[] clock:=⟨rfl,fun i e m q=>iR,fun i j m n _ hm=>by simp at hm⟩
  obtain⟨r1,r2,r3⟩:=aKD (P:=P) hm q z I J Z;refine⟨.tuple #[],_,ok,H,.inl ?_,r3,.refl _,r2,.junk _⟩;simp[execOp,U,resolve,invoke,builtin,Builtin.clear_,L,I,underlying,ht,Sz J,r1]
def aaQ {t z I:CO} {x:CM} {k:Nat} {es0:A8 (Aw×D)} {n:Nat} (hl:es0.length=n) (ht:P.underlying t=some (.map z I)) (J:es[k]? =some (.map es0)) (L:o.op=.call { callee:=.builtin .len,args:= #[x],argTypes:= #[t] }):
 CS P o [(x,.mp k)] es (.d (Ag n)) es:=
 .pure fun ok H a w j hlen M=>by
  obtain⟨hd,O,q⟩:=H8 j hlen J;obtain⟨b,ms,clock,U,Y,Z⟩:=q;have u:=V4 (M (x,.mp k) Bj) O;simp only at u;refine⟨goInt es0.length,?_,by rw[hl];exact .d _ _ (.lit _)⟩;simp[execOp,L,resolve,invoke,builtin,Builtin.len_,u,U,underlying,ht,Sz Y,Z.len]
end
def a0C {ok:Nat->Prop} {w:Bc} {H:A8 CP} {xs ys:A8 Ai} {vs us:A8 Aw} (h:Fg ok w H xs vs) (k:Fg ok w H ys us):Fg ok w H (xs++ys) (vs++us):=by
 refine⟨by rw[EZ,EZ,h.1,k.1],fun i hi=>?_⟩;by_cases j:i<xs.length
 ·have q:(xs++ys).getD i .junk=xs.getD i .junk:=by simp[List.getD,Hf j]
  have u:(vs++us).getD i undef=vs.getD i undef:=by simp[List.getD,Hf (by rw[h.1];exact j:i<vs.length)]
  rw[q,u];exact h.2 i j
 have z:i-xs.length<ys.length:=aKi
 have q:(xs++ys).getD i .junk=ys.getD (i-xs.length) .junk:=by simp[List.getD,KX (X7 j)]
 have u:(vs++us).getD i undef=us.getD (i-xs.length) undef:=by simp[List.getD,KX (by rw[h.1];omega:vs.length<=i),h.1]
 rw[q,u];exact k.2 _ z
def Dv.aDG {C:En} {ok:Nat->Prop} {H:A8 CP} {es:A8 Bf} {w w':Bc} (hm:Dv C ok H es w) {v':Aw} {size:Nat} {e:Bf} (z:w.grownBy w' none) (I:∀g,EF v'=some g->w.heap.size<=g/\g<w'.heap.size)
 (he:Ep ok w ok w'->FZ ok w' (H++[⟨v',size⟩]) ⟨v',size⟩ e):Dv C ok (H++[⟨v',size⟩]) (es++[e]) w'/\Ep ok w ok w':=by
 have g0:Ep ok w ok w':=fun b I=>⟨I,z.block b (hm.kM b I) Bj⟩
 refine hm.change (fun _=>False) z.os z.tape z.output z.size (fun b I _=>z.block b I Bj) (fun _ h=>h.elim) (fun _ h=>h) (fun _ h=>.inl h) (Ht _ _) dR ?_;intro k e' h' M q;rcases Wq M with L|⟨L,h2⟩
 ·left;refine⟨L,?_,fun _ _ _ h=>h⟩;have O:k<H.length:=by rw[hm.hlen];exact(Fv.1 L).1
  rwa [Hf O]at q
 subst h2;have O:k=H.length:=by rw[hm.hlen];exact L
 subst O;simp at q;subst q;refine .inr ⟨he g0,fun _ b U=>?_⟩;obtain⟨q1,q2⟩:=I b U;refine⟨fun u=>absurd (hm.kM _ u) AB,q2,.inl (FC hm.fr.size q1),fun k' Y Z hne hk' hl j J=>?_⟩;rcases Wq hk' with u|⟨u,_⟩
 ·have hk2:k'<H.length:=by rw[hm.hlen];exact(Fv.1 u).1
  rw[Hf hk2]at j;exact absurd (hm.blk k' Y Z _ u hl j J).2.1 AB
 rw[←hm.hlen]at u;exact hne u
section
variable {P:Cm} {o:Oper} {es es':A8 Bf}
def CS.thaw {ns:A8 (CM×Ai)} {k e s:Nat} {xs:A8 D} (h:CS P o ns es (.aO k) es') (J:es'[k]? =some (.arr e s xs)):CS P o ns es (.d (.sl xs)) (es'.set k .dead):=by
 intro C ok H a w Q hm L;refine Oper.wp_mono ?_ (h C ok H a w Q hm L);rintro a' w' ⟨v,ok',H',rfl,M,q,j,O⟩
 have u:Holds (En.now w' ok' es' H') ok' H' ⟨[.aO k],es',H'.length⟩ { tmps:= #[v],defers:=[] } w':=⟨j.inner,rfl,.nil _ _ _,rfl,fun t ht=>by
  match t,ht with
  |0,_=>exact O⟩
 obtain⟨z,I⟩:=Iz k J _ _ _ _ _ u;obtain⟨U,_,Y⟩:=j.outer I.mem;refine⟨v,z,H',rfl,M.trans U,q,Y,?_⟩;have :=I.slot 0 (by simp[BR.thaw]);simpa[BR.thaw,Ai.thaw]using this
def EU.aGQ {ok:Nat->Prop} {w:Bc} {xs:A8 D} {ad:AO Addr} {n cap j:Nat} (h:EU ok w (.sl xs) (.slice ad n cap)) (I:xs.length<=j):EU ok w (.sl xs) (.slice ad n j):=by
 cases h with
 |sl0 _ _=>exact .sl0 _ _
 |sl _ b off _ size z u hs J L q=>exact .sl xs b off j size I u hs J L q
def aYL {t e:CO} {agg:Ad} {size n cap m:Nat} {ad:AO Addr} {w:Bc} (ht:P.underlying t=some (.slice e)) (q:Ee P e agg size) (j:m<=cap):
 (Instr.slice t (.slice ad n cap) none (some (.int .i64 m)) (some (.int .i64 m))).run P w=.ok (.slice (if m=0 then ad else ad.map (·.add 0)) m m) w:=by
 have u:(underlying t).run P w=.ok (.slice e) w:=O4
 have z:((m:Int)<=(cap:Int)):=Int.ofNat_le.2 j;simp[Instr.slice,u,Instr.sliceBounds,Instr.sliceBound,asIntOf,z,j,q.size]
def aMT {α:Type} {t e:CO} {agg:Ad} {size:Nat} {x y z:CM} {h:Int} (enc:α->D) {xs r:A8 α} (hr:IE xs 0 h=some r) (ht:P.underlying t=some (.slice e)) (hT:Ee P e agg size) (hc:∀a,(enc a).cells.length=size)
 (ho:o.op=.slice t x none (some y) (some z)):CS P o [(x,.d (C9 enc xs)),(y,.d (Ag h)),(z,.d (Ag h))] es (.clip (r.map enc)) es:=
 .pure fun ok H a w _ _ O=>by
  obtain⟨⟨_,h1,h2⟩,rfl⟩:=aSe hr;have U:=O (x,.d (C9 enc xs)) Bj;have M:=(O (y,.d (Ag h)) Bj).lit;have hz:=(O (z,.d (Ag h)) Bj).lit;simp only at U M hz;generalize hv:a.eval x=v at U;have I:EU ok w (.sl (xs.map enc)) v:=by cases U with |d _ _ h=>exact h
  have J:∃ad cap,v=.slice ad (xs.map enc).length cap/\(xs.map enc).length<=cap:=by
   generalize hys:xs.map enc=ys at I;cases I with
   |sl0 ad cap=>exact⟨ad,cap,rfl,Du _⟩
   |sl _ b off cap size j=>exact⟨_,cap,rfl,j⟩
  obtain⟨ad,cap,rfl,j⟩:=J
  have hlen:(List.map enc ((xs.drop 0).take (h.toNat-0))).length=h.toNat:=by
   rw[DY,G6,jF];omega
  have u:=aYL (P:=P) (n:=xs.length) (ad:=ad) (w:=w) ht hT (m:=h.toNat) (cap:=cap) (by rw[DY]at j;omega);have Y:((h.toNat:Nat):Int)=h:=AB
  rw[Y]at u;refine⟨.slice (if h.toNat=0 then ad else ad.map (·.add 0)) h.toNat h.toNat,?_,?_⟩
  ·rw[DY]at hv;simp only[execOp,ho,a0s,Ij,hv,M,hz,Instr.sliceAt];have hu:(underlying t).run P w=.ok (.slice e) w:=O4
   simp only[Fl,a00,Gw,hu,u,G8]
  have hD:EU ok w (.sl (List.map enc ((xs.drop 0).take (h.toNat-0)))) (.slice (if h.toNat=0 then ad else ad.map (·.add 0)) (List.map enc ((xs.drop 0).take (h.toNat-0))).length (List.map enc ((xs.drop 0).take (h.toNat-0))).length):=by
   by_cases L:h.toNat=0
   ·have e0:List.map enc ((xs.drop 0).take (h.toNat-0))=[]:=Hw (by rw[hlen,L]);rw[e0];exact .sl0 _ _
   have q:=aX7 (l:=0) (h:=h.toNat) I (size:=size) (fun y M=>by obtain⟨b,_,rfl⟩:=FY.1 M;exact hc b) (Du _) EN;have Z:cap≠0:=by rw[DY]at j;omega
   rw[Dk Z]at q;rw[Dk L,hlen];rw[←aG,←YK]at q;simp only[aDR,Nat.sub_zero]at q ⊢;exact q.aGQ (by rw[DY,G6,jF];omega)
  have :=R.clip (H:=H) _ _ hD;rw[hlen]at this;exact this
def aUu {t e e':CO} {agg:Ad} {size k s:Nat} {x y z:CM} {xs:A8 D} {h:Int} (Z:h=(xs.length:Int)) (hk:es[k]? =some (.arr e' s xs)) (ht:P.underlying t=some (.slice e)) (hT:Ee P e agg size)
 (ho:o.op=.slice t x none (some y) (some z)):CS P o [(x,.aO k),(y,.d (Ag h)),(z,.d (Ag h))] es (.xU k) es:=
 .pure fun ok H a w u hl L=>by
  obtain⟨hd,I,M⟩:=H8 u hl hk;have O:=Oe (L (x,.aO k) Bj) I;have U:=(L (y,.d (Ag h)) Bj).lit;have Y:=(L (z,.d (Ag h)) Bj).lit;simp only at O U Y;obtain⟨_,_,Dn,⟨_,j⟩,_⟩:=M;obtain⟨v,CU⟩:=hd;simp only at j O;subst Z
  have key:∃ad cap,v=.slice ad xs.length cap/\xs.length<=cap/\ad.map (·.add 0)=ad:=by
   rcases j with⟨rfl,J⟩|⟨g,cap,_,rfl,_,_,J,_⟩
   ·exact⟨none,0,by rw[J],AB,rfl⟩
   exact⟨_,cap,rfl,J,by simp[Addr.add]⟩
  obtain⟨ad,cap,rfl,J,h2⟩:=key;have q:=aYL (P:=P) (n:=xs.length) (ad:=ad) (w:=w) ht hT (m:=xs.length) (cap:=cap) J;have hi:(if xs.length=0 then ad else ad.map (·.add 0))=ad:=by split<;>simp[h2]
  rw[hi]at q;refine⟨.slice ad xs.length xs.length,?_,.xU k ad _ cap CU I⟩;simp only[execOp,ho,a0s,Ij,O,U,Y,Instr.sliceAt];have hu:(underlying t).run P w=.ok (.slice e) w:=O4
  simp only[Fl,a00,Gw,hu,q,G8]
def ajt {C:En} {ok:Nat->Prop} {H:A8 CP} {w:Bc} (hm:Dv C ok H es w) {t ty e:CO} {size q k:Nat} {xs ys:A8 D} (hE:Gu P t e size q) (hk:es[k]? =some (.arr e size xs))
 {v x:Aw} (hv:R ok w H (.xU k) v) {u:A8 Aw} (L:XO w x ys.length size u) (I:Fg ok w H (flat ys) u) (hys:∀y∈ys,y.cells.length=size) (hb:(xs.length+ys.length)*q<=140737488355328) (hn:xs.length+ys.length<=maxLen):
 ∃v' w' H',(Builtin.append_ #[t,t] ty #[v,x]).run P w=.ok v' w'/\Ep ok w ok w'/\Names H H'/\Dv C ok H' (es.set k .dead++[.arr e size (xs++ys)]) w'/\R ok w' H' (.aO es.length) v':=by
 obtain⟨h,hh,hok⟩:=H8 hm.ent hm.hlen hk;obtain⟨h1,h2,Dn,j,hrs⟩:=hok
 have key:lG w e size v xs.length Dn/\EF v=EF h.v:=by
  cases hv with
  |xU _ ad n cap s M=>
   rw[hh]at M;obtain rfl:=Dh M;rcases j.2 with⟨O,q2⟩|⟨g,cap',cur,O,q2,q3,q4,q5,q6,q7⟩
   ·simp only[jZ]at O;obtain⟨rfl,rfl,rfl⟩:=O;exact⟨⟨j.1,.inl ⟨rfl,q2⟩⟩,rfl⟩
   simp only[jZ]at O;obtain⟨rfl,rfl,rfl⟩:=O;exact⟨⟨j.1,.inr ⟨g,xs.length,cur,rfl,q2,q3,EX _,FC q4 q5,FC (Jz _ q4) q6,q7⟩⟩,rfl⟩
 obtain⟨z,U⟩:=key;obtain⟨v',w',hr,J,Y,Z⟩:=aJw (P:=P) (ty:=ty) hE z L hb hn
 obtain⟨h3,h4⟩:=hm.turn (h':=⟨v',size⟩) (e:=.arr e size (xs++ys)) hk rfl hh Y.os Y.tape Y.output Y.size (fun c hc hne=>Y.block c hc (by rw[aIY z,U];exact fun e=>hne e.symm)) (fun g hg'=>⟨yA J hg',(Z g hg').imp (fun h=>U▸h) id⟩) (fun hgr=>by
  refine⟨rfl,fun y hy=>?_,Dn++u,TL,?_⟩
  ·rcases Il.1 hy with h|h
   ·exact h2 y h
   exact hys y h
  have a1:=hrs.mono hgr (Ht H [⟨v',size⟩]);have a2:=I.mono hgr (Ht H [⟨v',size⟩]);rw[o8]
  exact a0C a1 a2)
 refine⟨v',w',_,hr,h4,Ht _ _,h3,?_⟩;have M:(H++[(⟨v',size⟩:CP)])[es.length]? =some ⟨v',size⟩:=P7
 rcases J.2 with⟨rfl,_⟩|⟨g',c',_,rfl,_⟩
 ·exact .aO _ _ _ _ size M
 exact .aO _ _ _ _ size M
def aOq {α:Type} {s x:CM} {t e:CO} {size j k:Nat} (enc:α->D) {l m r:A8 α} (h:DL j l m=some r) (hE:Gu P t e size j) (Z:es[k]? =some (.arr e size (l.map enc))) (hc:∀a,(enc a).cells.length=size) (hb:0<j)
 (ho:o.op=.call { callee:=.builtin .append,args:= #[s,x],argTypes:= #[t,t] }):
 CS P o [(s,.xU k),(x,.d (C9 enc m))] es (.aO es.length) (es.set k .dead++[.arr e size (r.map enc)]):=by
 obtain⟨rfl,L⟩:=a0B h;refine .eff fun C ok H a w hm q=>?_;have M:=(FK q).1;have O:=(FK q).2;simp only at M O;have I:EU ok w (.sl (m.map enc)) (a.eval x):=by cases O with |d _ _ h=>exact h
 have u:∀y∈m.map enc,y.cells.length=size:=fun y hy=>aIA
 obtain⟨U,z,J⟩:=dK H I u;obtain⟨v',w',H',hr,r1,r2,Y,r4⟩:=ajt (ty:=o.type) hm hE Z M z J u Y6 (by simpa using aEe hb L);rw[←Kw]at Y;refine⟨v',w',ok,H',.inl ?_,r1,r2,Y,r4⟩;simp[execOp,ho,resolve,invoke,builtin,hr]
def aWO {ok:Nat->Prop} {w:Bc} {H:A8 CP} {t ty e:CO} {size q:Nat} (hE:Gu P t e size q) {xs ys:A8 D} {v x:Aw} (hv:R ok w H (.clip xs) v) (hxs:∀y∈xs,y.cells.length=size) {u:A8 Aw} (I:XO w x ys.length size u) (hpos:0<ys.length)
 (hb:(xs.length+ys.length)*q<=140737488355328) (hn:xs.length+ys.length<=maxLen):
 ∃j v' w',Fg ok w H (flat xs) j/\(Builtin.append_ #[t,t] ty #[v,x]).run P w=.ok v' w'/\w'.ownsRow w.heap.size e size v' (xs.length+ys.length) (j++u)/\w.grownBy w' none:=by
 obtain⟨i,z,hi,hz,hs,L,M⟩:=hE.info;cases hv with
 |clip _ ad hD=>
  obtain⟨j,ho,O⟩:=dK H hD hxs;rcases I.at_ with⟨U,c,rfl,J⟩|⟨c,rfl,h0⟩
  ·rcases ho.at_ with⟨ad2,c2,Y,Z⟩|⟨c2,Y,Z⟩
   ·simp only[jZ]at Y;obtain⟨rfl,_,rfl⟩:=Y;obtain⟨v',w',r1,r2,r3⟩:=run_append_arg_grows (P:=P) w t ty e i z size q hE.und hi hz hs L M hE.pos ad2 xs.length xs.length j ho.len Z U ys.length c u I.len J AB hn hb;exact⟨j,v',w',O,r1,r2,r3⟩
   simp only[jZ]at Y;obtain⟨rfl,_,_⟩:=Y;have hx:j=[]:=Hw (by rw[ho.len,Z];simp);subst hx;rw[Z]at hn hb ⊢;obtain⟨v',w',r1,r2,r3,_⟩:=run_append_own (P:=P) w w.heap.size t ty e i z size q hE.und hi hz hs L M hE.pos _ 0 [] (a1B w w.heap.size e size) U ys.length c u I.len J I.one hn hb (EX _);exact⟨[],v',w',O,r1,r2,r3⟩
  omega
def aRG {ok:Nat->Prop} {w':Bc} {H:A8 CP} {base e size:Nat} {v':Aw} {xs ys:A8 D} {j q:A8 Aw} (h:w'.ownsRow base e size v' (xs.length+ys.length) (j++q)) (I:Fg ok w' H (flat xs) j) (J:Fg ok w' H (flat ys) q) (u:∀y∈xs,y.cells.length=size) (z:∀y∈ys,y.cells.length=size):
 FZ ok w' H ⟨v',size⟩ (.arr e size (xs++ys)):=by
 refine⟨rfl,fun y L=>?_,j++q,?_,?_⟩
 ·rcases Il.1 L with h|h
  ·exact u y h
  exact z y h
 ·have :=lG.of h;simpa using this
 rw[o8];exact a0C I J
def aPK {w':Bc} {base e size n:Nat} {v':Aw} {Dn:A8 Aw} (h:w'.ownsRow base e size v' n Dn):∀g,EF v'=some g->base<=g/\g<w'.heap.size:=by
 intro g j;rcases h.2 with⟨rfl,_⟩|⟨z,_,_,rfl,q,u,_⟩
 ·simp[EF]at j
 simp[EF]at j;subst j;exact⟨q,(Gl.1 u).1⟩
def aQ2 {α:Type} {s x:CM} {t e:CO} {size j:Nat} (enc:α->D) {l m r:A8 α} (h:DL j l m=some r) (hE:Gu P t e size j) (hc:∀a,(enc a).cells.length=size) (J:0<j)
 (L:o.op=.call { callee:=.builtin .append,args:= #[s,x],argTypes:= #[t,t] }):
 CS P o [(s,.clip (l.map enc)),(x,.d (C9 enc m))] es (.d (C9 enc r)) es:=by
 obtain⟨rfl,h2⟩:=a0B h;refine .eff fun C ok H a w hm M=>?_;have h1:=(FK M).1;have h3:=(FK M).2;simp only at h1 h3;have h3':EU ok w (.sl (m.map enc)) (a.eval x):=by cases h3 with |d _ _ h=>exact h
 have O:∀y∈l.map enc,y.cells.length=size:=fun y hy=>aIA
 have U:∀y∈m.map enc,y.cells.length=size:=fun y hy=>aIA
 obtain⟨Y,q,hrs⟩:=dK H h3' U;by_cases Z:m=[]
 ·subst Z;obtain⟨i,z,hi,hz,hs,hby,hzs⟩:=hE.info;have I:Y=[]:=Hw (by rw[q.len];simp);subst I;generalize hv:a.eval s=v at h1;generalize hu:a.eval x=u at q;cases h1 with
  |clip _ ad hD=>
   refine⟨_,w,ok,H,.inl ?_,.refl _ _,.refl _,hm,.d _ _ (by rw[P8];exact hD)⟩;have hL:∀w:Bc,((underlying t).run P w=.ok (.slice e) w):=fun w=>aJN
   rcases q.at_ with⟨ad',c,rfl,_⟩|⟨c,rfl,_⟩
   ·cases ad with
    |none=>simp[execOp,L,resolve,invoke,builtin,hv,hu,Builtin.append_,hL,sizeOf,typeInfo,hi,Builtin.lenOf,Builtin.firstCells,loadCells,loadCellsFrom]
    |some ad=>simp[execOp,L,resolve,invoke,builtin,hv,hu,Builtin.append_,hL,sizeOf,typeInfo,hi,Builtin.lenOf,Builtin.firstCells,loadCells,loadCellsFrom,storeCells]
   cases ad with
   |none=>simp[execOp,L,resolve,invoke,builtin,hv,hu,Builtin.append_,hL,sizeOf,typeInfo,hi,Builtin.lenOf,Builtin.firstCells]
   |some ad=>simp[execOp,L,resolve,invoke,builtin,hv,hu,Builtin.append_,hL,sizeOf,typeInfo,hi,Builtin.lenOf,Builtin.firstCells,storeCells]
 obtain⟨olds,v',w',r0,r1,r2,r3⟩:=aWO (P:=P) (ty:=o.type) hE h1 O q (by simpa using Ze.2 Z) pF (by simpa using aEe J h2);have hblk:=aPK r2;obtain⟨m1,g1⟩:=hm.change (ok':=fun b=>ok b\/EF v'=some b) (H':=H) (es':=es) (w':=w') (fun _=>False) r3.os r3.tape r3.output r3.size (fun b J _=>r3.block b J Bj) (fun _ h=>h.elim) (fun _ h=>.inl h) (fun b h=>h.imp id fun h=>hblk b h) (.refl _) hm.hlen (fun k e h he hh=>.inl ⟨he,hh,fun _ _ _ h=>h⟩);have g0:Ep ok w ok w':=fun b J=>⟨J,(g1 b J).2⟩
 have hE':=aRG r2 (r0.mono g0 (.refl _)) (hrs.mono g0 (.refl _)) O U;refine⟨v',w',_,H,.inl (by simp[execOp,L,resolve,invoke,builtin,r1]),g1,.refl _,m1,.d _ _ ?_⟩;have :=dY hE' (ok':=fun b=>ok b\/EF v'=some b) (fun _ h=>.inl h) (fun _ h=>.inr h)
 rwa [←Kw]at this
def amG {α:Type} {s x:CM} {t e:CO} {size j:Nat} (enc:α->D) {l m r:A8 α} (h:DL j l m=some r) (J:m≠[]) (hE:Gu P t e size j) (Y:∀a,(enc a).cells.length=size) (hb:0<j)
 (ho:o.op=.call { callee:=.builtin .append,args:= #[s,x],argTypes:= #[t,t] }):
 CS P o [(s,.clip (l.map enc)),(x,.d (C9 enc m))] es (.aO es.length) (es++[.arr e size (r.map enc)]):=by
 obtain⟨rfl,Z⟩:=a0B h;refine .eff fun C ok H a w hm q=>?_;have h1:=(FK q).1;have h3:=(FK q).2;simp only at h1 h3;have L:EU ok w (.sl (m.map enc)) (a.eval x):=by cases h3 with |d _ _ h=>exact h
 have u:∀y∈l.map enc,y.cells.length=size:=fun y M=>by obtain⟨a,_,rfl⟩:=FY.1 M;exact Y a
 have z:∀y∈m.map enc,y.cells.length=size:=fun y M=>by obtain⟨a,_,rfl⟩:=FY.1 M;exact Y a
 obtain⟨news,I,O⟩:=dK H L z;obtain⟨olds,v',w',r0,r1,U,r3⟩:=aWO (P:=P) (ty:=o.type) hE h1 u I (by simpa using Ze.2 J) (by simpa using Z) (by simpa using aEe hb Z)
 obtain⟨m1,g1⟩:=hm.aDG (v':=v') (size:=size) (e:=.arr e size ((l++m).map enc)) r3 (aPK U) (fun g0=>by
  have :=aRG U (r0.mono g0 (Ht H [⟨v',size⟩])) (O.mono g0 (Ht H [⟨v',size⟩])) u z
  rwa [←Kw]at this)
 refine⟨v',w',ok,_,.inl (by simp[execOp,ho,resolve,invoke,builtin,r1]),g1,Ht _ _,m1,?_⟩;have hH:(H++[(⟨v',size⟩:CP)])[es.length]? =some ⟨v',size⟩:=P7
 rcases U.2 with⟨rfl,_⟩|⟨g',c',_,rfl,_⟩
 ·exact .aO _ _ _ _ size hH
 exact .aO _ _ _ _ size hH
end
def D.plain:D->Ad
 | .lit _=>true
 | .agg cs=>cs.all fun c=>match c with | .lit _=>true|_=>false
 |_=>false
def adD {ok ok':Nat->Prop} {w w':Bc} {H H':A8 CP} {xs:A8 D} {vs:A8 Aw} (hp:∀x∈xs,x.plain=true) (h:Fg ok w H (flat xs) vs):Fg ok' w' H' (flat xs) vs:=by
 refine⟨h.1,fun i hi=>⟨(h.2 i hi).1,?_⟩⟩;have I:=(h.2 i hi).2;have hm:(flat xs).getD i .junk∈flat xs:=OC
 generalize(flat xs).getD i .junk=y at I hm;unfold flat at hm;simp only[XA,FY]at hm;obtain⟨x,J,c,z,rfl⟩:=hm;have j:=hp x J
 have q:∃u,c=.lit u:=by
  cases x with
  |lit u=>simp[D.cells]at z;exact⟨u,z⟩
  |agg cs=>
   simp only[D.cells]at z;simp only[D.plain,EY]at j;have :=j c z;cases c with
   |lit u=>exact⟨u,rfl⟩
   |_=>simp at this
  |_=>cases j
 obtain⟨u,rfl⟩:=q;rw[I.lit];exact .d _ _ (.lit u)
def aUA {P:Cm} {o:Oper} {es:A8 Bf} {f:FuncId} {ops:Bh CM} {eG fH:A8 Ai} {e s:Nat} {xs:A8 D} (hr:El P f fH [] (.aO 0) [.arr e s xs]) (hp:∀x∈xs,x.plain=true) (ha:gQ es eG fH) (hl:ops.toList.length=eG.length)
 {C:En} {ok:Nat->Prop} {H:A8 CP} {a:Act} {w:Bc} (hm:Dv C ok H es w) (hn:∀n∈Fq ops.toList eG,R ok w H n.2 (a.eval n.1)):
 Calls P f (ops.toList.map a.eval).toArray w fun e' w'=>∃v,e'=.returned v/\w.grownBy w' none/\(∀g,EF v=some g->w.heap.size<=g/\g<w'.heap.size)/\Value.isSlice v=true/\∀M H2,FZ M w' H2 ⟨v,s⟩ (.arr e s xs):=by
 let I:Nat->Prop:=fun b=>b<w.heap.size
 have Z:Dv ⟨w,I,[],[]⟩ I [] [] w:=
  ⟨.refl _ _,fun _ h=>h,fun _ h=>.inl h,fun _ h=>h,.refl _,rfl,fun k e h O _=>by simp at O,fun k e h b O=>by simp at O,fun k k' e e' h h' b O=>by simp at O⟩
 refine(hr I [] [] w _ Z (by simp[hl,aME ha]) (fun i hi=>?_)).mono ?_
 ·obtain⟨op,x,ho',U,q⟩:=aYP hl ha i hi;have L:=hn _ U
  have e1:(ops.toList.map a.eval).toArray.getD i undef=a.eval op:=by
   obtain⟨h1,h2⟩:=Fv.1 ho';have h3:i<ops.size:=by simpa using h1
   have h4:ops[i]=op:=pF
   simp[Array.getD,h3,h4]
  rw[e1];simp only at L;generalize fH.getD i .junk=y at q;generalize a.eval op=u at L;cases x with
  |d x=>
   obtain rfl:=q;cases L with |d _ _ h=>exact .d _ _ (h.mono (fun b z=>⟨hm.kM b z,rfl⟩))
  |aO k=>
   obtain⟨e',s,xs,hk,rfl⟩:=q;obtain⟨h,hh,J⟩:=H8 hm.ent hm.hlen hk;obtain rfl:=Oe L hh;exact .d _ _ (dY J (fun b z=>hm.kM b z) (fun b z=>(hm.blk k _ h b hk rfl hh z).2.1))
  |_=>exact q.elim
 rintro e' w' ⟨v,ok',H',rfl,j,L⟩;have hg:w.grownBy w' none:=⟨j.fr.os,j.fr.tape,j.fr.output,j.fr.size,fun b z _=>j.fr.block b z Bj⟩
 have hl':H'.length=1:=j.hlen
 match H',hl' with
 | [hd],_=>
   obtain rfl:=Oe L (h:=hd) rfl;have J:=j.ent 0 _ hd rfl rfl;have z:=fun b z=>j.blk 0 _ hd b rfl rfl rfl z;obtain⟨q1,q2,Dn,q3,q4⟩:=J;obtain⟨v,CU⟩:=hd;simp only at q1 z q3;subst q1;refine⟨v,rfl,hg,fun g hg'=>?_,?_,fun M H2=>⟨rfl,q2,Dn,q3,adD hp q4⟩⟩
   ·obtain⟨_,r2,Y⟩:=z g hg';rcases Y with Y|Y
    ·exact⟨Y,r2⟩
    simp at Y
   rcases q3.2 with⟨rfl,_⟩|⟨g',c',_,rfl,_⟩<;>rfl
def J9 {P:Cm} {o:Oper} {es:A8 Bf} {f:FuncId} {ops:Bh CM} {ats:Bh CO} {eG fH:A8 Ai} {e s:Nat} {xs:A8 D} (q:El P f fH [] (.aO 0) [.arr e s xs]) (hp:∀x∈xs,x.plain=true) (u:Hg P f=true) (ha:gQ es eG fH) (hl:ops.toList.length=eG.length)
 (z:o.op=.call { callee:=.value (.func f),args:=ops,argTypes:=ats }):CS P o (Fq ops.toList eG) es (.aO es.length) (es++[.arr e s xs]):=by
 intro C ok H a w Q hm I;unfold Oper.wp;rw[zA z,U2 u,Zt];have J:ops.map a.eval=(ops.toList.map a.eval).toArray:=aCa
 rw[J];refine(aUA (o:=o) q hp ha hl hm I).mono ?_;rintro e' w' ⟨v,rfl,L,M,j,hE⟩;obtain⟨O,U⟩:=hm.aDG (v':=v) (size:=s) (e:=.arr e s xs) L M (fun _=>hE _ _);refine⟨v,ok,_,rfl,U,Ht _ _,O,?_⟩;have Y:(H++[(⟨v,s⟩:CP)])[es.length]? =some ⟨v,s⟩:=P7
 cases v with
 |slice ad n c=>exact .aO _ _ _ _ s Y
 |_=>cases j
def aBh {P:Cm} {o:Oper} {es:A8 Bf} {f:FuncId} {ops:Bh CM} {ats:Bh CO} {eG fH:A8 Ai} {e s:Nat} {xs:A8 D} (u:El P f fH [] (.aO 0) [.arr e s xs]) (hp:∀x∈xs,x.plain=true) (z:Hg P f=true) (ha:gQ es eG fH) (hl:ops.toList.length=eG.length)
 (I:o.op=.call { callee:=.value (.func f),args:=ops,argTypes:=ats }):CS P o (Fq ops.toList eG) es (.d (.sl xs)) es:=by
 intro C ok H a w Q hm J;unfold Oper.wp;rw[zA I,U2 z,Zt];have L:ops.map a.eval=(ops.toList.map a.eval).toArray:=aCa
 rw[L];refine(aUA (o:=o) u hp ha hl hm J).mono ?_;rintro e' w' ⟨v,rfl,j,M,O,hE⟩;obtain⟨U,Y⟩:=hm.change (ok':=fun b=>ok b\/EF v=some b) (H':=H) (es':=es) (w':=w') (fun _=>False) j.os j.tape j.output j.size (fun b q _=>j.block b q Bj) (fun _ h=>h.elim) (fun _ h=>.inl h) (fun b h=>h.imp id fun h=>M b h) (.refl _) hm.hlen (fun k e h Z hh=>.inl ⟨Z,hh,fun _ _ _ h=>h⟩);exact⟨v,_,H,rfl,Y,.refl _,U,.d _ _ (dY (hE ok H) (fun _ h=>.inl h) (fun _ h=>.inr h))⟩
def ayz {F:Fence} {n:Nat} {P:Cm} {Q:Exit->Act->Bc->Prop} {a:Act} {w:Bc} {c:Code} (h:c.wpIn F n P (Exit.noGoto Q) a w):(Code.scope c).wpIn F n P Q a w:=by
 intro b k cs J L M;have j:(lone (b.atR a (.code (.scope c)::k)) cs w).fenced P F:=fenced_calm L M rfl;have q:step P (lone (b.atR a (.code (.scope c)::k)) cs w)=.next (lone (b.atR a (.code c::.inScope c::k)) cs w):=step_lone_go aTk;obtain⟨e,z,I,u,harr⟩:=h b (.inScope c::k) cs J L M;cases e with
 |normal=>exact⟨.normal,z,I,u,.head j q (StepsIn.trans harr (.one (fenced_calm L M rfl) (step_lone_go aTk)))⟩
 |exit id=>
  have Y:exitTo id (.inScope c::k)=exitTo id k:=by simp[exitTo]
  exact⟨.exit id,z,I,u,fun k' O=>.head j q (harr.1 k' (by rw[Y];exact O)),fun U O=>let⟨Z,h1,h2⟩:=harr.2 U (by rw[Y];exact O);⟨Z,h1,.head j q h2⟩⟩
 |goto l=>exact u.elim
 |ret=>exact⟨_,z,I,u,.of_steps (.one j q) harr⟩
 |panic ch=>exact⟨_,z,I,u,.of_steps (.one j q) harr⟩
 |outgrown=>exact⟨_,z,I,u,.of_steps (.one j q) harr⟩
def ag1 (Q:Exit->BR->Prop):Exit->BR->Prop
 | .goto _,_=>False
 |e,σ=>Q e σ
def Bz.scope {P:Cm} {σ:BR} {Q:Exit->BR->Prop} {c:Code} (h:Bz P c σ (ag1 Q)):Bz P (.scope c) σ Q:=⟨fun ro q C ok H a w u=>
 ayz (VX (h.run ro (q.imp id fun h=>h) C ok H a w u) (by
  rintro e a' w' ⟨ok',H',σ',z,j⟩;cases e with
  |goto l=>exact j.elim
  |_=>exact⟨ok',H',σ',z,j⟩))⟩
def aQ5 (P:Cm) (f:FuncId) (args:A8 Ai) (u:Aw):Prop:=
 ∀(ok:Nat->Prop) (X:A8 Nat) (H:A8 CP) (w:Bc) (j:Bh Aw),Dv ⟨w,ok,X,H⟩ ok H [] w->j.size=args.length->(∀i,i<args.length->R ok w H (args.getD i .junk) (j.getD i undef))->
  Calls P f j w fun e w'=>∃ok' H',e=.panicked [{ v:=u,recovered:=false }]/\Dv ⟨w,ok,X,H⟩ ok' H' [] w'
def QT {Rr:Type} (P:Cm) (f:FuncId) (args:A8 Ai) (r:Except Aw Rr) (j:Rr->Ai):Prop:=(∀x,r=.ok x->El P f args [] (j x) [])/\∀u,r=.error u->aQ5 P f args u
def anj {Rr:Type} (P:Cm) (fn:Func) (r:Except Aw Rr) (j:Rr->Ai) (e:Exit) (σ:BR):Prop:=
 (∃x,r=.ok x/\aTr P fn (j x) [] e σ)\/∃u,r=.error u/\e=zx u/\σ.base=0
def aUc {P:Cm} {fn:Func} {Rr:Ending->Bc->Prop} {C:En} {ch:A8 PanicEntry} (u:∀b,C.ok0 b->b<C.w0.heap.size) {H:A8 CP} {σ:BR}
 (z:∀ok a w,Holds C ok H σ a w->Rr (.panicked ch) w) {tmps:Bh Aw}:∀(Ds:A8 Nat) {ok:Nat->Prop} {a:Act} {w:Bc},Holds C ok H σ a w->(∀d∈Ds,ok d/\C.w0.heap.size<=d/\w.heap[d]? =some (.deferred (some [])))->Ds.Nodup->
  LeavesInM (JF none) 0 P fn tmps Rr (Ds.map fun D=>{ target:=.collected D,args:= #[] }) (.panicking ch) w
 | [],ok,a,w,h,_,_=>z ok a w h
 |D::Ds,ok,a,w,h,hd,I=>by
  obtain⟨ok',h',j⟩:=h.take u (fun d q=>hd d (Gv _ q)) (hd D (GU ..)) I;have J:=aUc (P:=P) (fn:=fn) (tmps:=tmps) u z Ds h' j (Nh.1 I).2;exact⟨Bj,.inl ⟨D,_,rfl,run_takeDeferred (hd D (GU ..)).2.2,J⟩⟩
def Dv.none {C:En} {ok:Nat->Prop} {H:A8 CP} {es:A8 Bf} {w:Bc} (hm:Dv C ok H es w) (q:C.H0=[]):Dv C ok [] [] w:=
 ⟨hm.fr,hm.yF,hm.yG,hm.kM,by rw[q];exact .refl _,rfl,fun k e h j=>xM,fun k e h b j=>xM,fun k k' e e' h h' b j=>xM⟩
def QT.aJ {Rr:Type} {P:Cm} {f:FuncId} {fn:Func} {c:Code} {args:A8 Ai} {r:Except Aw Rr} {z:Rr->Ai} (Z:P.funcs[f]? =some fn) (hb:fn.body=some c)
 (h:Bz P c (.enter args fn.ntmps []) (anj P fn r z)):QT P f args r z:=by
 refine⟨fun x hx=>BK Z hb (h.mono fun e σ hq=>?_),fun u hu=>?_⟩
 ·rcases hq with⟨x',q,J⟩|⟨u,q,_⟩
  ·rw[hx]at q;cases q;exact J
  rw[hx]at q;cases q
 intro ok X H w j hm hs ha;have hH:H=[]:=Hw hm.hlen;refine(aCG (ro:=none) (n:=0)).1 (aKe Z hb trivial (VX (h.run none (.inl rfl) ⟨w,ok,X,H⟩ ok H _ w ?_) ?_) rfl)
 ·refine⟨hm,by simp[BR.enter,hs],.nil _ _ _,hm.hlen,fun t ht=>?_⟩;simp only[BR.enter];by_cases e:t<args.length
  ·have L:(args++List.replicate (fn.ntmps-args.length) Ai.junk).getD t .junk=args.getD t .junk:=aH9
   have e2:(j++Array.replicate (fn.ntmps-j.size) undef).getD t undef=j.getD t undef:=by
    simp[Io,Yu (show t<j.size by omega)]
   rw[L,e2];exact ha t e
  have L:(args++List.replicate (fn.ntmps-args.length) Ai.junk).getD t .junk=.junk:=by
   simp only[List.getD,KX (X7 e),aGV];split<;>rfl
  rw[L];exact .junk _
 rintro e a' w' ⟨ok',H',σ',q,J⟩;rcases J with⟨x,I,_⟩|⟨u',I,rfl,_⟩
 ·rw[hu]at I;cases I
 rw[hu]at I;cases I;obtain⟨Ds,M,O,U⟩:=q.defers;show LeavesInM (JF none) 0 P fn a'.tmps _ a'.defers (.panicking _) w';rw[M];exact aUc (P:=P) (C:=⟨w,ok,X,H⟩) hm.kM (fun Y a2 w2 h4=>⟨Y,[],rfl,h4.mem.none hH⟩) Ds q U O
section
variable {P:Cm} {ops:Bh Oper} {o:Oper} {rest l:A8 Oper} {σ:BR} {K:Exit->BR->Prop}
def Dw.panic {x:CM} {t:CO} {u:Aw} (q:o.op=.panic x) (z:σ.get x=.d (.lit (.iface t u))) (I:JC ops σ o.guard=some true) (h:K (zx (.iface t u)) σ):Dw P ops (o::rest) σ K:=by
 refine⟨fun ro J Q C ok H a w j L=>?_⟩;show wpListIn (JF ro) 0 P ops Q (o::(rest++J)) a w;unfold wpListIn;rw[DX (Q7 j (Na I))];have M:=(z▸j.get x).lit;unfold Oper.wpIn;rw[iT _ _ _ (by rw[q];intro c h;cases h)];have O:(execOp a.eval o).run P w=.halt (.panic (.iface t u)) w:=by simp[execOp,q,M,Instr.panic,goPanic]
 rw[O];exact⟨fun _ _=>trivial,L.2 _ _ _ _ _ _ h j⟩
end
section
variable {P:Cm} {ops:Bh Oper}
def Bz.aGR {id:Nat} {σ σ':BR} {Q:Exit->BR->Prop} {rs:A8 Ai} {ess:A8 (A8 Bf)} {bs:A8 Ad} (N:Nat) (hNs:N+1=ops.size) (hm:P.follows .mixedOrders=true) (hcalm:(U4 ops&&Xj ops&&Wn ops σ.slots.length&&Wj ops)=true) (hbl:bs.length=N) (L:VY ops (bs++[true])=true)
 (h:Fe P ops (ops.toList.take N) σ rs ess bs σ') (hL:∀(ro:AO Nat) (C:En) (ok:Nat->Prop) (H:A8 CP) (a:Act) (w:Bc),Holds C ok H σ' a w->wpOpIn (JF ro) 0 P ops (fun e a' w'=>∃ok' H' σ',Holds C ok' H' σ' a' w'/\Q e σ') N (fun a' w'=>∃ok' H' σ',Holds C ok' H' σ' a' w'/\Q .normal σ') a w):Bz P (.region id ops true) σ Q:=by
 refine⟨fun ro _ C ok H a w hh=>?_⟩;simp only[Df]at hcalm;obtain⟨⟨⟨he,hd⟩,hs⟩,hc⟩:=hcalm;have abK:=aMi he;have hinj:=aTD hd;have hcalm:=aWp hc
 have Yr:∀(i:Nat) (o:Oper) (d:Tmp),ops[i]? =some o->o.dst=some d->d<σ.slots.length:=by
  intro i o d h1 h2;unfold Wn at hs;rw[EY]at hs;simpa using hs d (aQD h1 h2)
 let r:Nat->Ai:=fun i=>rs.getD i .junk
 let ev:Nat->A8 Bf:=fun i=>ess.getD i []
 let bar:Nat->Ad:=fun i=>(bs++[true]).getD i false
 have hbN:bar N=true:=by simp[bar,List.getD,←hbl]
 obtain⟨Zn,hend⟩:=h.azQ N σ r ev bar 0 (fun k hk=>by
  simp only[G6]at hk
  rw[MX AB];simp) EN rfl (fun k y hy=>by simp[r,List.getD,hy]) (fun k y hy=>by simp[ev,List.getD,hy]) (fun k y hy=>by have :=(Fv.1 hy).1;simp only[bar,List.getD,J3,Hf this,hy];rfl)
 let U:Nat->BR:=GK ops σ r ev
 have hU:∀i,i<ops.size->(U (i+1)).ents=ev i:=by
  intro i hi;have M:ops[i]? =some ops[i]:=SC
  show(GK ops σ r ev (i+1)).ents=_;simp only[GK,M];rfl
 have hconst:∀n lo,(∀b,lo<=b->b<lo+n->bar b=false)->lo+n<=N->(U (lo+n)).ents=(U lo).ents:=by
  intro n
  induction n with
  |zero=>intro lo _ _;rfl
  |succ n ih=>
   intro lo z hle;have h1:=ih lo (fun b h1 h2=>z b h1 AB) AB;have hi:lo+n<ops.size:=AB
   have M:ops[lo+n]? =some ops[lo+n]:=SC
   have h2:=(Zn (lo+n) _ AB AB M).2 (z (lo+n) AB AB);rw[←Sl,hU _ hi,h2];exact h1
 have Z:∀lo hi,lo<=hi->hi<=N->(∀b,lo<=b->b<hi->bar b=false)->(U hi).ents=(U lo).ents:=by
  intro lo hi h1 h2 h3;obtain⟨n,rfl⟩:=Nat.exists_eq_add_of_le h1;exact hconst n lo h3 h2
 refine aAL hm ?_
 let I:Bh Ad->Act->Bc->Prop:=fun l a w=>l.size=ops.size/\l.getD N false=false/\∃ok H m,m<=N/\(∀b,bar b=true->b<ops.size->(l.getD b false=true↔b<m))/\Dv C ok H (U m).ents w/\a.tmps.size=σ.slots.length/\Marks C ok w a.defers/\
  (∀t,t<σ.slots.length->(∀(j:Nat) (o:Oper),ops[j]? =some o->o.dst=some t->l.getD j false=false)->R ok w H (σ.slots.getD t .junk) (a.tmps.getD t undef))/\
  (∀(i:Nat) (o:Oper) (d:Tmp),ops[i]? =some o->o.dst=some d->l.getD i false=true->R ok w H (r i) (a.tmps.getD d undef))/\
  (∀(j:Nat) (o:Oper),ops[j]? =some o->l.getD j false=true->∀i,I9 o i=true->l.getD i false=true)
 let I2:Bh Ad->Act->Bc->Prop:=fun l a w=>I l a w\/(l.size=ops.size/\(Region.ready .any ops l=[]/\∃ok' H' σ',Holds C ok' H' σ' a w/\Q .normal σ'))
 refine aAE I2 (fun l a w h=>h.elim (fun h=>h.1) (fun h=>h.1)) ?_ ?_ ops.size _ _ _ ?_ ?_
 ·rintro l a w (⟨h1,hlN,ok,H,m,adn,aew,hmem0,hsz,hdf,h5,h6,h7⟩|⟨h1,h2,_⟩) i hi
  rotate_left
  ·rw[h2]at hi;simp at hi
  unfold Region.ready at hi;rw[HY]at hi;obtain⟨hi1,hi2⟩:=hi;have hi':i<ops.size:=a0v
  have M:ops[i]? =some ops[i]:=by simp[hi']
  simp only[Df]at hi2;have Qn:=hi2.2;rw[M]at Qn;simp only[Ij,ML]at Qn;have aem:=fun e he=>(QJ.1 Qn) e he
  have O:∀j,I9 ops[i] j=true->l.getD j false=true/\j<i:=by
   intro j u;unfold I9 at u;rw[I8]at u;obtain⟨e,hee,u⟩:=u;simp only[Df,Hd]at u;have :=aem e aNJ;simp only[u.2,Eo,Lj]at this;rw[u.1]at this;exact⟨this,u.1▸abK i _ M e hee u.2⟩
  have Y:l.getD i false=false:=by
   have h8:=hi2.1;have hil:i<l.size:=AB
   simp[Array.getD,hil]at h8 ⊢;exact h8
  have J:∀(j:Nat) (o:Oper),ops[j]? =some o->l.getD j false=true->∀m,I9 o m=true->l.getD m false=true:=fun j o u hl m hm=>h7 j o u hl m hm
  have hmem:Dv C ok H (U i).ents w:=by
   have hE:(U i).ents=(U m).ents:=by
    by_cases him:i<=m
    ·refine(Z i m him adn (fun b h2 h3=>?_)).symm;rw[←PO];intro z;have hbl:=(aew b z AB).2 h3;by_cases e:b=i
     ·subst e;rw[Y]at hbl;cases hbl
     have hob:ops[b]? =some (ops[b]' AB):=by simp[show b<ops.size by omega]
     have :=tX L (show b<ops.size by omega) z (D:=fun j=>l.getD j false=true) J (fun o M m hm=>J b o M hbl m hm) i AB;rw[Y]at this;cases this
    refine Z m i AB AB (fun b h2 h3=>?_);rw[←PO];intro z;have :=aTt L (show b<ops.size by omega) z (D:=fun j=>l.getD j false=true) J i h3 _ M (fun m hm=>(O m hm).1);exact absurd ((aew b z AB).1 this) AB
   rw[hE];exact hmem0
  by_cases hiN:i=N
  ·subst hiN;have aDI:∀j,j<i->l.getD j false=true:=fun j u=>tX L hi' hbN (D:=fun j=>l.getD j false=true) J (fun o ho' m hm=>aQA) j u
   have hH:Holds C ok H σ' a w:=by
    subst hend;refine⟨hmem,by rw[Xq];exact hsz,hdf,by rw[wJ];exact hh.base,fun t ht=>?_⟩;rw[Xq]at ht;by_cases hw:∃(j:Nat) (o:Oper),ops[j]? =some o/\o.dst=some t
    ·obtain⟨j,o,u,q⟩:=hw;have hjn:j<ops.size:=(Gl.1 u).1;by_cases hji:j<i
     ·rw[dA hinj u q ht i hji];exact h6 j o t u q (aDI j hji)
     have hje:j=i:=AB
     subst hje;rw[Y4 j (fun j' o' hj' ho' hd'=>aKE)];exact h5 t ht (fun j' o' ho' hd'=>by have :=hinj j j' o o' t u ho' q hd';subst this;exact hlN)
    have hw':∀(j:Nat) (o:Oper),ops[j]? =some o->o.dst≠some t:=fun j o h1 h2=>hw ⟨j,o,h1,h2⟩;rw[Y4 i (fun j o _ u=>hw' j o u)];exact h5 t ht (fun j o u q=>absurd q (hw' j o u))
   refine wpOpIn_mono (fun a' w' hx=>.inr ⟨by simp[h1],?_,hx⟩) (hL ro C ok H a w hH);unfold Region.ready;rw[zI];intro j u;have hjn:j<ops.size:=Vh
   have hdn:(l.setIfInBounds i true).getD j true=true:=by
    by_cases hji:j=i
    ·subst hji;simp[Array.getD,h1,hi']
    have :=aDI j AB;simp only[Io,Nb (Zk hji)];have hjl:j<l.size:=AB
    simp[Array.getD,hjl]at this;simp[hjl,this]
   rw[hdn];simp
  have hiN:i<N:=AB
  have hread:∀t,t∈tmpsOf ops[i]->R ok w H ((GK ops σ r ev i).slots.getD t .junk) (a.tmps.getD t undef):=by
   intro t ht;by_cases hw:∃(j:Nat) (o:Oper),ops[j]? =some o/\o.dst=some t
   ·obtain⟨j,o,u,q⟩:=hw;rcases(hcalm i _ M).1 j o t u q ht with hce|hce
    ·obtain⟨hdj,hji⟩:=O j hce;rw[dA hinj u q (Yr j o t u q) i hji];exact h6 j o t u q hdj
    have hij:i<j:=by
     unfold I9 at hce;rw[I8]at hce;obtain⟨e,hee,hce⟩:=hce;simp only[Df,Hd]at hce;exact hce.1▸abK j _ u e hee hce.2
    rw[Y4 i (fun j' o' hj' ho' hd'=>aKE)];refine h5 t (Yr j o t u q) (fun j' o' ho' hd'=>?_);have hjj:=hinj j j' o o' t u ho' q hd';subst hjj;rw[←PO];intro hd;rw[h7 j o u hd i hce]at Y;cases Y
   have hw':∀(j:Nat) (o:Oper),ops[j]? =some o->o.dst≠some t:=fun j o h1 h2=>hw ⟨j,o,h1,h2⟩;rw[Y4 i (fun j o _ u=>hw' j o u)];by_cases htn:t<σ.slots.length
   ·exact h5 t htn (fun j o u q=>absurd q (hw' j o u))
   rw[uz htn];exact .junk _
  have ah5:∀j d v,I9 ops[i] j=true->(ops[j]?).bind (·.dst)=some d->(GK ops σ r ev i).slots.getD d .junk=.d (.lit v)->yielded ops a.tmps j=(match v with | .bool b=>some b|_=>none):=by
   intro j d v u q z;cases hoj:ops[j]? with
   |none=>rw[hoj]at q;simp at q
   |some oj=>
    rw[hoj]at q;simp only[Af]at q;obtain⟨hdj,hji⟩:=O j u;have hdn:=Yr j oj d hoj q;rw[dA hinj hoj q hdn i hji]at z;have hv:=(z▸h6 j oj d hoj q hdj).bool
    have hs:a.tmps[d]? =some v:=by
     have :d<a.tmps.size:=by rw[hsz];exact hdn
     simp[Array.getD,this]at hv;simp[this,hv]
    unfold yielded;rw[hoj];simp only[Af,q,hs];cases v<;>rfl
  have hput:∀(x:Ai) (v:Aw) (ok':Nat->Prop) (H':A8 CP) (w':Bc),x=r i->Ep ok w ok' w'->Names H H'->Dv C ok' H' (ev i) w'->R ok' w' H' x v->I2 (l.setIfInBounds i true) (a.put ops[i].dst v) w':=by
   intro x v ok' H' w' hx hgr hnm hmem' hR;subst hx
   have hother:∀(d t:Nat),ops[i].dst=some d->d≠t->(a.put ops[i].dst v).tmps.getD t undef=a.tmps.getD t undef:=by
    intro d t hd hne;rw[hd];exact a1K hne
   obtain⟨m',ayf,apg,ayg⟩:∃m',m'<=N/\(∀b,bar b=true->b<ops.size->((l.setIfInBounds i true).getD b false=true↔b<m'))/\Dv C ok' H' (U m').ents w':=by
    have hget:∀b,b≠i->(l.setIfInBounds i true).getD b false=l.getD b false:=fun b z=>by
     simp only[Io,Nb (Zk z)]
    have ayh:(l.setIfInBounds i true).getD i false=true:=by simp[Array.getD,h1,hi']
    cases hbi:bar i with
    |false=>
     refine⟨m,adn,fun b z hbs=>?_,?_⟩
     ·have hne:b≠i:=fun e=>by subst e;rw[hbi]at z;cases z
      rw[hget b hne];exact aew b z hbs
     have h2:=(Zn i _ AB hiN M).2 hbi;rw[h2]at hmem'
     have hE:(U i).ents=(U m).ents:=by
      by_cases him:i<=m
      ·refine(Z i m him adn (fun b h2 h3=>?_)).symm;rw[←PO];intro z;have hbl:=(aew b z AB).2 h3;by_cases e:b=i
       ·subst e;rw[Y]at hbl;cases hbl
       have :=tX L (show b<ops.size by omega) z (D:=fun j=>l.getD j false=true) J (fun o M m hm=>J b o M hbl m hm) i AB;rw[Y]at this;cases this
      refine Z m i AB AB (fun b h2 h3=>?_);rw[←PO];intro z;have :=aTt L (show b<ops.size by omega) z (D:=fun j=>l.getD j false=true) J i h3 _ M (fun m hm=>(O m hm).1);exact absurd ((aew b z AB).1 this) AB
     rw[←hE];exact hmem'
    |true=>
     refine⟨i+1,AB,fun b z hbs=>?_,by rw[hU i hi'];exact hmem'⟩;by_cases e:b=i
     ·subst e;rw[ayh];simp
     rw[hget b e];constructor
     ·intro hbl;apply ig;intro hn;have :=tX L hbs z (D:=fun j=>l.getD j false=true) J (fun o M m hm=>J b o M hbl m hm) i AB;rw[Y]at this;cases this
     intro hlt;exact tX L hi' hbi (D:=fun j=>l.getD j false=true) J (fun o ho' m hm=>aQA) b AB
   refine .inl ⟨by simp[h1],by simpa only[Io,Nb (show i≠N by omega)]using hlN,ok',H',m',ayf,apg,ayg,by rw[size_put];exact hsz,by rw[yU];exact hdf.mono hgr,?_,?_,?_⟩
   ·intro t ht hno
    have hne:ops[i].dst≠some t:=by
     intro e;have :=hno i _ M e;simp[Array.getD,h1,hi']at this
    have hold:(a.put ops[i].dst v).tmps.getD t undef=a.tmps.getD t undef:=by
     cases hdi:ops[i].dst with
     |none=>rfl
     |some d=>exact hdi▸hother d t hdi (fun e=>hne (by rw[hdi,e]))
    rw[hold];refine(h5 t ht (fun j o u q=>?_)).mono hgr hnm;have hij:i≠j:=fun e=>by subst e;rw[M]at u;obtain rfl:=Dh u;exact hne q
    have :=hno j o u q;simpa only[Io,Nb hij]using this
   ·intro k o d hk hkd hl;by_cases hik:i=k
    ·subst hik;rw[M]at hk;obtain rfl:=Dh hk;rw[hkd,a2u (by rw[hsz];exact Yr i _ d M hkd)];exact hR
    have hl':l.getD k false=true:=by
     simp only[Io,Nb hik]at hl ⊢;exact hl
    have :=(h6 k o d hk hkd hl').mono hgr hnm;cases hdst:ops[i].dst with
    |none=>exact this
    |some d'=>
     have hne:d'≠d:=fun e=>hik (hinj i k _ _ d' M hk hdst (e▸hkd));rw[←hdst,hother d' d hdst hne];exact this
   intro j o u hl k hk;have hil:i<l.size:=AB
   by_cases hik:i=k
   ·subst hik;simp[Array.getD,hil]
   have hkk:l.getD k false=true:=by
    by_cases hij:i=j
    ·subst hij;rw[M]at u;obtain rfl:=Dh u;exact(O k hk).1
    have hl':l.getD j false=true:=by
     simp only[Io,Nb hij]at hl ⊢;exact hl
    exact h7 j o u hl' k hk
   simp only[Io,Nb hik]at hkk ⊢;exact hkk
  unfold wpOpIn;rw[M];show if Region.wanted ops[i] (yielded ops a.tmps)=true then _ else _
  rcases(Zn i ops[i] AB hiN M).1 with⟨ns,hop,afP,hnt,hg⟩|⟨hx,hev,hg⟩
  ·have hwant:Region.wanted ops[i] (yielded ops a.tmps)=true:=by
    unfold Region.wanted;rcases hg with hg|⟨j,want,d,b,hg,u,z,rfl⟩
    ·rw[hg]
    rw[hg];show(yielded ops a.tmps j==some b)=true;rw[ah5 j d _ ((hcalm i _ M).2 j b hg) u z];simp
   rw[DX hwant];refine Qm ?_ (hop.inR ro C ok H a w _ hmem (fun n hn=>?_))
   ·rintro a' w' ⟨v,ok',H',rfl,hgr,hnn,hm',hx⟩;exact hput _ v ok' H' w' rfl hgr hnn hm' hx
   have hnv:=Q5 afP n hn;obtain⟨x,y⟩:=n;simp only at hnv ⊢;subst hnv;cases x with
   |tmp t=>
    refine hread t ?_;rw[EY]at hnt
    have :t∈KF ns:=by
     unfold KF;rw[TR];exact⟨_,hn,rfl⟩
    simpa using hnt t this
   |const v=>exact .d _ _ (.lit v)
   |global g=>exact .d _ _ (.lit _)
   |func f=>exact .d _ _ (.fn (.func f) [] [] #[] #[] rfl rfl (fun i hi=>PY) (fun i hi=>PY))
  have hwant:Region.wanted ops[i] (yielded ops a.tmps)=false:=by
   unfold Region.wanted;obtain⟨j,want,d,v,hg,u,z,hv⟩:=hg;rw[hg];show(yielded ops a.tmps j==some want)=false;rw[ah5 j d _ ((hcalm i _ M).2 j want hg) u z];rcases hv with rfl|rfl
   ·simp
   rfl
  rw[Dk (by rw[hwant];simp)];exact⟨fun _ _=>trivial,hput _ _ ok H w hx.symm (.refl _ _) (.refl _) (by rw[hev];exact hmem) (.d _ _ (.lit _))⟩
 ·rintro l a w (⟨h1,hlN,ok,H,m,adn,aew,hmem,hsz,hdf,h5,h6,h7⟩|⟨h1,_,h2⟩) hr
  rotate_left
  ·exact h2
  have hall:∀n i,i<n->i<ops.size->l.getD i false=true:=by
   intro n
   induction n with
   |zero=>intro i hi;omega
   |succ n ih=>
    intro i hi hi2;by_cases hn:i<n
    ·exact ih i hn hi2
    have hin:i=n:=AB
    subst hin;rw[←aFc];intro hf;have M:ops[i]? =some ops[i]:=by simp[hi2]
    have hmem:i∈Region.ready .any ops l:=by
     unfold Region.ready;rw[HY];refine⟨by simpa using hi2,?_⟩;have hil:i<l.size:=AB
     have hf':l.getD i true=false:=qG
     rw[hf',M];simp only[Iu,Gh,Ij,ML];rw[QJ];intro e he;cases hbe:Region.binds .any e with
     |false=>simp
     |true=>
      have hlt:=abK i _ M e dw hbe;rw[ih e.on AB AB];simp
    rw[hr]at hmem;simp at hmem
  have :=hall (N+1) N AB AB;rw[hlN]at this;cases this
 ·unfold toCome;simp
 refine .inl ⟨Bj,a1j,ok,H,0,Du _,fun b z _=>a1j,?_,hh.size,hh.defers.mono (fun b z=>⟨z,rfl⟩),fun t ht _=>?_,fun i o d _ _ hl=>?_,fun j o _ hl=>?_⟩
 ·exact⟨⟨hh.mem.fr.os,hh.mem.fr.tape,hh.mem.fr.output,hh.mem.fr.size,hh.mem.fr.block⟩,hh.mem.yF,hh.mem.yG,hh.mem.kM,hh.mem.names,hh.mem.hlen,fun k e h h1 h2=>(hh.mem.ent k e h h1 h2).drew,hh.mem.blk,hh.mem.Ef⟩
 ·exact R.mono (w:=w) (ok:=ok) (w':={ w with drawn:=w.drawn+1 }) (fun b z=>⟨z,rfl⟩) (.refl _) (hh.slot t ht)
 ·simp[Array.getD]at hl
 simp[Array.getD]at hl
def Bz.aDJ {id:Nat} {σ σ':BR} {Q:Exit->BR->Prop} {rs:A8 Ai} {ess:A8 (A8 Bf)} {bs:A8 Ad} (N:Nat) (h:Fe P ops (ops.toList.take N) σ rs ess bs σ') (hl:Dw P ops (ops.toList.drop N) σ' Q) (z:N+1=ops.size:=by kernel_rfl) (hm:P.follows .mixedOrders=true:=by kernel_rfl) (j:(U4 ops&&Xj ops&&Wn ops σ.slots.length&&Wj ops)=true:=by kernel_rfl) (I:bs.length=N:=by kernel_rfl) (q:VY ops (bs++[true])=true:=by kernel_rfl):Bz P (.region id ops true) σ Q:=by
 refine Bz.aGR N z hm j I q h fun ro C ok H a w O=>?_;have L:N<ops.size:=AB
 have hd:ops.toList.drop N=[ops[N]]:=by
  rw[Ku Y6];simp[←z]
 rw[hd]at hl;have M:=hl.run ro [] (fun e a' w'=>∃ok' H' σ',Holds C ok' H' σ' a' w'/\Q e σ') C ok H a w O ⟨fun σ' ok' H' a' w' J u=>⟨ok',H',σ',u,J⟩,fun v σ' ok' H' a' w' J u=>⟨ok',H',σ',u,J⟩⟩;unfold wpOpIn;have U:ops[N]? =some ops[N]:=by simp[L]
 rw[U];simp only[Zb,Ik,wpListIn]at M;exact M
end
section
variable {P:Cm} {o:Oper} {es:A8 Bf}
def a0k {t:CO} (e s:Nat) (I:(P.info? t).bind (·.zero)=some (.slice none 0 0)) (J:o.op=.alloc t):CS P o [] es (.ptr (es.length+1) 0) (es++[.arr e s [],.box [.aO es.length]]):=
 .eff fun C ok H a w hm Z=>by
  obtain⟨z,h2⟩:=aIX hm e s;have j:(H++[(⟨.slice none 0 0,s⟩:CP)]).length=(es++[Bf.arr e s []]).length:=z.hlen;have L:(H++[(⟨.slice none 0 0,s⟩:CP)])[es.length]? =some ⟨.slice none 0 0,s⟩:=P7
  have M:FZ ok (w.alloc (.cells #[.slice none 0 0] t)) ((H++[⟨.slice none 0 0,s⟩])++[⟨.pointer (some ⟨w.heap.size,0,none⟩),0⟩]) ⟨.pointer (some ⟨w.heap.size,0,none⟩),0⟩ (.box [.aO es.length]):=by
   refine⟨w.heap.size, #[.slice none 0 0],t,rfl,WY w _,rfl,fun i hi=>?_⟩
   match i,hi with
   |0,_=>exact⟨rfl,.aO _ none 0 0 s (by rw[Hf dR];exact L)⟩
  obtain⟨O,U⟩:=z.push (.cells #[.slice none 0 0] t) ⟨.pointer (some ⟨w.heap.size,0,none⟩),0⟩ _ (aF1 w) M;have q:Dv C ok ((H++[⟨.slice none 0 0,s⟩])++[⟨.pointer (some ⟨w.heap.size,0,none⟩),0⟩]) (es++[.arr e s [],.box [.aO es.length]]) (w.alloc (.cells #[.slice none 0 0] t)):=by simpa[IU]using O
  refine⟨.pointer (some ⟨w.heap.size,0,none⟩),_,ok,_,.inl ?_,U,(Ht _ _).trans (Ht _ _),q,.ptr _ _ w.heap.size 0 ?_⟩
  ·obtain⟨i,hi,u⟩:=iQ.1 I;have Y:Value.cells (.slice none 0 0)= #[.slice none 0 0]:=rfl;simp[execOp,J,Instr.alloc,zeroValue,typeInfo,hi,u,newVar,newRow,Y]
  rw[KX (by rw[j];simp),j];simp
def aCx {α:Type} {x y:CM} {t e:CO} {k n:Nat} {kd:IntKind} {i:Int} (enc:α->D) {l:A8 α} {a:α} (h:Am l i=some a) (hl:l.length=n) (ht:P.underlying t=some (.array n e)) (L:Ee P e false 1) (M:es[k]? =some (.box (BU (NZ enc l)))) (O:o.op=.indexAddr t x y):
 CS P o [(x,.ptr k 0),(y,.d (.lit (.int kd i)))] es (.ptr k i.toNat) es:=
 .pure fun ok H U w j u I=>by
  obtain⟨Y,Z⟩:=GH h;obtain⟨hd,hh,_⟩:=H8 j u M;have z:=(FK I).1;have J:=(FK I).2.lit;simp only at z J;have hlt:=(Fv.1 Z).1;have hu:(underlying t).run P w=.ok (.array n e) w:=O4
  generalize hv:U.eval x=v at z;cases z with
  |ptr _ _ b s hH=>
   have hb:0<=i/\i<n:=⟨Y,AB⟩
   refine⟨.pointer (some ⟨b,i.toNat,none⟩),?_,.ptr k _ b s hH⟩;have q:(⟨b,0,none⟩:Addr).add i.toNat=⟨b,i.toNat,none⟩:=by rw[addr_add,J3]
   simp[execOp,O,hv,J,Instr.indexAt,asIntOf,hu,Instr.sureAddr,hb,L.size w,q]
def aZ1 {α:Type} {i:Int} {enc:α->D} {l:A8 α} {a:α} (h:Am l i=some a):(BU (NZ enc l))[i.toNat]? =some (.d (enc a)):=by
 have j:=(GH h).2;simp[BU,NZ,D.cells,j]
def aEm {α:Type} {x:CM} {t:CO} {k:Nat} {i:Int} (enc:α->D) {l:A8 α} {a:α} (h:Am l i=some a) (j:es[k]? =some (.box (BU (NZ enc l)))) (q:Ee P t false 1) (u:o.op=.load t x):CS P o [(x,.ptr k i.toNat)] es (.d (enc a)) es:=aTv j (aZ1 h) q u
def aOt {t:CO} {x:CM} {y:D} (j:match P.underlying t with |some (.interface _)=>false|some _=>true|none=>false) (q:o.op=.makeInterface t x):CS P o [(x,.d y)] es (.d (.Qj t y)) es:=
 .pure fun ok H a w _ _ u=>by
  have z:EU ok w y (a.eval x):=by have :=u (x,.d y) Bj;cases this with |d _ _ h=>exact h
  refine⟨.iface t (a.eval x),?_,.d _ _ (.Qj t y _ z)⟩;cases ht:P.underlying t with
  |none=>rw[ht]at j;cases j
  |some d=>
   rw[ht]at j;have I:(underlying t).run P w=.ok d w:=O4
   cases d<;>first|(cases j;done)|simp[execOp,q,Instr.makeInterface,I]
def aW9 {t:CO} {x:CM} (us:A8 Aw) (j:match P.underlying t with |some (.interface _)=>false|some _=>true|none=>false) (u:o.op=.makeInterface t x):CS P o [(x,.d (.agg (us.map .lit)))] es (.d (.lit (.iface t (.agg us.toArray)))) es:=
 .pure fun ok H a w _ _ z=>by
  have q:=(z (x,.d (.agg (us.map .lit))) Bj).aia;simp only at q;refine⟨.iface t (.agg us.toArray),?_,.d _ _ (.lit _)⟩;cases ht:P.underlying t with
  |none=>rw[ht]at j;cases j
  |some d=>
   rw[ht]at j;have I:(underlying t).run P w=.ok d w:=O4
   cases d<;>first|(cases j;done)|simp[execOp,u,Instr.makeInterface,I,q]
def rP (P:Cm) (t:CO) (j:String) (f:FuncId):Ad:=
 match P.info? t with
 |some i=>(match i.methods.find? (·.name==j)with
  |some m=>m.path.toList.isEmpty&&(match m.func with |some (g,p)=>g=f&& !p|none=>false)
  |none=>false)&&(match P.underlying t with |some (.pointer _)=>false|some _=>true|none=>false)
 |none=>false
def ac4 {t:CO} {j:String} {f:FuncId} (h:rP P t j f=true) (n:Nat) (v:Aw) (w:Bc):(method (n+1) t v j).run P w=.ok (f,v) w:=by
 unfold rP at h;split at h
 ·rename_i i hi;rw[Df]at h;obtain⟨q,u⟩:=h;split at q
  ·rename_i m hm;rw[Df]at q;obtain⟨I,z⟩:=q;split at z
   ·rename_i g p J;simp only[Df,Hd,Ls]at z;obtain⟨rfl,rfl⟩:=z;have hp:m.path.toList=[]:=List.isEmpty_iff.1 I;cases ht:P.underlying t with
    |none=>rw[ht]at u;cases u
    |some d=>
     rw[ht]at u;have L:∀w,(underlying t).run P w=.ok d w:=fun w=>O4
     cases d<;>first|(cases u;done)|simp[method,typeInfo,hi,hm,hp,follow,J,receiverAt,L,Place.get]
   cases z
  cases q
 cases h
def aUZ {f:FuncId} {j:CM} {I:String} {ops:Bh CM} {ats:Bh CO} {t:CO} (x:D) (q:A8 D) {z:Ai} (hr:El P f ((x::q).map .d) [] z []) (hf:Hg P f=true) (J:rP P t I f=true) (hl:ops.toList.length=q.length) (O:z.up [] es.length=z)
 (ho:o.op=.call { callee:=.invoke j I,args:=ops,argTypes:=ats }):CS P o ((j,.d (.Qj t x))::Fq ops.toList (q.map .d)) es z es:=by
 intro C ok H a w Q hm hn;have Z:=hn (j,.d (.Qj t x)) Bj;simp only at Z;have L:=Sim (xs:=ops.toList) (vs:=q.map .d) NJ (fun n hn'=>hn n (Gv _ hn'));generalize hv:a.eval j=v at Z;cases Z with
 |d _ _ h=>
  cases h with
  |Qj _ _ u h1=>
   unfold Oper.wp
   have he:(execOp a.eval o).run P w=.ok (.enter f (#[u]++ops.map a.eval)) w:=by
    have h2:=U2 hf (#[u]++ops.map a.eval) w;have M:=ac4 J (P.types.size+99) u w;have h4:(#[Value.iface t u]++ops.map a.eval)[0]? =some (.iface t u):=by rw[Yu Bj];rfl
    have h5:(#[Value.iface t u]++ops.map a.eval).extract 1 (#[Value.iface t u]++ops.map a.eval).size=ops.map a.eval:=by
     apply aLb;rw[Array.toList_extract];simp only[Array.size_append,Array.size_map,List.extract_eq_take_drop,Array.toList_append,lS,Ns];simp;exact QL Bj
    simp only[execOp,ho,resolve,hv,Fl,Gw,G8,invoke,h4,h5,callMethod];have h6:(program).run P w=.ok P w:=rfl;simp only[h6,G8];have h7:P.types.size+Made.depth=P.types.size+99+1:=rfl;rw[h7,M];exact h2
   rw[he,Zt];have U:(ops.map a.eval).size=q.length:=NJ
   refine(aS9 hm hr _ (by simp at U;simp[U];omega) (fun i hi=>?_) O).mono ?_
   ·cases i with
    |zero=>
     have e0:(#[u]++ops.map a.eval).getD 0 undef=u:=by simp[Io,Yu]
     rw[e0];exact h1
    |succ i=>
     have Y:i<q.length:=Gp
     have M:=L i WJ;have e1:(q.map Ai.d).getD i .junk=.d (q.getD i ES):=by simp[List.getD,Y]
     have hi2:i<ops.size:=aQq
     have e2:(#[u]++ops.map a.eval).getD (i+1) undef=(ops.toList.map a.eval).getD i undef:=by
      simp only[Io,List.getD];rw[aLP Bj];simp[hi2]
     rw[e2];rw[e1]at M;have e3:(x::q).getD (i+1) ES=q.getD i ES:=Bj
     rw[e3];cases M with |d _ _ h=>exact h
   rintro e w' ⟨v,ok',H',rfl,M,h4,h5,h6⟩;exact⟨v,ok',H',rfl,M,h4,h5,h6⟩
end
section
variable {P:Cm} {ops:Bh Oper} {o:Oper} {rest l:A8 Oper} {σ:BR} {K:Exit->BR->Prop}
def Dw.Em {f:FuncId} {eG:A8 Ai} {u:Aw} (hr:aQ5 P f eG u) (hf:Hg P f=true) (h:K (zx u) σ) (J:UE σ o=some (f,eG):=by kernel_rfl) (hd:eG.all Ai.BJ=true:=by kernel_rfl) (hg:JC ops σ o.guard=some true:=by kernel_rfl):Dw P ops (o::rest) σ K:=by
 refine⟨fun ro l2 Q C ok H a w j hk=>?_⟩;show wpListIn (JF ro) 0 P ops Q (o::(rest++l2)) a w;unfold wpListIn;rw[DX (Q7 j (Na hg))];unfold UE at J;split at J
 ·rename_i c O;split at J
  ·rename_i f' I;cases J;obtain⟨callee,args,ats⟩:=c;simp only at I;subst I;have z:(execOp a.eval o).run P w=.ok (.enter f (args.map a.eval)) w:=by rw[zA O,U2 hf]
   unfold Oper.wpIn;rw[iT _ _ _ (by rw[O];intro c h;cases h),z]
   have M:Dv ⟨w,ok,[],[]⟩ ok [] [] w:=
    ⟨.refl _ _,fun _ h=>h,fun _ h=>.inl h,j.mem.kM,.refl _,rfl,fun k e h z=>Fn1,fun k e h b z=>Fn1,fun k k' e e' h h' b z=>Fn1⟩
   have key:Calls P f (args.map a.eval) w fun e w'=>e=.panicked [{ v:=u,recovered:=false }]/\∃ok',Holds C ok' H σ a w':=by
    refine(hr ok [] [] w _ M Bj (fun i hi=>?_)).mono ?_
    ·have L:i<args.size:=Gp
     have e1:(args.toList.map σ.get).getD i .junk=σ.get args[i]:=by simp[List.getD,L]
     have e2:(args.map a.eval).getD i undef=a.eval args[i]:=by simp[Array.getD,L]
     have U:Ai.BJ (σ.get args[i])=true:=by
      rw[EY]at hd;exact hd _ (FY.2 ⟨args[i],Bj,rfl⟩)
     have Y:=j.get args[i];rw[e1,e2];generalize σ.get args[i]=y at U Y;cases y with
     |d y=>cases Y with |d _ _ h=>exact .d _ _ h
     |_=>cases U
    rintro e w' ⟨ok',H',rfl,q⟩;obtain⟨h1,Z⟩:=j.mem.change (ok':=ok) (H':=H) (es':=σ.ents) (w':=w') (fun _=>False) q.fr.os q.fr.tape q.fr.output q.fr.size (fun b hb _=>q.fr.block b hb Bj) (fun _ h=>h.elim) (fun _ h=>h) (fun _ h=>.inl h) (.refl _) j.mem.hlen (fun k e h z j=>.inl ⟨z,j,fun _ _ _ h=>h⟩);exact⟨rfl,ok,h1,j.size,j.defers.mono Z,j.base,fun t ht=>(j.slot t ht).mono Z (.refl _)⟩
   refine⟨fun _ _=>trivial,fun h=>JD,aCG.2 (key.mono ?_)⟩;rintro e w' ⟨rfl,ok',h5⟩;exact hk.2 _ _ _ _ _ _ h h5
  cases J
 cases J
def Og:=@Dw.Em
end
def Ll {α β:Type} (r:Except Aw α) (f:α->AO (Except Aw β)):AO (Except Aw β):=
 match r with
 | .ok a=>f a
 | .error u=>some (.error u)
def ai2 (p:Addr) (w:Bc):
 CallsD Au 146 #[.pointer (some p)] .returning w fun e j w'=>e=.returned (.tuple #[])/\j=.returning/\w'=w:=by
 refine aDt func146 rfl fun q cs u=>?_;apply QF;apply QU;simp[wpOpsS,go_sem,recoverD,u,Tryz.ntmps146,Exit.thenS];apply QF;apply QU;simp[wpOpsS,go_sem,Exit.thenS];refine jo (t:=false) oU ?_;simp only[RU,KT];refine wpS_of_wp (wp_skip ?_);cases q
 simp_all [bodyPostS,results,Tryz.results146]
def aiB (b:Nat) (x:Aw) (n:Int) (w:Bc) (L:w.heap[b]? =some (.cells #[x] 40 (0,0))):
 CallsD Au 146 #[.pointer (some ⟨b,0,none⟩)] (.panicking [{ v:=.iface 165 (.agg #[.int .i64 n]),recovered:=false }]) w fun e M w'=>
  e=.returned (.tuple #[])/\M=.panicking [{ v:=.iface 165 (.agg #[.int .i64 n]),recovered:=true }]/\w.grownBy w' (some b)/\w'.heap[b]? =some (.cells #[.int .i64 n] 40 (0,0)):=by
 have q:∀(O:CO) (w:Bc),(Instr.typeAssert (.iface 165 (.agg #[.int .i64 n])) O 165 true).run Au w=.ok (.tuple #[.agg #[.int .i64 n],.bool true]) w:=fun _ _=>AA
 have U:∀w:Bc,(Instr.alloc 165 true (.tuple #[])).run Au w=.ok (.pointer (some ⟨w.heap.size,0,none⟩)) (w.alloc (.cells #[.int .i64 0] 165)):=fun w=>by
  simp[Instr.alloc,go_sem]
 have hst:∀w:Bc,(Instr.storeAt 165 (.pointer (some ⟨w.heap.size,0,none⟩)) (.agg #[.int .i64 n])).run Au (w.alloc (.cells #[.int .i64 0] 165))=.ok () (w.alloc (.cells #[.int .i64 n] 165)):=fun w=>by
  simp[Instr.storeAt,go_sem]
 refine aDt func146 rfl fun c₀ cs Y=>?_;apply QF;apply QU;simp[wpOpsS,go_sem,recoverD,Y,Tryz.ntmps146,Exit.thenS];apply QF;apply QU;simp[wpOpsS,go_sem,Exit.thenS];refine jo (t:=true) oU ?_;simp only[Jr];apply QF;apply QU;simp[wpOpsS,execOp,q,U,hst,go_sem,Exit.thenS];apply QF;apply QF;apply QU;simp[wpOpsS,go_sem,Exit.thenS];refine jo (t:=false) oU ?_;simp only[RU,KT];refine wpS_of_wp (wp_skip ?_);simp only[Exit.thenS];have u:b<w.heap.size:=(Gl.1 L).1;have j:(w.alloc (.cells #[.int .i64 n] 165)).heap[b]? =some (.cells #[x] 40 (0,0)):=(L8 _ _ _ u).trans L;have Z:(w.alloc (.cells #[.int .i64 n] 165)).cell? ⟨b,0,none⟩=some x:=aBT
 have z:(w.alloc (.cells #[.int .i64 n] 165)).frozen? ⟨b,0,none⟩=false:=by simp[World.frozen?,j]
 apply QU;simp[wpOpsS,go_sem,Exit.thenS,Z,z,bodyPostS,results,Tryz.results146]
 have key:(w.alloc (.cells #[.int .i64 n] 165)).setCell ⟨b,0,none⟩ (.int .i64 n)=(w.alloc (.cells #[.int .i64 n] 165)).putObj b (.cells #[.int .i64 n] 40 (0,0)):=by
  simp only[World.setCell,World.putObj];congr 1;apply yx;intro i;rw[OH,aLl];by_cases e:b=i
  ·subst e;rw[DX rfl,DX rfl,j,DX (Gl.1 j).1];rfl
  rw[Dk e,Dk e]
 rw[key];have I:b<(w.alloc (.cells #[.int .i64 n] 165)).heap.size:=(Gl.1 j).1;refine⟨⟨rfl,rfl,rfl,Bj,fun i hi J=>?_⟩,X9 I⟩;rw[YJ (fun e=>J (by rw[e]))];exact L8 _ _ _ hi
def Tq {T:Type}:Except Aw T->AO Int
 | .ok _=>some 0
 | .error (.iface t (.agg cs))=>bif t==165 then(match cs.toList with | [.int .i64 n]=>some n|_=>none)else none
 | .error _=>none
def aSk (b:Nat) (n:Int) (w:Bc) (j:w.heap[b]? =some (.cells #[.int .i64 n] 40 (0,0))) (tmps:Bh Aw) (ht:tmps.getD 2 undef=.pointer (some ⟨b,0,none⟩)):(results Tryz.f81 tmps).run Au w=.ok (.int .i64 n) w:=by
 have q:w.cell? ⟨b,0,none⟩=some (.int .i64 n):=aBT
 have e:results Tryz.f81 tmps=(do let v ←loadVar 40 (←asAddr (tmps.getD 2 undef));pure v):=by simp[results,Tryz.results81]
 rw[e,ht];simp[go_sem,q]
def aeO {g:FuncId} {us:Bh Aw} {w:Bc} {n:Int} (he:∀(vs:Bh Aw) (w:Bc),(callFunc g vs).run Au w=.ok (.enter g vs) w)
 (I:Calls Au g us (w.alloc (.cells #[.int .i64 0] 40 (0,0))) fun e u=>(w.alloc (.cells #[.int .i64 0] 40 (0,0))).grownBy u none/\((∃v,e=.returned v/\n=0)\/e=.panicked [{ v:=.iface 165 (.agg #[.int .i64 n]),recovered:=false }])):
 Calls Au 81 #[.func (.func g) #[] us] w fun e w'=>e=.returned (.int .i64 n)/\w.grownBy w' none:=by
 have Y:∀(fn:Fn) (first cap:Bh Aw) (w:Bc),(Instr.makeFunc fn first cap).run Au w=.ok (.func fn first cap) w:=fun _ _ _ _=>rfl;have q:w.grownBy (w.alloc (.cells #[.int .i64 0] 40 (0,0))) none:=⟨rfl,rfl,rfl,Bj,fun i hi _=>L8 _ _ _ hi⟩
 go_enter_defers func81,Tryz.ntmps81
 apply wp_seq;apply Zp;refine .inl ?_;simp[Oper.wp,go_sem,wpList,Exit.then];apply wp_seq;apply Zp;refine .inl ?_;simp[Oper.wp,go_sem,Y,wpList,Exit.then];refine .inl ?_;apply wp_seq;apply Zp;refine .inl ?_;simp[Oper.wp,go_sem,he,wpList,Exit.then];refine .inl (I.mono ?_);rintro e u ⟨L,h⟩;have M:u.heap[w.heap.size]? =some (.cells #[.int .i64 0] 40 (0,0)):=(L.block w.heap.size Bj Bj).trans (mD _ _);have O:w.heap.size<u.heap.size:=(Gl.1 M).1;have j:w.grownBy u none:=⟨L.os.trans q.os,L.tape.trans q.tape,L.output.trans q.output,FC q.size L.size,fun i hi U=>(L.block i EN U).trans (q.block i hi U)⟩
 have z:∀(Z:Bc) (m:Int),u.grownBy Z (some w.heap.size)->w.grownBy Z none:=fun Z m J=>⟨J.os.trans j.os,J.tape.trans j.tape,J.output.trans j.output,FC j.size J.size,fun i hi U=>(J.block i (by have :=j.size;omega) EN).trans (j.block i hi U)⟩
 rcases h with⟨v,rfl,rfl⟩|rfl
 ·have hc:u.cell? ⟨w.heap.size,0,none⟩=some (.int .i64 0):=by rw[World.cell?,M];rfl
  have hfz:u.frozen? ⟨w.heap.size,0,none⟩=false:=by simp[World.frozen?,M]
  apply wp_seq;apply Zp;refine .inl ?_;simp[Oper.wp,go_sem,hc,hfz,wpList,Exit.then];apply wp_ret
  have key:u.setCell ⟨w.heap.size,0,none⟩ (.int .i64 0)=u.putObj w.heap.size (.cells #[.int .i64 0] 40 (0,0)):=by
   simp only[World.setCell,World.putObj];congr 1;apply yx;intro i;rw[OH,aLl];by_cases e:w.heap.size=i
   ·subst e;rw[DX rfl,DX rfl,M,DX O];rfl
   rw[Dk e,Dk e]
  rw[key];refine leaves_cons (f:=146) (args:= #[.pointer (some ⟨w.heap.size,0,none⟩)]) Bj a1c ?_;refine(ai2 ⟨w.heap.size,0,none⟩ _).mono ?_;rintro e u' w'' ⟨rfl,rfl,rfl⟩;refine⟨.int .i64 0,aSk w.heap.size 0 _ (X9 O) _ rfl,rfl,z _ 0 ⟨rfl,rfl,rfl,Bj,fun i hi hne=>YJ (fun e=>hne (by rw[e]))⟩⟩
 refine leaves_cons (f:=146) (args:= #[.pointer (some ⟨w.heap.size,0,none⟩)]) Bj a1c ?_;refine(aiB w.heap.size (.int .i64 0) n u M).mono ?_;rintro e u' w'' ⟨rfl,rfl,J,h4⟩;exact⟨.int .i64 n,aSk w.heap.size n _ h4 _ rfl,rfl,z _ n J⟩
noncomputable abbrev BD:=Hg Au
def aWC {T:Type} {res:T->Ai} (g:FuncId) (j:A8 D) (r:Except Aw T) (hr:QT Au g (j.map .d) r res) (M:BD g=true) (n:Int) (z:Tq r=some n):
 BF 81 [.d (.fn (.func g) [] j)] [] (.d (Ag n)) []:=by
 intro ok X H w J hm hs ha;obtain rfl:H=[]:=Hw hm.hlen;have h0:=ha 0 Bj
 obtain⟨fv,rfl⟩:∃fv,J= #[fv]:=by
  have h1:J.size=1:=hs;exact⟨J[0],by apply Z4 (by simp[h1]);intro i h1 h2;simp at h2;subst h2;rfl⟩
 have h0:R ok w [] (.d (.fn (.func g) [] j)) fv:=h0;cases h0 with
 |d _ _ h0=>
 cases h0 with
 |fn _ _ _ vs us hl1 hl2 h1 h2=>
 obtain rfl:vs= #[]:=XY (by simpa using hl1);obtain⟨I,Y⟩:∃I,I=w.alloc (.cells #[.int .i64 0] 40 (0,0)):=⟨_,rfl⟩
 have hg1:Ep ok w ok I:=fun b U=>⟨U,by rw[Y];exact L8 _ _ _ (hm.kM b U)⟩
 have hmc:Dv ⟨I,ok,[],[]⟩ ok [] [] I:=
  ⟨.refl _ _,fun _ h=>h,fun _ h=>.inl h,fun b U=>by rw[Y];simp;exact Nat.lt_succ_of_lt (hm.kM b U),.refl _,rfl,fun k e h M=>by simp at M,fun k e h b M=>by simp at M,fun k k' e e' h h' b M=>by simp at M⟩
 have L:∀i,i<(j.map Ai.d).length->R ok I [] ((j.map Ai.d).getD i .junk) (us.getD i undef):=fun i hi=>by
  rw[DY]at hi;have e1:(j.map Ai.d).getD i .junk=.d (j.getD i ES):=OC
  rw[e1];exact .d _ _ ((h2 i hi).mono hg1)
 have hgr:∀{Z:Nat->Prop} {H2:A8 CP} {w2:Bc},Dv ⟨I,ok,[],[]⟩ Z H2 [] w2->I.grownBy w2 none:=fun q=>⟨q.fr.os,q.fr.tape,q.fr.output,q.fr.size,fun b U _=>q.fr.block b U Bj⟩
 have hcall:Calls Au g us I fun e w2=>I.grownBy w2 none/\((∃v,e=.returned v/\n=0)\/e=.panicked [{ v:=.iface 165 (.agg #[.int .i64 n]),recovered:=false }]):=by
  cases O:r with
  |ok x=>
   rw[O]at z;refine(hr.1 x O ok [] [] I us hmc (by simpa using hl2) L).mono ?_;rintro e w2 ⟨v,Z,H2,rfl,q,_⟩;exact⟨hgr q,.inl ⟨v,rfl,(Dh z).symm⟩⟩
  |error u=>
   rw[O]at z
   have hu:u=.iface 165 (.agg #[.int .i64 n]):=by
    unfold Tq at z;split at z
    ·rename_i h;cases h
    ·rename_i t cs h;cases h;cases ht:(t==165)with
     |false=>rw[ht]at z;cases z
     |true=>
      rw[ht]at z;simp only[Bq]at z;obtain rfl:t=165:=a1S
      split at z
      ·rename_i m hcs;obtain rfl:=Dh z;rw[←ah (xs:=cs),hcs]
      cases z
    cases z
   refine(hr.2 u O ok [] [] I us hmc (by simpa using hl2) L).mono ?_;rintro e w2 ⟨Z,H2,rfl,q⟩;exact⟨hgr q,.inr (by rw[hu])⟩
 subst Y;refine(aeO (fun vs w=>U2 M vs w) hcall).mono ?_;rintro e w' ⟨rfl,hg⟩;obtain⟨m1,_⟩:=hm.change (ok':=ok) (H':=[]) (es':=[]) (w':=w') (fun _=>False) hg.os hg.tape hg.output hg.size (fun b U _=>hg.block b U Bj) (fun _ h=>h.elim) (fun _ h=>h) (fun _ h=>.inl h) (.refl _) rfl (fun k e h M=>by simp at M);exact⟨_,ok,[],rfl,m1,.d _ _ (.lit _)⟩
def setCell_eq {w:Bc} {b:Nat} {x y:Aw} {t:CO} (j:w.heap[b]? =some (.cells #[x] t (0,0))):w.setCell ⟨b,0,none⟩ y=w.putObj b (.cells #[y] t (0,0)):=by
 simp only[World.setCell,World.putObj];congr 1;apply yx;intro i;rw[OH,aLl];by_cases e:b=i
 ·subst e;rw[DX rfl,DX rfl,j,DX (Gl.1 j).1];rfl
 rw[Dk e,Dk e]
def anK (p q:Addr) (w:Bc):
 CallsD Au 401 #[.pointer (some p),.pointer (some q)] .returning w fun e j w'=>e=.returned (.tuple #[])/\j=.returning/\w'=w:=by
 refine aDt func401 rfl fun u cs z=>?_;apply QF;apply QU;simp[wpOpsS,go_sem,recoverD,z,Tryz.ntmps401,Exit.thenS];apply QF;apply QU;simp[wpOpsS,go_sem,Exit.thenS];refine jo (t:=false) oU ?_;simp only[RU,KT];refine wpS_of_wp (wp_skip ?_);cases u
 simp_all [bodyPostS,results,Tryz.results401]
def aff (b c:Nat) (ad:AO Addr) (n cap:Nat) (x:Aw) (w:Bc) (Y:w.heap[b]? =some (.cells #[.slice ad n cap] 52 (0,0))) (Z:w.heap[c]? =some (.cells #[x] 52 (0,0))):
 CallsD Au 401 #[.pointer (some ⟨b,0,none⟩),.pointer (some ⟨c,0,none⟩)] (.panicking [{ v:=.iface 331 (.agg #[]),recovered:=false }]) w fun e u' w'=>
  e=.returned (.tuple #[])/\u'=.panicking [{ v:=.iface 331 (.agg #[]),recovered:=true }]/\w.grownBy w' (some c)/\w'.heap[c]? =some (.cells #[.slice ad n cap] 52 (0,0)):=by
 have q:∀(t0:CO) (w:Bc),(Instr.typeAssert (.iface 331 (.agg #[])) t0 331 true).run Au w=.ok (.tuple #[.agg #[],.bool true]) w:=fun _ _=>AA
 refine aDt func401 rfl fun c₀ cs hu=>?_;apply QF;apply QU;simp[wpOpsS,go_sem,recoverD,hu,Tryz.ntmps401,Exit.thenS];apply QF;apply QU;simp[wpOpsS,go_sem,Exit.thenS];refine jo (t:=true) oU ?_;simp only[Jr];apply QF;apply QF;apply QU;simp[wpOpsS,execOp,q,go_sem,Exit.thenS];apply QF;apply QU;simp[wpOpsS,go_sem,Exit.thenS];refine jo (t:=false) oU ?_;simp only[RU,KT];refine wpS_of_wp (wp_skip ?_);simp only[Exit.thenS];have u:b<w.heap.size:=(Gl.1 Y).1;have z:c<w.heap.size:=(Gl.1 Z).1;have I:(w.alloc (.cells #[] 331)).heap[b]? =some (.cells #[.slice ad n cap] 52 (0,0)):=(L8 _ _ _ u).trans Y;have j:(w.alloc (.cells #[] 331)).heap[c]? =some (.cells #[x] 52 (0,0)):=(L8 _ _ _ z).trans Z;have J:(w.alloc (.cells #[] 331)).cell? ⟨b,0,none⟩=some (.slice ad n cap):=by rw[World.cell?,I];rfl
 have L:(w.alloc (.cells #[] 331)).cell? ⟨c,0,none⟩=some x:=aBT
 have M:(w.alloc (.cells #[] 331)).frozen? ⟨c,0,none⟩=false:=by simp[World.frozen?,j]
 apply QU;simp[wpOpsS,go_sem,Exit.thenS,J,L,M,bodyPostS,results,Tryz.results401];rw[setCell_eq j];have O:c<(w.alloc (.cells #[] 331)).heap.size:=(Gl.1 j).1;refine⟨⟨rfl,rfl,rfl,Bj,fun i hi U=>?_⟩,X9 O⟩;rw[YJ (fun e=>U (by rw[e]))];exact L8 _ _ _ hi
def step_fin (b:Nat) (v:Aw) (w:Bc) (j:w.heap[b]? =some (.cells #[v] 52 (0,0))) (tmps:Bh Aw) (ht:tmps.getD 6 undef=.pointer (some ⟨b,0,none⟩)):(results Tryz.f378 tmps).run Au w=.ok v w:=by
 have q:w.cell? ⟨b,0,none⟩=some v:=aBT
 have e:results Tryz.f378 tmps=(do let v ←loadVar 52 (←asAddr (tmps.getD 6 undef));pure v):=by simp[results,Tryz.results378]
 rw[e,ht];simp[go_sem,q]
def ai9 {l id:Aw} {ad:AO Addr} {n cap:Nat} {w:Bc} {Rv:Aw->Bc->Prop} {bad:Prop}
 (I:Calls Au 402 #[l,.slice ad n cap,id] ((w.alloc (.cells #[.slice ad n cap] 52 (0,0))).alloc (.cells #[.slice none 0 0] 52 (0,0))) fun e j=>((w.alloc (.cells #[.slice ad n cap] 52 (0,0))).alloc (.cells #[.slice none 0 0] 52 (0,0))).grownBy j none/\((∃L n' q,e=.returned (.slice L n' q)/\Rv (.slice L n' q) j)\/(e=.panicked [{ v:=.iface 331 (.agg #[]),recovered:=false }]/\bad))):
 Calls Au 378 #[l,.slice ad n cap,id] w fun e w'=>w.grownBy w' none/\((∃v j,e=.returned v/\Rv v j/\w.grownBy j none/\w.heap.size+1<j.heap.size/\j.grownBy w' (some (w.heap.size+1)))\/(e=.returned (.slice ad n cap)/\bad)):=by
 have hmf:∀(fn:Fn) (first cap:Bh Aw) (w:Bc),(Instr.makeFunc fn first cap).run Au w=.ok (.func fn first cap) w:=fun _ _ _ _=>rfl;obtain⟨U,u⟩:∃U,U=(w.alloc (.cells #[.slice ad n cap] 52 (0,0))).alloc (.cells #[.slice none 0 0] 52 (0,0)):=⟨_,rfl⟩
 have hs1:U.heap.size=w.heap.size+2:=by rw[u];simp
 have Z:U.heap[w.heap.size]? =some (.cells #[.slice ad n cap] 52 (0,0)):=by rw[u];exact(L8 _ _ _ Bj).trans (mD w _)
 have h1c:U.heap[w.heap.size+1]? =some (.cells #[.slice none 0 0] 52 (0,0)):=by
  have :=mD (w.alloc (.cells #[.slice ad n cap] 52 (0,0))) (.cells #[.slice none 0 0] 52 (0,0));rw[aMe]at this;rw[u];exact this
 have J:w.grownBy U none:=by
  rw[u];exact⟨rfl,rfl,rfl,EN,fun i hi _=>(L8 _ _ _ EN).trans (L8 _ _ _ hi)⟩
 have hcb:U.cell? ⟨w.heap.size,0,none⟩=some (.slice ad n cap):=by rw[World.cell?,Z];rfl
 rw[←u]at I
 go_enter_defers func378,Tryz.ntmps378
 apply wp_seq;apply Zp;refine .inl ?_;simp[Oper.wp,go_sem,wpList,Exit.then];rw[←u];have he:∀(vs:Bh Aw) (w:Bc),(callFunc 402 vs).run Au w=.ok (.enter 402 vs) w:=fun vs w=>U2 (P:=Au) (f:=402) AA vs w;refine .inl ?_;apply wp_seq;apply Zp;refine .inl ?_;simp[Oper.wp,go_sem,hmf,wpList,Exit.then];refine .inl ?_;apply wp_seq;apply Zp;refine .inl ?_;simp[Oper.wp,go_sem,wpList,Exit.then,hcb,he];refine .inl (.inl (.inl (I.mono ?_)));rintro e j ⟨Y,h⟩;have hb:j.heap[w.heap.size]? =some (.cells #[.slice ad n cap] 52 (0,0)):=(Y.block _ AB Bj).trans Z;have hc:j.heap[w.heap.size+1]? =some (.cells #[.slice none 0 0] 52 (0,0)):=(Y.block _ AB Bj).trans h1c;have hcl:w.heap.size+1<j.heap.size:=(Gl.1 hc).1;have z:w.grownBy j none:=⟨Y.os.trans J.os,Y.tape.trans J.tape,Y.output.trans J.output,FC J.size Y.size,fun i hi hn=>(Y.block i AB hn).trans (J.block i hi hn)⟩
 have O:∀(w3:Bc),j.grownBy w3 (some (w.heap.size+1))->w.grownBy w3 none:=fun w3 M=>⟨M.os.trans z.os,M.tape.trans z.tape,M.output.trans z.output,FC z.size M.size,fun i hi hn=>(M.block i AB EN).trans (z.block i hi hn)⟩
 rcases h with⟨L,n',q,rfl,hv⟩|⟨rfl,hbad⟩
 ·have hcc:j.cell? ⟨w.heap.size+1,0,none⟩=some (.slice none 0 0):=by rw[World.cell?,hc];rfl
  have hfz:j.frozen? ⟨w.heap.size+1,0,none⟩=false:=by simp[World.frozen?,hc]
  simp[hcc,hfz,go_sem,wpList,Exit.then];refine .inl (wp_ret ?_);rw[setCell_eq hc];refine leaves_cons (f:=401) (args:= #[.pointer (some ⟨w.heap.size,0,none⟩),.pointer (some ⟨w.heap.size+1,0,none⟩)]) Bj a1c ?_;refine(anK ⟨w.heap.size,0,none⟩ ⟨w.heap.size+1,0,none⟩ _).mono ?_;rintro e u' w'' ⟨rfl,rfl,rfl⟩;have M:j.grownBy (j.putObj (w.heap.size+1) (.cells #[.slice L n' q] 52 (0,0))) (some (w.heap.size+1)):=⟨rfl,rfl,rfl,Bj,fun i hi hne=>YJ (fun e=>hne (by rw[e]))⟩
  exact⟨.slice L n' q,step_fin (w.heap.size+1) _ _ (X9 hcl) _ rfl,O _ M,.inl ⟨_,rfl,j,hv,z,hcl,M⟩⟩
 refine leaves_cons (f:=401) (args:= #[.pointer (some ⟨w.heap.size,0,none⟩),.pointer (some ⟨w.heap.size+1,0,none⟩)]) Bj a1c ?_;refine(aff w.heap.size (w.heap.size+1) ad n cap (.slice none 0 0) j hb hc).mono ?_;rintro e u' w'' ⟨rfl,rfl,M,h4⟩;exact⟨.slice ad n cap,step_fin (w.heap.size+1) _ _ h4 _ rfl,O _ M,.inr ⟨rfl,hbad⟩⟩
def a2j {T:Type} (s:T):Except Aw T->AO T
 | .ok x=>some x
 | .error (.iface t (.agg cs))=>bif t==331&&cs.toList.isEmpty then some s else none
 | .error _=>none
def aYk {T:Type} (enc:T->A8 D) (dl di:D) (s:T) (r:Except Aw T) (hr:QT Au 402 [.d dl,.d (.sl (enc s)),.d di] r (fun x=>.d (.sl (enc x)))) (O:T) (Z:a2j s r=some O):
 BF 378 [.d dl,.d (.sl (enc s)),.d di] [] (.d (.sl (enc O))) []:=by
 intro ok X H w I hm hs ha;obtain rfl:H=[]:=Hw hm.hlen;have hsz:I.size=3:=hs
 obtain⟨l,sv,id,rfl⟩:∃l sv id,I= #[l,sv,id]:=⟨I[0],I[1],I[2],by
  apply Z4 (by simp[hsz]);intro i h1 h2
  match i,h2 with
  |0,_=>rfl
  |1,_=>rfl
  |2,_=>rfl⟩
 have a0:R ok w [] (.d dl) l:=ha 0 Bj;have a1:R ok w [] (.d (.sl (enc s))) sv:=ha 1 Bj;have a2:R ok w [] (.d di) id:=ha 2 Bj
 have slv:∀{ok:Nat->Prop} {w:Bc} {H:A8 CP} {xs:A8 D} {v:Aw},R ok w H (.d (.sl xs)) v->∃ad n cap,v=.slice ad n cap:=fun h=>by
  cases h with
  |d _ _ h=>cases h with
   |sl0 ad cap=>exact⟨_,_,_,rfl⟩
   |sl=>exact⟨_,_,_,rfl⟩
 obtain⟨ad,n,cap,rfl⟩:=slv a1;obtain⟨J,hw1⟩:∃J,J=(w.alloc (.cells #[.slice ad n cap] 52 (0,0))).alloc (.cells #[.slice none 0 0] 52 (0,0)):=⟨_,rfl⟩
 have hs1:J.heap.size=w.heap.size+2:=by rw[hw1];simp
 have hg1:Ep ok w ok J:=fun b z=>⟨z,by rw[hw1];exact(L8 _ _ _ (by have h:=hm.kM b z;rw[aMe];omega)).trans (L8 _ _ _ (hm.kM b z))⟩
 have hmc:Dv ⟨J,ok,[],[]⟩ ok [] [] J:=
  ⟨.refl _ _,fun _ h=>h,fun _ h=>.inl h,fun b z=>by have h:=hm.kM b z;rw[hs1];omega,.refl _,rfl,fun k e h he=>by simp at he,fun k e h b he=>by simp at he,fun k k' e e' h h' b he=>by simp at he⟩
 have U:∀i,i<3->R ok J [] ([Ai.d dl,.d (.sl (enc s)),.d di].getD i .junk) ((#[l,.slice ad n cap,id]:Bh Aw).getD i undef):=fun i hi=>by
  match i,hi with
  |0,_=>exact a0.mono hg1 (.refl _)
  |1,_=>exact a1.mono hg1 (.refl _)
  |2,_=>exact a2.mono hg1 (.refl _)
 have hgr:∀{j:Nat->Prop} {H2:A8 CP} {M:Bc},Dv ⟨J,ok,[],[]⟩ j H2 [] M->J.grownBy M none:=fun q=>⟨q.fr.os,q.fr.tape,q.fr.output,q.fr.size,fun b z _=>q.fr.block b z Bj⟩
 have Y:Calls Au 402 #[l,.slice ad n cap,id] J fun e M=>J.grownBy M none/\((∃ad' n' L,e=.returned (.slice ad' n' L)/\∃x j,r=.ok x/\Dv ⟨J,ok,[],[]⟩ j [] [] M/\EU j M (.sl (enc x)) (.slice ad' n' L))\/(e=.panicked [{ v:=.iface 331 (.agg #[]),recovered:=false }]/\O=s)):=by
  cases hrr:r with
  |ok x=>
   refine(hr.1 x hrr ok [] [] J _ hmc rfl U).mono ?_;rintro e M ⟨v,j,H2,rfl,q,hR⟩;obtain⟨ad',n',L,rfl⟩:=slv hR;obtain rfl:H2=[]:=Hw q.hlen;exact⟨hgr q,.inl ⟨ad',n',L,rfl,x,j,rfl,q,by cases hR with |d _ _ h=>exact h⟩⟩
  |error u=>
   rw[hrr]at Z
   have hu:u=.iface 331 (.agg #[])/\O=s:=by
    unfold a2j at Z;split at Z
    ·rename_i h;cases h
    ·rename_i t cs h;cases h;cases ht:(t==331&&cs.toList.isEmpty)with
     |false=>rw[ht]at Z;cases Z
     |true=>
      rw[ht]at Z;simp only[Df]at ht;obtain rfl:t=331:=by simpa using ht.1
      have :cs= #[]:=by rw[←ah (xs:=cs),List.isEmpty_iff.1 ht.2]
      subst this;exact⟨rfl,(Dh Z).symm⟩
    cases Z
   refine(hr.2 u hrr ok [] [] J _ hmc rfl U).mono ?_;rintro e M ⟨j,H2,rfl,q⟩;exact⟨hgr q,.inr ⟨by rw[hu.1],hu.2⟩⟩
 rw[hw1]at Y;refine(ai9 Y (Rv:=fun v M=>∃x j,r=.ok x/\Dv ⟨_,ok,[],[]⟩ j [] [] M/\EU j M (.sl (enc x)) v) (bad:=O=s)).mono ?_;rw[←hw1];rintro e w' ⟨hg,h⟩
 have mk:∀(j:Nat->Prop),(∀b,ok b->j b)->(∀b,j b->ok b\/(w.heap.size<=b/\b<w'.heap.size))->Dv ⟨w,ok,X,[]⟩ j [] [] w':=fun j h1 h2=>
  (hm.change (ok':=j) (H':=[]) (es':=[]) (w':=w') (fun _=>False) hg.os hg.tape hg.output hg.size (fun b z _=>hg.block b z Bj) (fun _ h=>h.elim) h1 h2 (.refl _) rfl (fun k e h he=>by simp at he)).1
 rcases h with⟨v,M,rfl,⟨x,j,hx,q,hD⟩,hg2,hlt,h3⟩|⟨rfl,rfl⟩
 ·rw[hx]at Z;obtain rfl:=Dh Z
  have hgg:Ep j M j w':=fun b z=>⟨z,h3.block b (q.kM b z) (fun e=>by
   obtain rfl:=Dh e;rcases q.yG _ z with h|h|h
   ·have :=hm.kM _ h;omega
   ·simp only at h;omega
   simp at h)⟩
  refine⟨v,j,[],rfl,mk j q.yF (fun b z=>?_),.d _ _ (hD.mono hgg)⟩;rcases q.yG b z with h|h|h
  ·exact .inl h
  ·simp only at h;exact .inr ⟨AB,VP (q.kM b z) h3.size⟩
  simp at h
 have hgg:Ep ok w ok w':=fun b z=>⟨z,hg.block b (hm.kM b z) Bj⟩
 exact⟨_,ok,[],rfl,mk ok (fun _ h=>h) (fun _ h=>.inl h),a1.mono hgg (.refl _)⟩
end
end Go.Proofs.YtkkdimcnpacjhaaGreat
section
namespace Go.Proofs
open Go.Proofs.YtkkdimcnpacjhaaGreat
open Go.Shelf
def Tryz.ZB:Go.Shelf.Ren:=⟨fun |6=>438|15=>124|14=>442|28=>215|29=>216|20=>443|21=>444|22=>445|23=>446|24=>447|25=>448|26=>449|27=>450|46=>451|47=>307|48=>308|49=>452|50=>453|57=>454|n=>n,fun |22=>358|24=>360|25=>362|3=>3|39=>148|0=>0|53=>212|55=>214|4=>4|46=>206|45=>205|50=>47|5=>5|9=>9|66=>279|70=>283|76=>305|77=>306|n=>n,fun |n=>n⟩
def Tryz.atu:SlLaysF0.n6 Au Tryz.ZB:={
 mixed:=AA
 f6:=⟨Tryz.f438.name,Bo,Tryz.func438.trans (BP some AA)⟩
 f14:=⟨Tryz.f442.name,Bo,Tryz.func442.trans (BP some AA)⟩
 f15:=Tryz.func124.trans (BP some AA)
 f20:=⟨Tryz.f443.name,Bo,Tryz.func443.trans (BP some AA)⟩
 f21:=⟨Tryz.f444.name,Bo,Tryz.func444.trans (BP some AA)⟩
 f22:=⟨Tryz.f445.name,Bo,Tryz.func445.trans (BP some AA)⟩
 f23:=⟨Tryz.f446.name,Bo,Tryz.func446.trans (BP some AA)⟩
 f24:=⟨Tryz.f447.name,Bo,Tryz.func447.trans (BP some AA)⟩
 f25:=⟨Tryz.f448.name,Bo,Tryz.func448.trans (BP some AA)⟩
 f26:=⟨Tryz.f449.name,Bo,Tryz.func449.trans (BP some AA)⟩
 f27:=⟨Tryz.f450.name,Bo,Tryz.func450.trans (BP some AA)⟩
 f28:=Tryz.func215.trans (BP some AA)
 f29:=Tryz.func216.trans (BP some AA)
 f46:=⟨Tryz.f451.name,Bo,Tryz.func451.trans (BP some AA)⟩
 f47:=Tryz.func307.trans (BP some AA)
 f48:=Tryz.func308.trans (BP some AA)
 f49:=⟨Tryz.f452.name,Bo,Tryz.func452.trans (BP some AA)⟩
 f50:=⟨Tryz.f453.name,Bo,Tryz.func453.trans (BP some AA)⟩
 f57:=⟨Tryz.f454.name,Bo,Tryz.func454.trans (BP some AA)⟩
 t0:=aCA
 a0:=Tryz.isAgg0
 z0:=Tryz.sizeOf0
 v0:=a2I
 t3:=Ws
 a3:=kF
 z3:=iY
 v3:=jl
 t4:=kX
 a4:=uK
 z4:=a07
 v4:=zu
 t5:=zT
 a5:=a0J
 z5:=pG
 v5:=qX
 t9:=er
 a9:=qO
 z9:=qm
 v9:=zn
 t22:=Tryz.underlying358
 a22:=Tryz.isAgg358
 z22:=Tryz.sizeOf358
 v22:=Tryz.zeroValue358
 t25:=Tryz.underlying362
 a25:=Tryz.isAgg362
 z25:=Tryz.sizeOf362
 v25:=Tryz.zeroValue362
 t39:=a0q
 a39:=Tryz.isAgg148
 z39:=aAm
 v39:=aBx
 t45:=Tryz.underlying205
 a45:=Tryz.isAgg205
 z45:=Tryz.sizeOf205
 v45:=Tryz.zeroValue205
 t46:=Tryz.underlying206
 a46:=Tryz.isAgg206
 z46:=Tryz.sizeOf206
 v46:=Tryz.zeroValue206
 t50:=Tryz.underlying47
 a50:=Tryz.isAgg47
 z50:=Tryz.sizeOf47
 v50:=Tryz.zeroValue47
 t53:=aBa
 a53:=Tryz.isAgg212
 z53:=aEF
 v53:=a2a
 t55:=Tryz.underlying214
 a55:=Tryz.isAgg214
 z55:=Tryz.sizeOf214
 v55:=Tryz.zeroValue214
 t66:=Tryz.underlying279
 a66:=Tryz.isAgg279
 z66:=Tryz.sizeOf279
 v66:=Tryz.zeroValue279
 t70:=Tryz.underlying283
 a70:=Tryz.isAgg283
 z70:=Tryz.sizeOf283
 v70:=Tryz.zeroValue283
 t76:=Tryz.underlying305
 a76:=Tryz.isAgg305
 z76:=Tryz.sizeOf305
 v76:=Tryz.zeroValue305
 t77:=Tryz.underlying306
 a77:=Tryz.isAgg306
 z77:=Tryz.sizeOf306
 v77:=Tryz.zeroValue306 }
end Go.Proofs
end
namespace Go.Proofs.YtkkdimcnpacjhaaGreat
open Go.Proofs.Tryz
section
open Go.RowKit Go.Sort
section
variable {α:Type}
def cV (le:α->α->Ad) (x:α):A8 α->A8 α
 | []=>[x]
 |y::l=>bif le x y then x::y::l else y::cV le x l
def Me (le:α->α->Ad) (l:A8 α):A8 α:=l.foldr (cV le) []
def aO7 (le:α->α->Ad) (x:α):∀l,(cV le x l).Perm (x::l)
 | []=>.refl _
 |y::l=>by
  unfold cV;cases h:le x y with
  |true=>exact .refl _
  |false=>exact((aO7 le x l).cons y).trans (.swap x y l)
def Ux (le:α->α->Ad):∀l,(Me le l).Perm l
 | []=>.refl _
 |x::l=>(aO7 le x (Me le l)).trans ((Ux le l).cons x)
def aVt {le:α->α->Ad} (ht:∀x y z,le x y=true->le y z=true->le x z=true) (u:∀x y,le x y=false->le y x=true) (x:α):∀l,l.Pairwise (fun a b=>le a b=true)->(cV le x l).Pairwise (fun a b=>le a b=true)
 | [],_=>by simp[cV]
 |y::l,h=>by
  have h':=Po.1 h;unfold cV;cases q:le x y with
  |true=>
   refine Po.2 ⟨fun z j=>?_,h⟩;rcases F5.1 j with rfl|j
   ·exact q
   exact ht x y z q (h'.1 z j)
  |false=>
   refine Po.2 ⟨fun z j=>?_,aVt ht u x l h'.2⟩;rcases F5.1 ((aO7 le x l).mem_iff.1 j)with rfl|j
   ·exact u _ _ q
   exact h'.1 z j
def aA5 {le:α->α->Ad} (ht:∀x y z,le x y=true->le y z=true->le x z=true) (j:∀x y,le x y=false->le y x=true):∀l:A8 α,(Me le l).Pairwise (fun a b=>le a b=true)
 | []=>.nil
 |x::l=>aVt ht j x _ (aA5 ht j l)
def aQn {le:α->α->Ad} (ht:∀x y z,le x y=true->le y z=true->le x z=true) (j:∀x y,le x y=false->le y x=true) (ha:∀x y,le x y=true->le y x=true->x=y) {l m:A8 α} (hp:m.Perm l) (hs:m.Pairwise (fun a b=>le a b=true)):m=Me le l:=
 (hp.trans (Ux le l).symm).eq_of_pairwise (fun a b _ _ q u=>ha a b q u) hs (aA5 ht j l)
def aMt {e:α->D} {enc:α->A8 Aw} (j:∀x,(e x).cells=(enc x).map .lit):∀l:A8 α,flat (l.map e)=(l.flatMap enc).map fun v=>.d (.lit v)
 | []=>rfl
 |x::l=>by rw[JJ,UA,aMt j l,j,MC,Kw,YI];rfl
def wF {enc:α->A8 Aw} {k:Nat} (j:∀x,(enc x).length=k):∀l:A8 α,(l.flatMap enc).length=l.length*k
 | []=>Bj
 |x::l=>by rw[MC,EZ,j,wF j l,GZ,YG,aF8,Ue]
def aRm {e:α->D} {enc:α->A8 Aw} {k:Nat} (u:∀x,(e x).cells=(enc x).map .lit) (L:∀x,(enc x).length=k) (Y:∀x,∀v∈enc x,v.oneCell'=true) {ok:Nat->Prop} {w:Bc} {H:A8 CP} {h:CP} {T:CO} {l:A8 α}:
 FZ ok w H h (.arr T k (l.map e))↔h.size=k/\lG w T k h.v l.length (l.flatMap enc):=by
 have hl:=wF L l;constructor
 ·rintro⟨z,_,xs,q,I,M⟩;refine⟨z,?_⟩;rw[DY]at q
  have :xs=l.flatMap enc:=by
   rw[aMt u]at I M;rw[DY]at I;refine sW I fun i hi O=>?_;have U:=(M i a2S).2;simp only[List.getD,Ji,EK O,Ij,ML,EK hi]at U;cases U with |d _ _ h=>rw[EU.aes h]
  rw[←this];exact q
 rintro⟨z,q⟩;refine⟨z,fun x J=>?_,l.flatMap enc,by rw[DY];exact q,?_⟩
 ·obtain⟨n,_,rfl⟩:=FY.1 J;rw[u,DY,L]
 rw[aMt u];refine⟨Bj,fun i hi=>?_⟩;have j:i<(l.flatMap enc).length:=Gp
 simp only[List.getD,Ji,EK j,Ij,ML];refine⟨?_,.d _ _ (.lit _)⟩;obtain⟨x,_,J⟩:=XA.1 (Ej j);exact Y x _ J
def aTO {j:Bh Aw} (hs:j.size=2):j= #[j.getD 0 undef,j.getD 1 undef]:=by
 refine Z4 (by simp[hs]) fun i u q=>?_;simp at q;have :i=0\/i=1:=AB
 rcases this with rfl|rfl<;>simp[Array.getD,hs]
def El.aB3 {P:Cm} {f g:FuncId} {T:CO} {k:Nat} {e:α->D} {enc:α->A8 Aw} (L:∀x,(e x).cells=(enc x).map .lit) (hk:∀x,(enc x).length=k) (h1:∀x,∀v∈enc x,v.oneCell'=true) {l r:A8 α}
 (h:∀(v:Aw) (w:Bc),lG w T k v l.length (l.flatMap enc)->Calls P f #[v,.func (.func g) #[] #[]] w fun x w'=>x=.returned (.tuple #[])/\lG w' T k v r.length (r.flatMap enc)/\Turns v w w'):
 El P f [.aO 0,.d (.fn (.func g) [] [])] [.arr T k (l.map e)] (.eX []) [.arr T k (r.map e)]:=by
 intro ok X H w I hm hs ha;have h0:=ha 0 Bj;have M:=ha 1 Bj;rw[aTO hs];obtain⟨hd,Z,hok⟩:=H8 hm.ent hm.hlen (k:=0) rfl;obtain hv:=Oe h0 Z
 have hf:I.getD 1 undef=.func (.func g) #[] #[]:=by
  simp only[List.getD,a02,a2Z,ML]at M;generalize I.getD 1 undef=u at M;cases M with
  |d _ _ M=>
   cases M with
   |fn _ _ _ vs us hl hm'=>
    have e1:vs= #[]:=XY NJ;have e2:us= #[]:=XY (by simpa using hm');rw[e1,e2]
 rw[hv,hf];obtain⟨hz,how⟩:=(aRm L hk h1).1 hok;refine(h hd.v w how).mono ?_;rintro x w' ⟨rfl,O,ht⟩;have z:=fun b U=>hm.blk 0 _ hd b rfl rfl Z U
 have hg:=hm.change (ok':=ok) (H':=H) (w':=w') (es':=[.arr T k (r.map e)]) (fun c=>EF hd.v=some c) ht.os ht.tape ht.output ht.size ht.block (fun c L _=>⟨(z c L).1,(z c L).2.2⟩) (fun _ h=>h) (fun _ h=>.inl h) (.refl _) hm.hlen (by
  intro j e' h' q Y
  match j,q with
  |0,q=>
   simp at q;subst q;rw[Z]at Y;obtain rfl:=Dh Y;refine .inr ⟨(aRm L hk h1).2 ⟨hz,O⟩,fun _ b U=>⟨(z b U).1,VP (z b U).2.1 ht.size,(z b U).2.2,fun k' e'' h'' hne J=>?_⟩⟩
   match k',J with
   |0,_=>exact absurd rfl hne
   |k'+1,J=>simp at J
  |k+1,q=>simp at q)
 exact⟨_,ok,H,rfl,hg.1,.eX [] #[] rfl (fun i hi=>PY)⟩
end
section
variable {α:Type} [Inhabited α]
def aAT {enc:α->A8 Aw} {k:Nat} (j:∀x,(enc x).length=k) (l:A8 α):(flatK enc k l.toArray).toList=l.flatMap enc:=by
 have key:∀(l:A8 α) (t:Nat),t<l.length*k->(enc (l[t/k]?.getD default))[t % k]? =(l.flatMap enc)[t]? :=by
  intro l
  induction l with
  |nil=>intro t ht;simp at ht
  |cons x l z=>
   intro t ht;rw[GZ,YG,aF8]at ht;rw[MC];by_cases h:t<k
   ·rw[Nat.div_eq_of_lt h,Nat.mod_eq_of_lt h,Hf (by rw[j];exact h)];rfl
   have h':k<=t:=X7 h;rcases Z5 k with q|q
   ·subst q;simp at ht
   have I:t/k=(t-k)/k+1:=Nat.div_eq_sub_div q h';rw[I,Nat.mod_eq_sub_mod h',KX (by rw[j];exact h'),j,←z (t-k) AB,a02]
 refine sW (by simp[wF j]) fun t J L=>?_;have ht:t<l.length*k:=TL
 have :=key l t ht;rw[EK L]at this;have u:=get_flatK enc k l.toArray t a1S;rw[ZG _ _ a1S]at u;rw[Array.getElem_toList,u];have M:(l.toArray)[t/k]! =l[t/k]?.getD default:=Bj
 rw[M];simp[List.getElem!_eq_getElem?_getD,this]
end
def Jp (a b:Int):Int:=if a<b then -1 else if a>b then 1 else 0
def ZM (p q:Int×Int×Int):Int:=if p.2.1=q.2.1 then(if p.2.2=q.2.2 then Jp p.1 q.1 else Jp p.2.2 q.2.2)else Jp q.2.1 p.2.1
def xQ (a b:Int):Jp a b<0↔a<b:=by
 unfold Jp;split
 ·omega
 split<;>omega
def aZE (p q:Int×Int×Int):ZM p q<0↔q.2.1<p.2.1\/p.2.1=q.2.1/\(p.2.2<q.2.2\/p.2.2=q.2.2/\p.1<q.1):=by
 unfold ZM;split
 ·split
  ·rw[xQ];omega
  rw[xQ];omega
 rw[xQ];omega
def alf (a b:Int) (W:Bc):Calls Au 440 #[.int .i64 a,.int .i64 b] W fun e w'=>e=.returned (.int .i64 (Jp a b))/\w'=W:=by
 unfold Jp
 go_enter func440,Tryz.ntmps440
 go_wp2
 all_goals (go_ret;exact⟨rfl,rfl⟩)
set_option maxHeartbeats 1000000 in
def abq (r p1 p2 p3 q1 q2 q3:Int) (hr:r=if p2=q2 then(if p3=q3 then Jp p1 q1 else Jp p3 q3)else Jp q2 p2) (W:Bc):Calls Au 439 #[.agg #[.int .i64 p1,.int .i64 p2,.int .i64 p3],.agg #[.int .i64 q1,.int .i64 q2,.int .i64 q3]] W fun e w'=>e=.returned (.int .i64 r)/\∃q u,w'=grow (W.drewN q) u:=by
 have j:=alf;generalize Jp=c at j hr;have z:p2≠q2->c q2 p2=r:=fun h=>by rw[hr,Dk h]
 have I:p2=q2->p3≠q3->c p3 q3=r:=fun h k=>by rw[hr,DX h,Dk k]
 have J:p2=q2->p3=q3->c p1 q1=r:=fun h k=>by rw[hr,DX h,DX k]
 clear hr
 go_enter func439,Tryz.ntmps439
 go_wp2_with (go_at_call 440;refine(j _ _ _).mono ?_;rintro e w' ⟨rfl,rfl⟩)
 all_goals go_ret
 ·rename_i h;rw[z KC];exact⟨rfl,0,_,aKX⟩
 ·rename_i h k;rw[I KC (by simpa using k)];exact⟨rfl,0,_,aKX⟩
 rename_i h k;rw[J KC (by simpa using k)];exact⟨rfl,0,_,aKX⟩
def Le (p q:Int×Int×Int):Ad:= !decide (ZM q p<0)
def EvC (p q:Int×Int×Int):Le p q=true↔¬(p.2.1<q.2.1\/q.2.1=p.2.1/\(q.2.2<p.2.2\/q.2.2=p.2.2/\q.1<p.1)):=by
 unfold Le;rw[Ls,PX,aZE]
def aGo (x y z:Int×Int×Int) (h:Le x y=true) (k:Le y z=true):Le x z=true:=by
 rw[EvC]at *;omega
def aYc (x y:Int×Int×Int) (h:Le x y=false):Le y x=true:=by
 have h:¬Le x y=true:=by rw[h];decide
 rw[EvC]at *;omega
def aVj (x y:Int×Int×Int) (h:Le x y=true) (k:Le y x=true):x=y:=by
 rw[EvC]at *;obtain⟨j,q,u⟩:=x;obtain⟨z,I,J⟩:=y;simp only[NT]at *;omega
def aUw (p q:Int×Int×Int):Le p q=false↔(p.2.1<q.2.1\/q.2.1=p.2.1/\(q.2.2<p.2.2\/q.2.2=p.2.2/\q.1<p.1)):=by
 rw[←PO,EvC,Decidable.not_not]
def ajD (x y z:Int×Int×Int) (h:Le y x=false) (k:Le z y=false):Le z x=false:=by
 rw[aUw]at *;omega
section
variable {α:Type}
def aF5 (f:α->Int×Int×Int) (l:A8 α):AO (A8 α):=if l.length<=1099511627776 then some (Me (fun x y=>Le (f x) (f y)) l)else none
def Py (f:α->Int×Int×Int) (x:α):A8 Aw:=[.int .i64 (f x).1,.int .i64 (f x).2.1,.int .i64 (f x).2.2]
def aYt (f:α->Int×Int×Int) (x:α):(Py f x).length=3:=rfl
def aVH (f:α->Int×Int×Int) (x:α):∀v∈Py f x,v.oneCell'=true:=fun v j=>by
 simp[Py]at j;rcases j with rfl|rfl|rfl<;>rfl
def aEC (f:α->Int×Int×Int) (x y:α):ltOf (fun x y=>ZM (f x) (f y)) x y= !Le (f y) (f x):=by simp[ltOf,Le]
def ai3 (f:α->Int×Int×Int):SWO (ltOf fun x y:α=>ZM (f x) (f y)):=by
 refine⟨fun x=>?_,fun x y z h k=>?_,fun x y z h k=>?_⟩
 ·rw[aEC,(EvC (f x) (f x)).2 AB];rfl
 ·rw[aEC,Ls]at *;exact ajD _ _ _ h k
 rw[aEC,Bool.not_eq_false']at *;exact aGo _ _ _ k h
variable [Inhabited α]
def acE (f:α->Int×Int×Int) (blk off size:Nat) (w:Bc):CmpLays Au 439 #[] (Py f) 3 (fun x y=>ZM (f x) (f y)) blk off size w:=
 fun m os j _ x y=>abq (ZM (f x) (f y)) (f x).1 (f x).2.1 (f x).2.2 (f y).1 (f y).2.1 (f y).2.2 rfl (sortWorldK (Py f) 3 w blk off m j os)
set_option maxHeartbeats 2000000 in
def atA (f:α->Int×Int×Int) (hf:∀x y,f x=f y->x=y) (e:α->D) (he:∀x,e x=.agg [Ag (f x).1,Ag (f x).2.1,Ag (f x).2.2]) (l r:A8 α) (h:aF5 f l=some r):
 BF 438 [.aO 0,.d (.fn (.func 439) [] [])] [.arr 360 3 (l.map e)] (.eX []) [.arr 360 3 (r.map e)]:=by
 unfold aF5 at h;split at h
 ·rename_i hn;obtain rfl:=Dh h;have U:=aYt f;refine El.aB3 (enc:=Py f) (fun x=>by rw[he];rfl) U (aVH f) fun v w how=>?_;generalize hr:Me (fun x y=>Le (f x) (f y)) l=r;have I:r.length=l.length:=by rw[←hr];exact(Ux _ l).length_eq
  rcases how.2 with⟨rfl,h0⟩|⟨g,cap,cur,rfl,hbase,hg,hnc,hcm,hcs,J⟩
  ·have hl:l=[]:=Hw h0;have hl':r=[]:=Hw (by rw[I,h0]);subst hl;subst hl';refine(AnyF.slices_SortFunc_none (P:=Au) (ρ:=Tryz.ZB) { Tryz.atu with } none 0 _ w).mono ?_;rintro e w' ⟨rfl,h⟩;subst h;exact⟨rfl,lG.nil _ _ _,Turns.refl _ _⟩
  have Y:g<w.heap.size:=(Gl.1 hg).1;have q:=aAT (enc:=Py f) U l
  have hH:HoldsK (Py f) 3 w g 0 l.toArray:=by
   unfold HoldsK;have L:(flatK (Py f) 3 l.toArray).size=l.length*3:=Bj
   generalize flatK (Py f) 3 l.toArray=F at q L;intro j M;refine⟨?_,by simp[World.frozen?,hg]⟩;have e0:(cur.toList.take (l.length*3))[j]? =(l.flatMap (Py f))[j]? :=by rw[J]
   rw[MX AB,←q]at e0;simp only[World.cell?,hg,J3];simp only[Option.isSome_none,RU,KT];rw[←XZ,e0,XZ,ZG F j M,bQ M];rfl
  have eg:∀args w,(callFunc 439 args).run Au w=.ok (.enter 439 args) w:=enters_of func439 AA rfl;have :=AnyQ.slices_SortFunc (P:=Au) (ρ:=Tryz.ZB) Tryz.atu 3 Tryz.isAgg360 Tryz.sizeOf360 (Py f) U (aVH f) (fun x y=>ZM (f x) (f y)) (ai3 f) 439 #[] g 0 cap l.toArray w eg (acE f _ _ _ _) hH Y EN;refine this.mono ?_;rintro e' w' ⟨rfl,O,n,os,hp,hs,rfl⟩;obtain⟨Z,_,u⟩:=hp;have hsz':O.size=l.length:=by simpa using Z
  have e1:O.extract 0 l.toArray.size=O:=by rw[←Z];exact aBB
  rw[e1,aBB]at u
  have hm:O.toList=r:=by
   rw[←hr];refine aQn (le:=fun x y=>Le (f x) (f y)) (fun x y z=>aGo (f x) (f y) (f z)) (fun x y=>aYc (f x) (f y)) (fun x y h k=>hf _ _ (aVj (f x) (f y) h k)) u ?_;refine KN.2 fun i j hi M hij=>?_;have :=hs i j (Du _) hij (by simpa[hsz']using M);rw[aEC,ZG O i Gp,ZG O j aAR]at this;simpa using this
  obtain rfl:O=r.toArray:=by rw[←hm]
  have hF:=aAT (enc:=Py f) U r;have L:(flatK (Py f) 3 r.toArray).size=l.length*3:=by simp[I]
  generalize hFF:flatK (Py f) 3 r.toArray=F at hF L;refine⟨rfl,⟨by rw[wF U],.inr ⟨g,cap,putCells id 0 F cur,by rw[I],Du _,?_,AB,hcm,by simpa[putCells]using hcs,?_⟩⟩,⟨rfl,rfl,rfl,by simp[sortWorldK,putRowK],fun c hc hne=>?_⟩⟩
  ·unfold sortWorldK putRowK;rw[hFF,heap_grow_old _ _ WJ];simp[putRow,mapBlock,Sort.ahead,OH,hg,onCells]
  ·rw[←hF,I];apply bV;intro j;by_cases M:j<l.length*3
   ·have hjc:j<cur.size:=by have :=Jz 3 hnc;omega
    rw[MX M,XZ,XZ];have hjF:j<F.size:=AB
    simp[putCells,hjF,hjc]
   rw[aWK AB,J5 EN]
  unfold sortWorldK putRowK;rw[heap_grow_old _ _ aAs];have :g≠c:=fun e=>hne jd;simp[putRow,mapBlock,Sort.ahead,OH,this]
 cases h
end
end
end Go.Proofs.YtkkdimcnpacjhaaGreat
