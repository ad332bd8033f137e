/- Part 3 of what the laws' proofs lean on: states of the walk, typed functions of the program and their laws (short forms written by wip/shrink.py; no condition). -/
import Derived.Test.YtkkdimcnpacjhaaGreatRf2
set_option linter.defProp false
set_option linter.unnecessarySimpa false
set_option linter.unusedVariables false
set_option linter.unusedSimpArgs false
section
namespace Go.Proofs.YtkkdimcnpacjhaaGreat
open Go.RowKit
def Ce.freeze {C:EP} {ok:Nat→Prop} {H:List BN} {es:List Az} {w:World} (hm:Ce C ok H es w) {k:Nat} {e:Az} {hd:BN} (hk:es[k]? =some e) (hl:e.live=true) (O:H[k]? =some hd):Ce C (fun b=>ok b∨D6 hd.v=some b) H (es.set k .dead) w:=by
 have z:k<es.length:=(FI.1 hk).1;have L:=fun b q=>hm.blk k _ hd b hk hl O q;have hg:EN ok w (fun b=>ok b∨D6 hd.v=some b) w:=fun b q=>⟨.inl q,rfl⟩
 refine⟨hm.fr,fun b q=>.inl (hm.yV b q),?_,?_,hm.names,Zp,?_,?_,?_⟩
 ·rintro b (q|q)
  ·exact hm.yX b q
  exact .inr (L b q).2.2
 ·rintro b (q|q)
  ·exact hm.kN b q
  exact(L b q).2.1
 ·intro j e' h' he I;rcases LD z he with⟨rfl,rfl⟩|⟨_,J⟩
  ·trivial
  exact(hm.ent j e' h' J I).mono hg (.refl _) (fun _ _ _=>rfl)
 ·intro j e' h' b he M I q;rcases LD z he with⟨rfl,rfl⟩|⟨hne,J⟩
  ·cases M
  have h3:=hm.blk j e' h' b J M I q;refine⟨fun u=>?_,h3.2⟩;rcases u with u|u
  ·exact h3.1 u
  exact hne (hm.D8 j k e' _ h' hd b J hk M hl I O q u)
 intro i j e1 e2 h1 h2 b he1 he2 U Y hh1 hh2 hb1 hb2;rcases LD z he1 with⟨rfl,rfl⟩|⟨_,Z⟩
 ·cases U
 rcases LD z he2 with⟨rfl,rfl⟩|⟨_,alg⟩
 ·cases Y
 exact hm.D8 i j e1 e2 h1 h2 b Z alg U Y hh1 hh2 hb1 hb2
section
variable {P : Program} {o : Oper} {es : List Az}
def adT {t L M:TypeId} {x:Operand} {k:Nat} {m:List (Value×D)} (ht:P.underlying t=some (.map L M)) (O:es[k]? =some (.map m)) (ho:o.op=.range t x):BR P o [(x,.mp k)] es (.ptr es.length 0) (es.set k .dead++[.iter m []]):=
 .eff fun C ok H a w hm hn=>by
  obtain⟨hd,U,u⟩:=GR hm.ent hm.hlen O;obtain⟨b,ms,clock,Y,z,h3⟩:=u;have Z:=VH (hn (x,.mp k) Aw) U;simp only at Z;have hb:b<w.heap.size:=(GX.1 z).1;have m0:=hm.freeze O rfl U;have g0:EN ok w (fun c=>ok c∨D6 hd.v=some c) w:=fun c q=>⟨.inl q,rfl⟩
  have I:D6 hd.v=some b:=by rw[Y];rfl
  have g1:EN (fun c=>ok c∨D6 hd.v=some c) w (fun c=>ok c∨D6 hd.v=some c) (w.alloc (.mapIter (some b) clock #[] clock)):=fun c q=>⟨q,KE _ _ _ (m0.kN c q)⟩
  have J:En (fun c=>ok c∨D6 hd.v=some c) (w.alloc (.mapIter (some b) clock #[] clock)) (H++[⟨.pointer (some ⟨w.heap.size,0,none⟩),0⟩]) ⟨.pointer (some ⟨w.heap.size,0,none⟩),0⟩ (.iter m []):=
   ⟨w.heap.size,b,ms,clock, #[],rfl,jg _ _,.inr I,(KE _ _ _ hb).trans z,(h3.mono g0).mono g1,rfl,fun j i hj=>by simp at hj⟩
  obtain⟨m1,g2⟩:=m0.push (.mapIter (some b) clock #[] clock) ⟨.pointer (some ⟨w.heap.size,0,none⟩),0⟩ _ (aEP w) J;refine⟨.pointer (some ⟨w.heap.size,0,none⟩),_,_,_,.inl ?_,g0.trans g2,Names.push _ _,m1,.ptr _ _ w.heap.size 0 Pm⟩;have hr:=run_range_map (P:=P) w t L M b ms clock ht z;simp[execOp,ho,Z,Y,hr]
def born_inj {ok:Nat→Prop} {w:World} {es:List (Value×D)} {ms:Array MapEntry} {clock:Nat} (h:KZ ok w es ms clock) {i j:Nat} {m n:MapEntry} (hi:ms[i]? =some m) (u:ms[j]? =some n) (z:m.born=n.born):i=j:=by
 rcases gy i j with q|q|q
 ·have :=h.inc i j m n q hi u;omega
 ·exact q
 have :=h.inc j i n m q u hi;omega
def alB {ok:Nat→Prop} {w:World} {es:List (Value×D)} {ms:Array MapEntry} {clock:Nat} (h:KZ ok w es ms clock):(ms.toList.map (·.born)).Nodup:=by
 unfold List.Nodup;rw[IZ];intro i j hi q u;simp only[CB,Sm]at hi q;have z:ms[i]? =some ms[i]:=Tt
 have I:ms[j]? =some ms[j]:=ZX
 simp only[Oq,Array.getElem_toList];intro e;have :=born_inj h z I e;omega
def anz {K V:Type} {x:Operand} {n i:Nat} {ek:K→Value} {ev:V→D} {m:List (K×V)} {vis:List Nat} {p:K×V} (hp:m[i]? =some p) (he:es[n]? =some (.iter (m.map (Bv ek ev)) (vis++[i]))) (ho:o.op=.entry x):
 BR P o [(x,.ptr n 0)] es (.eF [.d (.lit (ek p.1)),.d (ev p.2)]) es:=
 .pure fun ok H a w u hl hn=>by
  obtain⟨hd,hh,I⟩:=GR u hl he;obtain⟨bi,M,ms,clock,seen,O,h2,h3,h4,U,h6,h7⟩:=I;have J:=hn (x,.ptr n 0) Aw;simp only at J;generalize hv:a.eval x=v at J;cases J with
  |ptr _ _ b' s Y=>
   rw[hh]at Y;obtain rfl:=CS Y;simp only[Value.pointer.injEq,LU,Addr.mk.injEq]at O;obtain⟨rfl,_⟩:=O;obtain⟨e,Z,q2⟩:=h7 vis.length i Aw;have L:(m.map (Bv ek ev))[i]? =some (Bv ek ev p):=by rw[JD,hp];rfl
   obtain⟨r1,r2,_⟩:=U.ent i _ e L Z;refine⟨.tuple #[e.key,e.val],?_,.eF _ _ rfl fun j hj=>?_⟩
   ·have q:seen.back?=some e.born:=by
     rw[Array.back?_eq_getElem?,h6];simpa using q2
    have z:e∈ms.toList:=by
     rw[Array.mem_toList_iff];exact Array.mem_of_getElem? Z
    have hf:ms.find? (·.born==e.born)=some e:=by rw[←Array.find?_toList];exact find_born e ms.toList (alB U) z
    have g1:(getObj b').run P w=.ok (.mapIter (some M) clock seen clock) w:=by simp[getObj,Sem.run,h2]
    have g2:(getObj M).run P w=.ok (.map ms clock) w:=Rj h4;simp[execOp,ho,hv,Instr.entry,g1,g2,q,hf]
   match j,hj with
   |0,_=>rw[show([Aa.d (.lit (ek p.1)),.d (ev p.2)]:List Aa).getD 0 .junk=.d (.lit (ek p.1))from rfl,show(#[e.key,e.val]:Array Value).getD 0 undef=e.key from rfl,r1];exact .d _ _ (.lit _)
   |1,_=>exact .d _ _ r2
end
def ahi {P:Program} {w:World} {ok:Nat→Prop} {ty:TypeId} {bi Y clock:Nat} {seen:Array Nat} {ms:Array MapEntry} {es:List (Value×D)} (hi:w.heap[bi]? =some (.mapIter (some Y) clock seen clock)) (hb:w.heap[Y]? =some (.map ms clock)) (hM:KZ ok w es ms clock):
 ((leftOf ms seen).size=0∧(Instr.next (.pointer (some ⟨bi,0,none⟩)) false ty).run P w=.ok (.tuple #[.bool false]) w)∨
 ∃e∈(leftOf ms seen).toList,∃q:World,(q=w∨q=w.drew)∧(Instr.next (.pointer (some ⟨bi,0,none⟩)) false ty).run P w=.ok (.tuple #[.bool true,e.key,e.val]) (q.putObj bi (.mapIter (some Y) clock (seen.push e.born) clock)):=by
 have z:∀x∈ms.toList,x.born<clock:=fun x I=>by
  obtain⟨i,hi,rfl⟩:=G5 I;have J:i<ms.size:=G6
  have Z:i<es.length:=by rw[←hM.len];exact J
  have :=(hM.ent i es[i] ms[i] (by simp[Z]) (by simp[J])).2.2;simpa using this
 simp only[Instr.next,getObj,FD,Sem.run,hi,hb,Result.andThen,next_test_false seen ms clock clock z (Dn _),Qh,Jl];unfold leftOf;have u:∀x∈(Array.filter (fun e=> !seen.contains e.born) ms).toList,x.born<clock:=fun x I=>z x (by simp at I ⊢;exact I.1);generalize Array.filter (fun e=> !seen.contains e.born) ms=L at u ⊢;have e1:L.filter (fun x=>decide (x.born<clock))=L:=Array.filter_eq_self.2 (fun x I=>by simpa using u x Rf)
 have e2:L.filter (fun x=>decide (x.born≥clock))= #[]:=by
  rw[Array.filter_eq_empty_iff];intro x I;have :=u x Rf;simp;omega
 simp only[e1,e2,Array.append_empty];by_cases h0:L.size=0
 ·left;have :L= #[]:=W9 h0;subst this;refine⟨rfl,?_⟩;simp[choose,Sem.run,Question.forced]
 right;have hne:L.isEmpty=false:=by simp[Array.isEmpty,h0]
 simp only[hne,Qh,Jl,Array.empty_append,Array.size_map]
 have hch:∃(j:Nat) (q:World),j<L.size∧(q=w∨q=w.drew)∧(choose (Question.mapNext L.size)).run P w=.ok j q:=by
  by_cases hf:L.size≤1
  ·exact⟨0,w,AA,.inl rfl,by simp[choose,Sem.run,Question.forced,hf]⟩
  exact⟨_,w.drew,jU _ AA,.inr rfl,by
   simp only[choose,Sem.run,Question.forced,GN,hf,Jl,Question.cut]
   rfl⟩
 obtain⟨j,q,hj,M,O⟩:=hch;refine⟨L[j],Aw,q,M,?_⟩;have hi1:q.heap[bi]? =some (.mapIter (some Y) clock seen clock):=by rcases M with rfl|rfl<;>exact hi
 have U:∀(o':Obj),(setObj bi o').run P q=.ok () (q.putObj bi o'):=fun o'=>by simp[setObj,Sem.run,hi1,World.putObj]
 simp only[O,Array.getElem?_map,aC hj,IV,FD,U,Result.andThen];rfl
section
variable {P : Program} {ops : Array Oper} {o : Oper} {rest l : List Oper} {σ : Ak} {Q : Exit → Ak → Prop} {K V : Type}
def acf {ms:Array MapEntry} {seen:Array Nat} {e:MapEntry} (h:e∈(leftOf ms seen).toList):e∈ms.toList∧e.born∉seen:=by
 unfold leftOf at h;simp at h;exact⟨by simpa using h.1,h.2⟩
def Ch.next {ek:K→Value} {ev:V→D} {x:Operand} {ty:Bool} (n:Nat) (m:List (K×V)) (vis:List Nat) (hn:σ.ents[n]? =some (.iter (m.map (Bv ek ev)) vis)) (ho:o.op=.next x false) (hx:σ.get x=.ptr n 0) (hg:Ja ops σ o.guard=some true)
 (h0:(∀i,i<m.length→i∈vis)→Ch P ops rest (σ.rQ o.dst (.eF [.d (EC false)])) Q)
 (h1:∀i p,m[i]? =some p→i∉vis→Ch P ops rest (σ.put o.dst (.eF [.d (EC true),.d (.lit (ek p.1)),.d (ev p.2)]) (σ.ents.set n (.iter (m.map (Bv ek ev)) (vis++[i])))) Q):Ch P ops (o::rest) σ Q:=by
 refine⟨fun ro l2 Q' C ok H a w z hk=>?_⟩;show wpListIn (Iz ro) 0 P ops Q' (o::(rest++l2)) a w;unfold wpListIn;rw[CP (PS z (MR hg))];have hv:=hx▸z.get x;obtain⟨hd,Z,hent⟩:=GR z.mem.ent z.mem.hlen hn;obtain⟨bi,L,ms,clock,seen,q1,q2,q3,q4,q5,q6,q7⟩:=hent
 have J:a.eval x=.pointer (some ⟨bi,0,none⟩):=by
  generalize a.eval x=v at hv;cases hv with
  |ptr _ _ b' s hH=>
   rw[Z]at hH;obtain rfl:=CS hH;simp only[Value.pointer.injEq,LU,Addr.mk.injEq]at q1;obtain⟨rfl,_⟩:=q1;rfl
 have hlen:ms.size=m.length:=by rw[q5.len,CB]
 unfold Oper.wpIn;rw[iE _ _ _ (by rw[ho];intro c h;cases h)];rcases ahi (P:=P) (ty:=o.type) q2 q4 q5 with⟨hs,hr⟩|⟨e,M,w1,hw1,hr⟩
 ·have he:(execOp a.eval o).run P w=.ok (.value (.tuple #[.bool false])) w:=by simp[execOp,ho,J,hr]
  rw[he];refine⟨fun _ _=>trivial,?_⟩
  refine(h0 fun i hi=>?_).run ro l2 Q' C ok H _ w (z.put o.dst (.refl _ _) (.refl _) z.mem (.eF _ _ rfl fun j q=>by
   match j,q with
   |0,_=>exact .d _ _ (.lit _))) hk
  have O:i<ms.size:=AA
  have hnot:ms[i]∉(leftOf ms seen).toList:=by
   have :leftOf ms seen= #[]:=W9 hs;rw[this];simp
  have hin:ms[i].born∈seen:=by
   apply Yv;intro hc;refine hnot ?_;unfold leftOf;simp[hc]
  obtain⟨j,q,U⟩:=Array.getElem_of_mem hin;have hjv:j<vis.length:=AA
  obtain⟨e,r1,r2⟩:=q7 j vis[j] (by simp[hjv])
  have hb:e.born=ms[i].born:=by
   have e3:seen[j]? =some seen[j]:=ZX
   rw[e3,U]at r2;exact(CS r2).symm
  have :=born_inj q5 r1 (show ms[i]? =some ms[i] by simp[O]) hb;rw[←this];simp
 have he:(execOp a.eval o).run P w=.ok (.value (.tuple #[.bool true,e.key,e.val])) (w1.putObj bi (.mapIter (some L) clock (seen.push e.born) clock)):=by simp[execOp,ho,J,hr]
 rw[he];refine⟨fun _ _=>trivial,?_⟩;obtain⟨aGw,hes⟩:=acf M;obtain⟨i,hi,hie⟩:=G5 aGw;have O:i<ms.size:=G6
 have Y:ms[i]? =some e:=by rw[←hie];simp[O]
 have him:i<m.length:=AA
 have hpe:(m.map (Bv ek ev))[i]? =some (Bv ek ev m[i]):=by simp[him]
 obtain⟨r1,r2,_⟩:=q5.ent i _ e hpe Y
 have aGx:i∉vis:=fun hc=>by
  obtain⟨j,q,U⟩:=G5 hc;obtain⟨e2,s1,s2⟩:=q7 j i (by simp[←U,q]);rw[Y]at s1;obtain rfl:=CS s1;exact hes (Array.mem_of_getElem? s2)
 have I:Ce C ok H σ.ents w1∧EN ok w ok w1:=by
  rcases hw1 with rfl|rfl
  ·exact⟨z.mem,.refl _ _⟩
  exact z.mem.drew
 have hi1:w1.heap[bi]? =some (.mapIter (some L) clock seen clock):=by rcases hw1 with rfl|rfl<;>exact q2
 have u:w1.heap[L]? =some (.map ms clock):=(I.2 L q3).2.trans q4;have hne:L≠bi:=fun e=>by rw[e,hi1]at u;cases u
 obtain⟨m2,g2⟩:=I.1.ajG (o:=.mapIter (some L) clock (seen.push e.born) clock) (e':=.iter (m.map (Bv ek ev)) (vis++[i])) hn rfl Z (by rw[q1];rfl)
  (fun g=>⟨bi,L,ms,clock,seen.push e.born,q1,X6 (GX.1 hi1).1,q3,(Xr hne).trans u,(q5.mono I.2).mono g,by simp[q6],fun j i' q=>by
   by_cases hjl:j<vis.length
   ·rw[GZ hjl]at q;obtain⟨e2,s1,s2⟩:=q7 j i' q;exact⟨e2,s1,by rw[Array.getElem?_push_lt AA];simpa[aC (show j<seen.size by omega)]using s2⟩
   have hj2:j=vis.length:=by
    have :=(FI.1 q).1;simp at this;omega
   subst hj2;simp at q;subst q
   exact⟨e,Y,by rw[←q6];simp⟩⟩)
 have g3:=I.2.trans g2
 have hp:=(h1 i m[i] (by simp[him]) aGx).run ro l2 Q' C ok H (a.put o.dst (.tuple #[.bool true,e.key,e.val])) _ (z.put o.dst (x:=.eF [.d (EC true),.d (.lit (ek m[i].1)),.d (ev m[i].2)]) g3 (.refl _) m2 (.eF _ _ rfl fun j q=>by
  match j,q with
  |0,_=>exact .d _ _ (.lit _)
  |1,_=>
   show R ok _ H (.d (.lit (ek m[i].1))) e.key;rw[r1];exact .d _ _ (.lit _)
  |2,_=>exact .d _ _ (r2.mono g3))) hk
 exact hp
def AV.aCT {A Rr:Type} {cd:Code} (S:List Nat→A→Ak) (m:List (K×V)) (step:A→K×V→Option A) (Kf:A→Option Rr) (r:Rr) (a0:A) (hs:CW σ (S [] a0))
 (L:∀vis:List Nat,vis.Nodup→(∀i,i∈vis↔i<m.length)→((vis.filterMap fun(i:Nat)=>m[i]?).foldlM step a0).bind Kf=some r)
 (round:∀(J:Ak→Prop) (vis:List Nat) (a:A),((∀i,i<m.length→i∈vis)→Kf a=some r)→(∀i p,m[i]? =some p→i∉vis→∃a',step a p=some a'∧∀s,CW s (S (vis++[i]) a')→J s)→AV P cd (S vis a) (Kw J Q)):AV P (.loop cd) σ Q:=by
 have U:∀vis:List Nat,vis.Nodup→(∀i∈vis,i<m.length)→∃rest,(vis++rest).Nodup∧(∀i,i∈vis++rest↔i<m.length):=fun vis q u=>by
  refine⟨(List.range m.length).filter fun i=> !vis.contains i,?_,fun i=>?_⟩
  ·refine yJ.2 ⟨q,List.Pairwise.filter _ List.nodup_range,fun a ha b Y e=>?_⟩;subst e;rw[FN]at Y;simp[ha]at Y
  rw[Hl,FN];constructor
  ·rintro(h|h)
   ·exact u i h
   simpa using h.1
  intro h;by_cases hc:i∈vis
  ·exact .inl hc
  exact .inr ⟨J3,by simp[hc]⟩
 refine AV.loop (fun n s=>∃vis a,n=m.length-vis.length∧vis.Nodup∧(∀i∈vis,i<m.length)∧(vis.filterMap fun(i:Nat)=>m[i]?).foldlM step a0=some a∧CW s (S vis a)) (m.length) ⟨[],a0,Aw,aN,fun i h=>Ig,rfl,hs⟩ ?_;rintro n s ⟨vis,a,rfl,q,u,hf,M⟩;refine DR M (round _ vis a (fun hc=>?_) (fun i p hp hi=>?_))
 ·have :=L vis q (fun i=>⟨u i,hc i⟩);rw[hf]at this;exact this
 have him:i<m.length:=(FI.1 hp).1;have z:(vis++[i]).Nodup:=yJ.2 ⟨q,Aw,fun a ha b Y e=>by simp at Y;subst Y;subst e;exact hi ha⟩
 have I:∀j∈vis++[i],j<m.length:=fun j Z=>by
  rcases Hl.1 Z with h|h
  ·exact u j h
  simp at h;subst h;exact him
 obtain⟨rest,h1,h2⟩:=U (vis++[i]) z I;have h3:=L _ h1 h2;rw[cD,cD]at h3;simp only[Lr,aE1,hp,List.foldlM_append,Uj,List.foldlM_nil,hf,bind,pure,AP]at h3;cases hst:step a p with
 |none=>rw[hst]at h3;simp at h3
 |some a'=>
  refine⟨a',rfl,fun s hs=>⟨m.length-(vis++[i]).length,?_,vis++[i],a',rfl,z,I,?_,hs⟩⟩
  ·have :vis.length<m.length:=by
    have M:vis.length≤(List.range m.length).length:=by
     refine aXe q ?_;intro j Z;simpa using u j Z
    have O:(vis++[i]).length≤(List.range m.length).length:=by
     refine aXe z ?_;intro j Z;simpa using I j Z
    simp at O;omega
   simp;omega
  rw[cD,List.foldlM_append,hf];simp[hp,hst]
end
def akx {α:Type}:∀(m:List α) (vis:List Nat),vis.Nodup→(∀i,i∈vis↔i<m.length)→(vis.filterMap fun(i:Nat)=>m[i]?).Perm m:=fun m vis j q=>by
 have u:vis.Perm (List.range m.length):=by
  rw[List.perm_iff_count];intro a;rw[j.count,List.nodup_range.count];simp[q a]
 have z:((List.range m.length).filterMap fun(i:Nat)=>m[i]?)=m:=by
  apply bD;intro i
  have :∀(n:Nat),n≤m.length→((List.range n).filterMap fun(i:Nat)=>m[i]?)=m.take n:=by
   intro n
   induction n with
   |zero=>intro _;simp
   |succ n I=>
    intro L;rw[List.range_succ,cD,I AA];have hl:n<m.length:=AA
    simp[hl]
  rw[this m.length (Dn _),FW]
 have J:=u.filterMap (fun(i:Nat)=>m[i]?)
 rwa [z]at J
def aLQ {α β:Type} {c:α→Bool} {f:α→β} {b:Nat}:∀(l:List α) (v:List β),
 l.foldlM (fun v p=>bif c p then(Bo b v [f p]).bind fun x=>some x else some v) v=if(v.length+(l.filter c).length)*b≤140737488355328∨l.filter c=[]then some (v++(l.filter c).map f)else none
 | [],v=>Aw
 |p::l,v=>by
  rw[Uj];cases u:c p with
  |false=>
   have q:=aLQ (c:=c) (f:=f) (b:=b) l v;simp only[Am,bind,AP,q,Qy,u,Qh,Jl]
  |true=>
   simp only[BD,Qy,u,JV];have I:Bo b v [f p]=if(v.length+[f p].length)*b≤140737488355328 then some (v++[f p])else none:=rfl
   rw[I];by_cases j:(v.length+[f p].length)*b≤140737488355328
   ·rw[CP j];have q:=aLQ (c:=c) (f:=f) (b:=b) l (v++[f p]);simp only[AP,bind,q];have z:(v++[f p]).length+(l.filter c).length=v.length+(p::l.filter c).length:=DW
    rw[z];by_cases hl:l.filter c=[]
    ·rw[hl]at z ⊢;simp only[FV,L9]at j ⊢;simp[j]
    simp[hl]
   rw[CU j];simp only[Option.bind_none,bind];rw[CU];rintro(h|h)
   ·refine j (Ed (JR _ ?_) h);simp
   cases h
def anW {α β Rr:Type} {c:α→Bool} {f:α→β} {b:Nat} {u q:List α} {v:List β} {Kf:List β→Option Rr} {r:Rr} (hp:u.Perm q) (I:∀x y,x.Perm y→Kf x=Kf y)
 (h:(q.foldlM (fun v p=>bif c p then(Bo b v [f p]).bind fun x=>some x else some v) v).bind Kf=some r):
 (u.foldlM (fun v p=>bif c p then(Bo b v [f p]).bind fun x=>some x else some v) v).bind Kf=some r:=by
 rw[aLQ]at h ⊢;have j:=hp.filter c
 have e:((v.length+(u.filter c).length)*b≤140737488355328∨u.filter c=[])↔((v.length+(q.filter c).length)*b≤140737488355328∨q.filter c=[]):=by
  rw[j.length_eq];constructor
  ·rintro(h|h)
   ·exact .inl h
   exact .inr (by rw[h]at j;exact j.symm.eq_nil)
  rintro(h|h)
  ·exact .inl h
  exact .inr (by rw[h]at j;exact j.eq_nil)
 by_cases z:((v.length+(q.filter c).length)*b≤140737488355328∨q.filter c=[])
 ·rw[CP z]at h;rw[CP (e.2 z)];simp only[AP]at h ⊢;rw[←h];exact I _ _ ((j.map f).append_left v)
 rw[CU z]at h;cases h
section
variable {K V : Type} [BEq K]
def Fb :List (K×V)→K→Nat
 | [],_=>0
 |p::m,k=>bif k==p.1 then 0 else Fb m k+1
def aWe {ek:K→Value} {kd:TypeDesc} (hs:∀a b,Instr.sameNow kd (ek a) (ek b)=some (a==b)) (k:K) (v:V):∀(m:List (K×V)) (l:List MapEntry) (i:Nat),l.map (·.key)=m.map (fun p=>ek p.1)→
 (Instr.findNow kd (ek k) l i=some none∧CJ m k=none∧Ea m k v=m++[(k,v)]∧Fb m k=m.length)∨
 ∃e p,Instr.findNow kd (ek k) l i=some (some (i+Fb m k,e.val))∧l[Fb m k]? =some e∧m[Fb m k]? =some p∧CJ m k=some p.2∧(k==p.1)=true∧Ea m k v=m.set (Fb m k) (k,v)
 | [],[],_,_=>.inl ⟨rfl,rfl,rfl,rfl⟩
 | [],_::_,_,h=>Ig
 |_::_,[],_,h=>Ig
 |p::m,e::l,i,h=>by
  simp only[Ia,aMM]at h;cases j:(k==p.1)with
  |true=>
   refine .inr ⟨e,p,?_,?_,?_,?_,j,?_⟩
   ·simp[Instr.findNow,h.1,hs,j,Fb]
   ·simp[Fb,j]
   ·simp[Fb,j]
   ·simp[CJ,j]
   simp[Ea,Fb,j]
  |false=>
   rcases aWe hs k v m l (i+1) h.2 with⟨q,u,z,I⟩|⟨e',J,q,u,z,I,L,M⟩
   ·refine .inl ⟨?_,?_,?_,?_⟩
    ·simp[Instr.findNow,h.1,hs,j,q]
    ·simp[CJ,j,u]
    ·simp[Ea,j,z]
    simp[Fb,j,I]
   refine .inr ⟨e',J,?_,by simpa[Fb,j]using u,by simpa[Fb,j]using z,?_,L,?_⟩
   ·simp[Instr.findNow,h.1,hs,j,q,Fb];omega
   ·simp[CJ,j,I]
   simp[Ea,j,M,Fb]
def aWh (k:K) (v:V):∀m:List (K×V),(Ea m k v)[Fb m k]? =some (k,v)
 | []=>rfl
 |p::m=>by
  cases j:(k==p.1)with
  |true=>simp[Ea,Fb,j]
  |false=>simp[Ea,Fb,j,aWh k v m]
def aTE (k:K) (v u:V):∀m:List (K×V),(Ea m k v).set (Fb m k) (k,u)=Ea m k u
 | []=>rfl
 |p::m=>by
  cases j:(k==p.1)with
  |true=>simp[Ea,Fb,j]
  |false=>simp[Ea,Fb,j,aTE k v u m]
end
section
variable {ok : Nat → Prop} {w : World} {es : List (Value × D)} {ms : Array MapEntry} {clock : Nat}
def RQ.nil:RQ #[] 0:=⟨rfl,fun i e h=>Ig⟩
def RQ.push (h:RQ ms clock) {k v:Value}:RQ (ms.push { key:=k,val:=v,born:=clock }) (clock+1):=by
 refine⟨by simp[h.1],fun i e j=>?_⟩;rw[aMn]at j;split at j
 ·rename_i q;obtain rfl:=CS j;rw[q];exact h.1
 exact h.2 i e j
def RQ.modify (h:RQ ms clock) (j:Nat) (f:MapEntry→MapEntry) (u:∀e,(f e).born=e.born):RQ (ms.modify j f) clock:=by
 refine⟨by simp[h.1],fun i e q=>?_⟩;rw[NY]at q;split at q
 ·rw[SI]at q;obtain⟨z,I,rfl⟩:=q;rw[u];exact h.2 i z I
 exact h.2 i e q
def RQ.find (h:RQ ms clock) {n:Nat} (q:n<ms.size):ms.findIdx? (fun e=>(e.born:Int)==(n:Int))=some n:=by
 rw[Array.findIdx?_eq_some_iff_getElem];refine⟨q,?_,fun j u=>?_⟩
 ·have :=h.2 n ms[n] ZX;simp[this]
 have :=h.2 j ms[j] (by simp[Nat.lt_trans u q]);simp[this];omega
def akw (ms:Array MapEntry) (j:Nat) (k v:Value) (q:∀e,ms[j]? =some e→e.key=k):(ms.modify j fun e=>{ e with val:=v })=ms.modify j fun e=>{ e with key:=k,val:=v }:=by
 apply oC;intro i;rw[NY,NY];split
 ·rename_i e;subst e;cases hm:ms[j]? with
  |none=>rfl
  |some e=>simp[q e hm]
 rfl
def al6 (ms:Array MapEntry) (j:Nat) (k v:Value) (q:∀e,ms[j]? =some e→e.val=v):(ms.modify j fun e=>{ e with key:=k })=ms.modify j fun e=>{ e with key:=k,val:=v }:=by
 apply oC;intro i;rw[NY,NY];split
 ·rename_i e;subst e;cases hm:ms[j]? with
  |none=>rfl
  |some e=>simp[q e hm]
 rfl
end
section
variable {P : Program} {o : Oper} {es : List Az} {K V : Type} [BEq K]
def aie {t:TypeId} {j:Array (Nat×Operand)} {q:List (Nat×Nat)} {z:Value} {cs:List Aa} (u:JB P t q z) (vs:List Aa) (I:Jz (fun(i:Nat)=>q[i]?) (FU z) j.toList vs=cs) (hp:NK (fun(i:Nat)=>q[i]?) (FU z).length j.toList vs=true) (J:o.op=.build t j):
 BR P o (Nl j.toList vs) es (.ag cs) es:=I▸ahl u vs hp J
def PK (x y:Int):Int:=bif decide (y>x)then y else x
def aU3 {x y:Operand} {ats:Array TypeId} {kd:IntKind} {a b:Int} (z:o.op=.call { callee:=.builtin .max,args:= #[x,y],argTypes:=ats }):
 BR P o [(x,.d (.lit (.int kd a))),(y,.d (.lit (.int kd b)))] es (.d (.lit (.int kd (PK a b)))) es:=
 .pure fun ok H c w _ _ j=>by
  have q:=(Eh j).1.lit;have u:=(Eh j).2.lit;simp only at q u;have e:PK a b=if b>a then b else a:=by unfold PK;by_cases h:b>a<;>simp[h]
  refine⟨.int kd (PK a b),?_,.d _ _ (.lit _)⟩;rw[e];simp[execOp,z,resolve,invoke,builtin,q,u,Go.run_max_int2]
def aMQ {t:TypeId} (u:o.op=.makeMap t none):BR P o [] es (.mp es.length) (es++[.gZ []]):=
 .eff fun C ok H a w hm M=>by
  have q:En ok (w.alloc (.map #[] 0)) (H++[⟨.map (some w.heap.size),0⟩]) ⟨.map (some w.heap.size),0⟩ (.gZ []):=
   ⟨w.heap.size, #[],0,rfl,(aHN w _).1,⟨rfl,fun i e m z=>xw,fun i j m n _ hm=>by simp at hm⟩,.nil⟩
  obtain⟨I,J⟩:=hm.push (.map #[] 0) ⟨.map (some w.heap.size),0⟩ _ (fun b q=>aNh) q;refine⟨.map (some w.heap.size),_,ok,_,.inl ?_,J,Names.push _ _,I,.mp _ _ 0 rfl Pm⟩;have L:(newObj (.map #[] 0)).run P w=.ok w.heap.size (w.alloc (.map #[] 0)):=rfl;simp[execOp,u,Instr.makeMap,L]
def aBq {t J L:TypeId} {x y:Operand} {k:Nat} {ek:K→Value} (ev:V→D) (M:V) {z:Value} {m:List (K×V)} {key:K} (ht:P.underlying t=some (.map J L)) (Z:KeyTy P J ek) (hz:(P.info? L).bind (·.zero)=some z) (q:dB z=ev M) (u:z.cells.all (·.oneCell')=true)
 (he:es[k]? =some (.gZ (m.map (Bv ek ev)))) (ho:o.op=.lookup t x y false):BR P o [(x,.mp k),(y,.d (.lit (ek key)))] es (.d (ev ((CJ m key).getD M))) es:=
 .pure fun ok H a w j hl O=>by
  obtain⟨hd,hh,I⟩:=GR j hl he;obtain⟨b,ms,clock,h1,h2,h3,_⟩:=I;have U:=VH (Eh O).1 hh;have Y:=(Eh O).2.lit;simp only at U Y;obtain⟨v,hr,hv⟩:=aHo (key:=key) ev ht Z hz q u h2 h3 false;refine⟨v,?_,.d _ _ hv⟩;simp[execOp,ho,U,Y,h1,hr]
def vO {C:EP} {ok:Nat→Prop} {H:List BN} {w:World} (hm:Ce C ok H es w) {k:Nat} {es0 u:List (Value×D)} {b clock j:Nat} {ms q:Array MapEntry} {hd:BN} (J:es[k]? =some (.gZ es0)) (L:H[k]? =some hd) (z:hd.v=.map (some b)) (I:w.heap[b]? =some (.map ms clock))
 (M:KZ ok w u q j) (O:RQ q j):(setObj b (.map q j)).run P w=.ok () (w.putObj b (.map q j))∧Ce C ok H (es.set k (.gZ u)) (w.putObj b (.map q j))∧EN ok w ok (w.putObj b (.map q j)):=by
 refine⟨by simp[setObj,Sem.run,I,World.putObj],hm.ajG J rfl L pG fun U=>⟨b,q,j,z,X6 (GX.1 I).1,M.mono U,O⟩⟩
def afj {t kt vt:TypeId} {x y u:Operand} {k:Nat} {ek:K→Value} (ev:V→D) {m:List (K×V)} {key:K} {val:V} (ht:P.underlying t=some (.map kt vt)) (J:KeyTy P kt ek) (U:es[k]? =some (.gZ (m.map (Bv ek ev)))) (ho:o.op=.mapUpdate t x y u):
 BR P o [(x,.mp k),(y,.d (.lit (ek key))),(u,.d (ev val))] es .junk (es.set k (.gZ ((Ea m key val).map (Bv ek ev)))):=
 .eff fun C ok H a w hm Y=>by
  obtain⟨hd,Z,hok⟩:=GR hm.ent hm.hlen U;obtain⟨b,ms,clock,L,M,O,h4⟩:=hok;have hx:=VH (Y (x,.mp k) Aw) Z;have hy:=(Y (y,.d (.lit (ek key))) Aw).lit;have hu:Dk ok w (ev val) (a.eval u):=by have :=Y (u,.d (ev val)) Aw;cases this with |d _ _ h=>exact h
  simp only at hx hy;obtain⟨kd,q,hs⟩:=J.same;have hks:ms.toList.map (·.key)=m.map (fun p=>ek p.1):=by rw[O.keys];simp[Bv,wo]
  have z:=J.check;rcases aDn (i:=0) hs key val m ms.toList hks with⟨q1,_,q3⟩|⟨j,e,p,q1,q2,q3,_,q5,q6⟩
  ·have hM:=O.push (k:=ek key) hu;obtain⟨r1,r2,r3⟩:=vO (P:=P) hm U Z L M hM h4.push;refine⟨undef,_,ok,H,.inr ⟨rfl,?_⟩,r3,.refl _,?_,.junk _⟩
   ·simp[execOp,ho,hx,hy,L,Instr.mapUpdate,underlying,ht,Rj M,z,Instr.findKey,q,q1,r1]
   rw[q3,KO];exact r2
  have hM:=O.modify (k:=ek key) hu j;obtain⟨r1,r2,r3⟩:=vO (P:=P) hm U Z L M hM (h4.modify j _ fun _=>rfl)
  have I:e.key=ek key:=by
   have h5:(m.map (Bv ek ev))[j]? =some (Bv ek ev p):=by rw[JD,q3];rfl
   rw[(O.ent j _ e h5 xF).1,J.eq _ _ q5];rfl
  have hst:∀w,(Instr.keyThatStays (ek key) (ek key)).run P w=.ok (ek key) w:=fun w=>by simp[Instr.keyThatStays,J.bits]
  have hms:ms[j]? =some e:=xF
  refine⟨undef,_,ok,H,.inr ⟨rfl,?_⟩,r3,.refl _,?_,.junk _⟩
  ·simp[execOp,ho,hx,hy,L,Instr.mapUpdate,underlying,ht,Rj M,z,Instr.findKey,q,q1,hms,I,hst,r1]
  rw[q6,zl];exact r2
def aLY {t kt vt:TypeId} {x y:Operand} {k:Nat} {ek:K→Value} (ev:V→D) (J:V) {z:Value} {m:List (K×V)} {key:K} (ht:P.underlying t=some (.map kt vt)) (hk:KeyTy P kt ek) (hz:(P.info? vt).bind (·.zero)=some z) (hzv:dB z=ev J) (hzl:z.cells.all (·.oneCell')=true)
 (he:es[k]? =some (.gZ (m.map (Bv ek ev)))) (ho:o.op=.mapEntry t x y):
 BR P o [(x,.mp k),(y,.d (.lit (ek key)))] es (.eF [.d (ev ((CJ m key).getD J)),.d (Ad (Fb m key:Nat))]) (es.set k (.gZ ((Ea m key ((CJ m key).getD J)).map (Bv ek ev)))):=
 .eff fun C ok H a w hm hn=>by
  obtain⟨hd,hh,hok⟩:=GR hm.ent hm.hlen he;obtain⟨b,ms,clock,h1,h2,L,h4⟩:=hok;have hx:=VH (Eh hn).1 hh;have hy:=(Eh hn).2.lit;simp only at hx hy;obtain⟨kd,M,hs⟩:=hk.same;have hks:ms.toList.map (·.key)=m.map (fun p=>ek p.1):=by rw[L.keys];simp[Bv,wo]
  have O:=hk.check;have hml:ms.size=m.length:=by have :=L.len;simpa using this
  obtain⟨i0,hi0,hz'⟩:=eS.1 hz;rcases aWe (i:=0) hs key ((CJ m key).getD J) m ms.toList hks with⟨q1,q2,q3,q4⟩|⟨e,p,q1,q2,q3,q4,q5,q6⟩
  ·have U:Dk ok w (ev ((CJ m key).getD J)) z:=by
    rw[q2];have :=aW2 (ok:=ok) (w:=w) hzl;rw[hzv]at this;exact this
   have hM:=L.push (k:=ek key) U;obtain⟨r1,r2,Y⟩:=vO (P:=P) hm he hh h1 h2 hM h4.push;refine⟨.tuple #[z,goInt clock],_,ok,H,.inl ?_,Y,.refl _,?_,.eF _ _ rfl fun i hi=>?_⟩
   ·simp[execOp,ho,hx,hy,h1,Instr.mapEntry,underlying,ht,Rj h2,O,Instr.findKey,M,q1,r1,zeroValue,typeInfo,hi0,hz']
   ·rw[q3,KO];exact r2
   match i,hi with
   |0,_=>
    have u:=U.mono Y;exact .d _ _ u
   |1,_=>
    have :goInt (clock:Nat)=.int .i64 (Fb m key:Nat):=by rw[q4,←hml,←h4.1];rfl
    show R ok _ H (.d (Ad (Fb m key:Nat))) (goInt clock);rw[this];exact .d _ _ (.lit _)
  have h5:(m.map (Bv ek ev))[Fb m key]? =some (Bv ek ev p):=by rw[JD,q3];rfl
  have j:ms[Fb m key]? =some e:=xF
  have q:=L.ent _ _ e h5 j;have U:Dk ok w (ev ((CJ m key).getD J)) e.val:=by rw[q4];exact q.2.1
  have hM:=L.modify (k:=ek key) U (Fb m key);have hmk:=al6 ms (Fb m key) (ek key) e.val (fun e' Z=>by rw[j]at Z;rw[←CS Z]);rw[←hmk]at hM;have hkey:e.key=ek key:=by rw[q.1,hk.eq _ _ q5];rfl
  obtain⟨r1,r2,Y⟩:=vO (P:=P) hm he hh h1 h2 hM (h4.modify _ _ fun _=>rfl);have hst:∀w,(Instr.keyThatStays (ek key) (ek key)).run P w=.ok (ek key) w:=fun w=>by simp[Instr.keyThatStays,hk.bits]
  have I:e.born=Fb m key:=h4.2 _ e j;refine⟨.tuple #[e.val,goInt (Fb m key:Nat)],_,ok,H,.inl ?_,Y,.refl _,?_,.eF _ _ rfl fun i hi=>?_⟩
  ·simp[execOp,ho,hx,hy,h1,Instr.mapEntry,underlying,ht,Rj h2,O,Instr.findKey,M,q1,j,hkey,hst,r1,I]
  ·rw[q6,zl];exact r2
  match i,hi with
  |0,_=>
   have u:=U.mono Y;exact .d _ _ u
  |1,_=>exact .d _ _ (.lit _)
def aHJ {t kt:TypeId} {x s u:Operand} {k:Nat} {ek:K→Value} (ev:V→D) {m:List (K×V)} {key:K} {z0 val:V} (hk:KeyTy P kt ek) (Y:es[k]? =some (.gZ ((Ea m key z0).map (Bv ek ev)))) (ho:o.op=.entryStore t x s u):
 BR P o [(x,.mp k),(s,.d (Ad (Fb m key:Nat))),(u,.d (ev val))] es .junk (es.set k (.gZ ((Ea m key val).map (Bv ek ev)))):=
 .eff fun C ok H a w hm L=>by
  obtain⟨hd,Z,M⟩:=GR hm.ent hm.hlen Y;obtain⟨b,ms,clock,h1,h2,O,h4⟩:=M;have hx:=VH (L (x,.mp k) Aw) Z;have hy:a.eval s=.int .i64 (Fb m key:Nat):=(L (s,.d (Ad (Fb m key:Nat))) Aw).lit;have hu:Dk ok w (ev val) (a.eval u):=by have :=L (u,.d (ev val)) Aw;cases this with |d _ _ h=>exact h
  simp only at hx;have j:=aWh key z0 m;have h5:((Ea m key z0).map (Bv ek ev))[Fb m key]? =some (Bv ek ev (key,z0)):=by rw[JD,j];rfl
  have q:Fb m key<ms.size:=by
   have h6:=(FI.1 j).1;have :=O.len;rw[CB]at this;omega
  have z:ms[Fb m key]? =some ms[Fb m key]:=ZX
  have I:=O.ent _ _ _ h5 z;have hM:=O.modify (k:=ek key) hu (Fb m key);have U:=akw ms (Fb m key) (ek key) (a.eval u) (fun e' J=>by rw[z]at J;rw[←CS J];exact I.1);rw[←U]at hM;obtain⟨r1,r2,r3⟩:=vO (P:=P) hm Y Z h1 h2 hM (h4.modify _ _ fun _=>rfl);refine⟨undef,_,ok,H,.inr ⟨rfl,?_⟩,r3,.refl _,?_,.junk _⟩
  ·simp[execOp,ho,hx,hy,h1,Instr.entryStore,Rj h2,asInt,asIntOf,h4.find q,r1]
  have e1:((Ea m key z0).map (Bv ek ev)).set (Fb m key) (ek key,ev val)=(Ea m key val).map (Bv ek ev):=by
   rw[←aTE key z0 val m,zl];rfl
  rw[←e1];exact r2
end
section
variable {P : Program} {σ : Ak} {Q : Exit → Ak → Prop} {c : Operand} {x y : Code}
def EH {A:Type} {b:Bool} {u v z:A} (h:(bif b then u else v)=z) (ht:u=z→AV P x σ Q) (j:v=z→AV P y σ Q) (q:σ.get c=.d (.lit (.bool b)):=by kernel_rfl):AV P (.cond c x y) σ Q:=
 AV.cond b q (fun e=>ht (aER e h)) (fun e=>j (aEl e h))
def CM {A:Type} {b:Bool} {u v z:A} (h:(bif b then u else v)=z) (ht:u=z→Q .normal σ) (j:v=z→AV P y σ Q) (q:σ.get c=.d (.lit (.bool b)):=by kernel_rfl):AV P (.cond c .skip y) σ Q:=EH h (fun e=>AV.skip (ht e)) j q
def BQ {A:Type} {b:Bool} {u v z:A} (h:(bif b then u else v)=z) (ht:u=z→AV P x σ Q) (j:v=z→Q .normal σ) (q:σ.get c=.d (.lit (.bool b)):=by kernel_rfl):AV P (.cond c x .skip) σ Q:=EH h ht (fun e=>AV.skip (j e)) q
end
section
variable {P : Program} {ops : Array Oper} {o : Oper} {rest : List Oper} {σ σ' : Ak} {K : Exit → Ak → Prop} {ns : List (Operand × Aa)} {x : Aa} {es' : List Az}
def Ch.f (h:BR P o ns σ.ents x es') (k:Ch P ops rest (σ.put o.dst x es') K) (j:(ns.map fun n=>σ.get n.1)=ns.map (·.2):=by kernel_rfl) (q:Ja ops σ o.guard=some true:=by kernel_rfl) (ht:(NM ns).all (tmpsOf o).contains=true:=by kernel_rfl):Ch P ops (o::rest) σ K:=Ch.e es' h k rfl j q ht
def Chain.f (h:BR P o ns σ.ents x es') (k:Chain P ops rest (σ.put o.dst x es') σ') (j:(ns.map fun n=>σ.get n.1)=ns.map (·.2):=by kernel_rfl) (q:Ja ops σ o.guard=some true:=by kernel_rfl):Chain P ops (o::rest) σ σ':=Chain.e es' h k rfl j q
def Et.f {rs:List Aa} {ess:List (List Az)} {bs:List Bool} (h:BR P o ns σ.ents x es') (k:Et P ops rest (σ.put o.dst x es') rs ess bs σ') (j:(ns.map fun n=>σ.get n.1)=ns.map (·.2):=by kernel_rfl) (q:Ja ops σ o.guard=some true:=by kernel_rfl)
 (ht:(NM ns).all (tmpsOf o).contains=true:=by kernel_rfl):Et P ops (o::rest) σ (x::rs) (es'::ess) (true::bs) σ':=Et.e es' h k rfl j q ht
end
def aTp {A:Type} {b:Bool} {u v z:A} (h:(bif b then u else v)=z):(b=true∧u=z)∨(b=false∧v=z):=by
 cases b with
 |true=>exact .inl ⟨rfl,h⟩
 |false=>exact .inr ⟨rfl,h⟩
def D9 {A:Type} {a b:A} (h:some a=some b):a=b:=CS h
def yj {α β γ:Type} {x:Option α} {y:α→Option β} {f:α→β→Option γ} {z:γ} (h:(x.bind fun a=>(y a).bind (f a))=some z):∃a,x=some a∧∃b,y a=some b∧f a b=some z:=by
 obtain⟨a,j,h⟩:=Dx h;obtain⟨b,q,h⟩:=Dx h;exact⟨a,j,b,q,h⟩
def aEo {α β γ δ:Type} {x:Option α} {y:α→Option β} {w:α→β→Option δ} {f:α→β→δ→Option γ} {z:γ} (h:(x.bind fun a=>(y a).bind fun b=>(w a b).bind (f a b))=some z):∃a,x=some a∧∃b,y a=some b∧∃d,w a b=some d∧f a b d=some z:=by
 obtain⟨a,j,b,q,h⟩:=yj h;obtain⟨d,u,h⟩:=Dx h;exact⟨a,j,b,q,d,u,h⟩
def AY {α β:Type} {x:Option α} {f:α→Option β} {z:β} {G:Prop} (h:x.bind f=some z) (k:∀a,x=some a→f a=some z→G):G:=by
 obtain⟨a,j,h⟩:=Dx h;exact k a j h
def DK {α β γ:Type} {x:Option α} {y:α→Option β} {f:α→β→Option γ} {z:γ} {G:Prop} (h:(x.bind fun a=>(y a).bind (f a))=some z) (k:∀a,x=some a→∀b,y a=some b→f a b=some z→G):G:=by
 obtain⟨a,j,b,q,h⟩:=yj h;exact k a j b q h
def kG {α β γ δ:Type} {x:Option α} {y:α→Option β} {w:α→β→Option δ} {f:α→β→δ→Option γ} {z:γ} {G:Prop} (h:(x.bind fun a=>(y a).bind fun b=>(w a b).bind (f a b))=some z) (k:∀a,x=some a→∀b,y a=some b→∀d,w a b=some d→f a b d=some z→G):G:=by
 obtain⟨a,j,b,q,d,u,h⟩:=aEo h;exact k a j b q d u h
section
variable {P : Program} {o : Oper} {es : List Az} {α : Type}
def Bc {x y:Operand} {t e:TypeId} {i:Int} {agg:Bool} {size:Nat} (enc:α→D) {l:List α} {a:α} (h:Ag l i=some a) (ht:P.underlying t=some (.slice e)) (j:EI P e agg size) (q:o.op=.indexAddr t x y) (hs:(enc a).cells.length=size:=by kernel_rfl):
 BR P o [(x,.d (BM enc l)),(y,.d (.lit (.int .i64 i)))] es (.d (.ref (enc a).cells 0)) es:=agD enc h ht j hs q
def Ei {t e:TypeId} {size q len:Nat} {z:Value} (hE:Gs P t e size q) (J:(P.info? e).bind (·.zero)=some z) (ys:List D) {j:Array (Nat×Operand)} (L:o.op=.buildSlice t len j) (M:z.cells.all (·.oneCell')=true:=by kernel_rfl) (u:z.cells.size=size:=by kernel_rfl) (hlen:Nat.ble (len*size) 16777216=true:=by kernel_rfl)
 (hp:NK (fun i=>some (i*size,size)) (len*size) j.toList (ys.map .d)=true:=by kernel_rfl) (O:Jz (fun i=>some (i*size,size)) (QX z (len*size)) j.toList (ys.map .d)=flat ys:=by kernel_rfl) (hl:ys.length=len:=by kernel_rfl) (I:ys.all (fun y=>decide (y.cells.length=size))=true:=by kernel_rfl):
 BR P o (Nl j.toList (ys.map .d)) es (.d (.sl ys)) es:=aWi hE J M u (Eo hlen) (ys.map .d) ys hp O hl I L
def Ti {t e:TypeId} {size q len:Nat} {z:Value} (hE:Gs P t e size q) (J:(P.info? e).bind (·.zero)=some z) (ys:List D) {j:Array (Nat×Operand)} (L:o.op=.buildSlice t len j) (M:z.cells.all (·.oneCell')=true:=by kernel_rfl) (u:z.cells.size=size:=by kernel_rfl) (hlen:Nat.ble (len*size) 16777216=true:=by kernel_rfl)
 (hp:NK (fun i=>some (i*size,size)) (len*size) j.toList (ys.map .d)=true:=by kernel_rfl) (O:Jz (fun i=>some (i*size,size)) (QX z (len*size)) j.toList (ys.map .d)=flat ys:=by kernel_rfl) (hl:ys.length=len:=by kernel_rfl) (I:ys.all (fun y=>decide (y.cells.length=size))=true:=by kernel_rfl):
 BR P o (Nl j.toList (ys.map .d)) es (.aY es.length) (es++[.arr e size ys]):=aKg hE J M u (Eo hlen) (ys.map .d) ys hp O hl I L
def Ch.aM {ops:Array Oper} {l:List Oper} {σ:Ak} {K:Exit→Ak→Prop} [T:Kn P] {M:Ak→Prop} (n:Nat) (k:M (SK (I7 T ops n l σ))) (hl:l.length=n:=by kernel_rfl) (h:(I7 T ops n l σ).isSome=true:=by kernel_rfl):Ch P ops l σ (Kw M K):=
 .a n (by rw[uZ (Xw hl)];exact .bT k) h
end
def Fp {A:Type} {b:Bool} {u v z:A} {G:Prop} (h:(bif b then u else v)=z) (j:b=true→u=z→G) (k2:b=false→v=z→G):G:=by
 rcases aTp h with⟨e,h⟩|⟨e,h⟩
 ·exact j e h
 exact k2 e h
def aiT {A:Type} (o:Option A) (f:A→Aa):Aa:=match o with
 |none=>.d (.lit (.pointer none))
 |some a=>f a
def am5 {A:Type} (o:Option A) (f:A→List Az):List Az:=match o with
 |none=>[]
 |some a=>f a
def eH {A B:Type} (o:Option A) (x:Option B) (f:A→Option B):Option B:=match o with
 |none=>x
 |some a=>f a
def aWx {A B:Type} {x z:Option B} {f:A→Option B} (h:eH none x f=z):x=z:=h
def aQa {A B:Type} {x z:Option B} {a:A} {f:A→Option B} (h:eH (some a) x f=z):f a=z:=h
section
variable {P : Program} {o : Oper} {es : List Az}
def aUr {t t':TypeId} {x y:Operand} {k off:Nat} (ht:P.underlying t=some (.pointer (P.pointee t))) (I:o.op=.binOp .eql t x y t'):BR P o [(x,.ptr k off),(y,.d (.lit (.pointer none)))] es (.d (EC false)) es:=
 .pure fun _ _ a w _ _ q=>⟨.bool false,by
  have j:=(Eh q).1;have z:=(Eh q).2.lit;simp only at j z;generalize J:a.eval x=u at j;cases j with
  |ptr _ _ b s M=>
   have L:(eqGuard .eql t x y (Value.pointer (some ⟨b,off,none⟩)) (.pointer none)).run P w=.ok () w:=by
    unfold eqGuard;simp[pure,Sem.run_pure']
   simp only[execOp,I,J,z,FD,L,FP,run_eql_pointer_nil w t _ ht,GI]
   rfl,.d _ _ (.lit _)⟩
def aa6 {t t':TypeId} {x y:Operand} (ht:P.underlying t=some (.pointer (P.pointee t))) (z:o.op=.binOp .eql t x y t'):BR P o [(x,.d (.lit (.pointer none))),(y,.d (.lit (.pointer none)))] es (.d (EC true)) es:=
 .pure fun _ _ a w _ _ j=>⟨.bool true,by
  have q:=(Eh j).1.lit;have u:=(Eh j).2.lit;simp only at q u
  have I:(eqGuard .eql t x y (Value.pointer none) (.pointer none)).run P w=.ok () w:=by
   unfold eqGuard;simp[pure,Sem.run_pure']
  simp only[execOp,z,q,u,FD,I,FP,run_eql_pointer_nil w t _ ht,GI]
  rfl,.d _ _ (.lit _)⟩
end
def aM5 :List ResultVar→Bool
 | []=>true
 | .tmp _::rs=>aM5 rs
 |_::_=>false
def aBp (σ:Ak):List ResultVar→List Aa
 | []=>[]
 | .tmp t::rs=>σ.slots.getD t .junk::aBp σ rs
 |_::rs=>.junk::aBp σ rs
def aX8 {P:Program} {σ:Ak}:∀{rs:List ResultVar},aM5 rs=true→ZE P σ rs (aBp σ rs)
 | [],_=>trivial
 | .tmp _::_,h=>⟨rfl,aX8 h⟩
def GK {P:Program} {σ:Ak} {rs:List ResultVar} {j:Aa} {E':List Az} (π:List (Nat×Bool)) (ha:aM5 rs=true:=by kernel_rfl) (q:Ug σ.base σ.ents π=true:=by kernel_rfl) (u:j=(kY (aBp σ rs)).back π:=by kernel_rfl) (z:E'=SB σ.ents π:=by kernel_rfl):
 ∃xs π,ZE P σ rs xs∧Ug σ.base σ.ents π=true∧j=(kY xs).back π∧E'=SB σ.ents π:=⟨_,π,aX8 ha,q,u,z⟩
def Xe :Nat→Nat→List (Nat×Nat×Nat)
 |0,_=>[]
 |n+1,x=>(x % 2048,x/2048 % 64,x/131072 % 2048)::Xe n (x/268435456)
def aMs :List (Nat×Nat×Nat)→List (List Nat)→Nat→List (List Nat)
 | [],N,_=>N
 |t::Tr,N,n=>bif Nat.beq t.2.2 n then aMs Tr (N++[t.2.1::N.getD t.1 []]) (n+1)else aMs Tr N n
def Ul (n x:Nat):List (List Nat):=aMs (Xe n x) [[]] 1
section
variable {P : Program} [T : Kn P] {id : Nat} {ops : Array Oper} {σ : Ak} {Q : Exit → Ak → Prop} {y : Code}
def AV.ay6 (L:List (Lc P)) (n x j:Nat) (q:AV P y (N8 T L ops σ ((Ul n x).getD j [])) Q) (hm:P.follows .mixedOrders=true:=by kernel_rfl) (u:ng ops (Ul n x) (Xe n x) [j]=true:=by kernel_rfl)
 (z:((Xe n x).map fun t=>WB T L ops (N8 T L ops σ ((Ul n x).getD t.1 [])) t.2.1)=(Xe n x).map fun t=>some (N8 T L ops σ ((Ul n x).getD t.2.2 []),Yg L t.2.1):=by kernel_rfl) (I:(Ul n x).getD 0 [0]=[]:=by kernel_rfl):AV P (.seq (.region id ops true) y) σ Q:=
 AV.aFp L _ _ j q hm u I z
def AV.asD (L:List (Lc P)) (n x:Nat) (F:List Nat) (j:Ak) (q:QI (fun k=>qW (N8 T L ops σ ((Ul n x).getD k [])) j) F) (u:AV P y j Q) (hm:P.follows .mixedOrders=true:=by kernel_rfl) (z:ng ops (Ul n x) (Xe n x) F=true:=by kernel_rfl)
 (I:((Xe n x).map fun t=>WB T L ops (N8 T L ops σ ((Ul n x).getD t.1 [])) t.2.1)=(Xe n x).map fun t=>some (N8 T L ops σ ((Ul n x).getD t.2.2 []),Yg L t.2.1):=by kernel_rfl) (J:(Ul n x).getD 0 [0]=[]:=by kernel_rfl):AV P (.seq (.region id ops true) y) σ Q:=
 AV.aFq L _ _ F j q u hm z J I
end
end Go.Proofs.YtkkdimcnpacjhaaGreat
end
section
namespace Go
open Go.Proofs.YtkkdimcnpacjhaaGreat
variable {P : Program}
def zI (w:World) (U Y ty q:TypeId) (b o u I:Nat) (a:Addr) (z J k n:Nat) (cs:List Value)
 (Z:P.underlying U=some (.slice q)) (hs:(P.info? q).map (·.size)=some k) (hn:n=Nat.min z u) (hl:cs.length=n*k)
 (L:∀j v,cs[j]? =some v→w.cell? (a.add j)=some v) (hc:∀j,j<cs.length→(w.cell? ⟨b,o+j,none⟩).isSome=true) (hf:∀j,j<cs.length→w.frozen? ⟨b,o+j,none⟩=false) (h1:∀v∈cs,v.oneCell'=true):
 (Builtin.copy_ #[U,Y] ty #[.slice (some ⟨b,o,none⟩) u I,.slice (some a) z J]).run P w=.ok (goInt n) (w.setCells b o cs):=by
 have M:=aOL (P:=P) w a cs L;have hst:=run_storeCells_cells (P:=P) b o cs 0 w aEE (by simpa using hf) h1;rw[hl]at M;cases O:P.info? q with
 |none=>simp[O]at hs
 |some i=>
  have hi:i.size=k:=by simpa[O]using hs
  simp[Builtin.copy_,aD1 Z,Builtin.lenOf,Builtin.firstCells,sizeOf,typeInfo,O,hi,←hn,M,hst]
end Go
namespace Go.Proofs.YtkkdimcnpacjhaaGreat
open Go.Shelf Go.RowKit Go.Lib
section
variable {P : Program} {o : Oper} {es : List Az}
def VB (x y:Int):Int:=bif decide (y<x)then y else x
def alG {x y:Operand} {ats:Array TypeId} {kd:IntKind} {a b:Int} (z:o.op=.call { callee:=.builtin .min,args:= #[x,y],argTypes:=ats }):
 BR P o [(x,.d (.lit (.int kd a))),(y,.d (.lit (.int kd b)))] es (.d (.lit (.int kd (VB a b)))) es:=
 .pure fun ok H c w _ _ j=>by
  have q:=(Eh j).1.lit;have u:=(Eh j).2.lit;simp only at q u;have e:VB a b=if b<a then b else a:=by unfold VB;by_cases h:b<a<;>simp[h]
  refine⟨.int kd (VB a b),?_,.d _ _ (.lit _)⟩;rw[e];simp[execOp,z,resolve,invoke,builtin,q,u,Go.run_min_int2]
end
set_option linter.unusedVariables false
set_option linter.unusedSimpArgs false
set_option maxHeartbeats 4000000 in
set_option maxRecDepth 100000 in
def alZ (b n c i vb vc:Nat) (cs vs:List Value) (w:World) (hi:i<n) (hroom:n+1≤c) (hc63:c≤9223372036854775807) (hvb:vb≠b)
 (hcl:cs.length=n*29) (hvl:vs.length=29)
 (hcs:∀j v,cs[j]? =some v→w.cell? ⟨b,j,none⟩=some v) (hsp:∀j,j<(n+1)*29→(w.cell? ⟨b,j,none⟩).isSome=true) (hfz:∀j,j<(n+1)*29→w.frozen? ⟨b,j,none⟩=false)
 (hvs:∀j v,vs[j]? =some v→w.cell? ⟨vb,j,none⟩=some v) (h1c:∀v∈cs,v.oneCell'=true) (h1v:∀v∈vs,v.oneCell'=true)
 (tA tB:TypeId) (kA kB:Nat) (hsa:w.shape? vb=some (tA,kA)) (hsb:w.shape? b=some (tB,kB)) (hkB:kB≠0) (hfa:w.frozen? ⟨vb,0,none⟩=false) (hfe:w.frozen? ⟨vb,kA,none⟩=false):
 Calls Tryz.prog 80 #[.slice (some ⟨b,0,none⟩) n c,.int .i64 i,.slice (some ⟨vb,0,none⟩) 1 vc] w fun e w'=>
  e=.returned (.slice (some ⟨b,0,none⟩) (n+1) c)∧w'=(w.drew.setCells b ((i+1)*29) (cs.drop (i*29))).setCells b (i*29) vs:=by
 have hz2:¬((i:Int)=(n:Int)):=AA
 have hw1:Ai ((i:Int)+1)=(i:Int)+1:=Ph
 have hw2:Ai ((n:Int)+1)=(n:Int)+1:=Ph
 have hb1:(0:Int)≤(i:Int)+1:=AA
 have hin:i≤n:=AA
 have htn:((i:Int)+1).toNat=i+1:=AA
 have aJ8:((n:Int)+1).toNat=n+1:=AA
 have hb2:¬(c=i+1):=AA
 have hb3:(i:Int)≤(n:Int)+1:=AA
 have hb4:¬(c=i):=AA
 have hb5:¬((c:Int)<(n:Int)+1):=AA
 have z:(Tryz.prog.info? 39).map (·.size)=some 29:=A8
 have U:∀w,(Go.sizeOf 39).run Tryz.prog w=.ok 29 w:=fun w=>by
  cases Y:Tryz.prog.info? 39 with
  |none=>simp[Y]at z
  |some i=>
   have h0:i.size=29:=by simpa[Y]using z
   simp[sizeOf,typeInfo,Y,h0]
 have Z:∀lb cb,(callFunc 144 #[.slice (some ⟨vb,0,none⟩) 1 vc,.slice (some ⟨b,(i+1)*29,none⟩) lb cb]).run Tryz.prog w=.ok (.value (.bool false)) w:=fun lb cb=>by
  rw[run_callFunc_extern Tryz.func144 A8 A8 A8 (e:=Extern.SlicesOverlaps.overlaps #[22,22] #[4]) A8,
   Lib.run_overlaps_apart w 22 4 39 zA 29 U ⟨vb,0,none⟩ ⟨b,(i+1)*29,none⟩ 1 vc lb cb hvb tA tB kA kB hsa hsb hkB hfa hfe]
  rfl
 have I:(cs.drop (i*29)).length=(n-i)*29:=by rw[IJ,hcl,Nat.sub_mul]
 have J:∀ty BG sc,(Builtin.copy_ #[22,22] ty #[.slice (some ⟨b,(i+1)*29,none⟩) (n-i) BG,.slice (some ⟨b,i*29,none⟩) (n+1-i) sc]).run Tryz.prog w.drew=.ok (goInt (n-i:Nat)) (w.drew.setCells b ((i+1)*29) (cs.drop (i*29))):=fun ty BG sc=>
  zI w.drew _ _ ty 39 b ((i+1)*29) (n-i) BG ⟨b,i*29,none⟩ (n+1-i) sc 29 (n-i) (cs.drop (i*29)) zA z aB1 I
   (fun j v q=>by rw[fZ];exact hcs (i*29+j) v (by rwa [Py]at q))
   (fun j q=>hsp _ aP1) (fun j q=>hfz _ aP1) (fun v hv=>h1c v (eG hv))
 obtain⟨W1,u⟩:∃W1,W1=w.drew.setCells b ((i+1)*29) (cs.drop (i*29)):=⟨_,rfl⟩
 have L:∀k,k<(n+1)*29→(W1.cell? ⟨b,k,none⟩).isSome=true:=fun k hk=>by
  rw[u];exact isSome_setCells b (cs.drop (i*29)) ((i+1)*29) w.drew (fun j q=>hsp _ aP1) _ (hsp k hk)
 have M:∀(W:World),(∀x,W.cell? x=W1.cell? x)→(∀x,W.frozen? x=W1.frozen? x)→∀ty BG,(Builtin.copy_ #[22,22] ty #[.slice (some ⟨b,i*29,none⟩) (n+1-i) BG,.slice (some ⟨vb,0,none⟩) 1 vc]).run Tryz.prog W=.ok (goInt (1:Nat)) (W.setCells b (i*29) vs):=fun W O hWf ty BG=>
  zI W _ _ ty 39 b (i*29) (n+1-i) BG ⟨vb,0,none⟩ 1 vc 29 1 vs zA z aB1 (by rw[hvl])
   (fun j v q=>by
    rw[fZ,O,u,World.cell?_setCells_out b _ _ _ _ (fun h _=>absurd h hvb),Ij]
    exact hvs j v q)
   (fun j q=>by rw[O];exact L _ AA) (fun j q=>by rw[hWf,u,World.frozen?_setCells];exact hfz _ AA) h1v
 rw[←u]at J;have mixed:Tryz.prog.follows .mixedOrders=true:=A8
 go_enter Tryz.func80,Tryz.ntmps80
 go_wp2_with (simp only[Z])
 go_region_law_o (refine step_copy_runI rfl _ _ 22 22 rfl _ _ aG5 aG5 (J _ _ _) ?_)
 go_wp2_with (at_builtin;refine wpList_copy_runI _ rfl _ _ 22 22 rfl _ _ rfl rfl (M _ (fun _=>rfl) (fun _=>rfl) _ _) ?_)
 go_ret
 first|exact⟨rfl,rfl⟩|exact⟨rfl,by rw[u]⟩
set_option maxHeartbeats 4000000 in
set_option maxRecDepth 100000 in
def aiu (b n c i vb vc:Nat) (cs vs:List Value) (w:World) (hi:i<n) (hnc:n≤c) (hroom:c<n+1) (hbig:(n+1)*376≤140737488355328)
 (hcl:cs.length=n*29) (hvl:vs.length=29)
 (hcs:∀j v,cs[j]? =some v→w.cell? ⟨b,j,none⟩=some v) (hvs:∀j v,vs[j]? =some v→w.cell? ⟨vb,j,none⟩=some v) (h1c:∀v∈cs,v.oneCell'=true) (h1v:∀v∈vs,v.oneCell'=true):
 Calls Tryz.prog 80 #[.slice (some ⟨b,0,none⟩) n c,.int .i64 i,.slice (some ⟨vb,0,none⟩) 1 vc] w fun e w'=>∃G ROW,e=.returned (.slice (some ⟨w.heap.size,0,none⟩) (n+1) G)∧n+1≤G∧G≤maxLen∧G*29≤ROW.size∧ROW.toList.take (i*29)=cs.take (i*29)∧
  w'=(((w.alloc (.cells ROW 39)).drew.setCells w.heap.size (i*29) vs).drew).setCells w.heap.size ((i+1)*29) (cs.drop (i*29)):=by
 have hE:Gs Tryz.prog 22 39 29 376:=NW A8;obtain⟨i0,z0,hi0,hz0,hzs,hzb,hzc⟩:=hE.info;have hsz:(Tryz.prog.info? 39).map (·.size)=some 29:=by rw[hi0];simp[hzs]
 have mixed:Tryz.prog.follows .mixedOrders=true:=A8
 have hz2:¬((i:Int)=(n:Int)):=AA
 have hz3:(c:Int)<(n:Int)+1:=AA
 have hil:i*29<cs.length:=AA
 have hbw:b<w.heap.size:=block_lt_of_cell (hcs 0 _ (DC AA));have hvw:vb<w.heap.size:=block_lt_of_cell (hvs 0 _ (DC AA));have hkk:(n:Int)+1-(i:Int)=((n+1-i:Nat):Int):=AA
 have O:i+(n+1-i)=n+1:=AA
 have U:(cs.take (i*29)).length=i*29:=aNS
 have L:(Builtin.firstCells i0.size i (.slice (some ⟨b,0,none⟩) i c)).run Tryz.prog w.drew=.ok (cs.take (i*29)).toArray w.drew:=by
  rw[hzs]
  exact run_firstCells_some w.drew 29 i ⟨b,0,none⟩ i c (cs.take (i*29)) (by rw[U]) (fun j v q=>by
   rw[fZ,Ij];rw[nM]at q;split at q
   ·exact hcs j v q
   cases q)
 have J:∀ty,(Builtin.append_ #[22,3] ty #[.slice (some ⟨b,0,none⟩) i c,.int .i64 ((n:Int)+1-(i:Int))]).run Tryz.prog w=
  .ok (.slice (some ⟨w.heap.size,0,none⟩) (n+1) (grownCap w (n+1) c 39)) (w.drew.alloc (.cells ((cs.take (i*29)).toArray++Builtin.zeroCells z0.cells (n+1-i)++Builtin.zeroCells z0.cells (grownCap w (n+1) c 39-(n+1))) 39)):=fun ty=>by
  have h:=Lib.run_append_grow_zeros w 22 3 ty 39 i0 z0 .i64 .i64 hE.und A8 hi0 hz0 (some ⟨b,0,none⟩) i c (cs.take (i*29)) L (n+1-i) AA AA AA AA (by rw[hzb];omega) (by rw[hzb,O];exact growslice_fits AA AA);rw[O]at h;rw[hkk];exact h
 have hGn:n+1≤grownCap w (n+1) c 39:=grownCap_ge w _ _ _;have Y:=grownCap_le_maxLen w (n+1) c 39 aEV;obtain⟨G,hG⟩:∃G,G=grownCap w (n+1) c 39:=⟨_,rfl⟩
 obtain⟨ROW,u⟩:∃ROW:Array Value,ROW=(cs.take (i*29)).toArray++Builtin.zeroCells z0.cells (n+1-i)++Builtin.zeroCells z0.cells (G-(n+1)):=⟨_,rfl⟩
 rw[←hG]at J hGn Y;rw[←u]at J
 have hRl:ROW.size=G*29:=by
  rw[u];simp[Builtin.zeroCells,hzc];omega
 have hRt:ROW.toList.take (i*29)=cs.take (i*29):=by
  rw[u];simp[HY];rw[rX U]
 obtain⟨W1,z⟩:∃W1,W1=w.drew.alloc (.cells ROW 39):=⟨_,rfl⟩
 rw[←z]at J
 have hN:∀j,j<(n+1)*29→(W1.cell? ⟨w.heap.size,j,none⟩).isSome=true:=fun j q=>by
  rw[z,World.cell?_alloc_at (w:=w.drew) ROW _ w.heap.size j rfl,aC AA];rfl
 have hNf:∀j,W1.frozen? ⟨w.heap.size,j,none⟩=false:=fun j=>by rw[z];exact World.frozen?_alloc_at (w:=w.drew) ROW _ w.heap.size j rfl
 have hOb:∀j v,w.cell? ⟨b,j,none⟩=some v→W1.cell? ⟨b,j,none⟩=some v:=fun j v h=>by rw[z,aI6 (w:=w.drew) _ b j hbw];exact h
 have hOv:∀j v,w.cell? ⟨vb,j,none⟩=some v→W1.cell? ⟨vb,j,none⟩=some v:=fun j v h=>by rw[z,aI6 (w:=w.drew) _ vb j hvw];exact h
 have hcpA:∀(W:World),(∀x,W.cell? x=W1.cell? x)→(∀x,W.frozen? x=W1.frozen? x)→∀ty BG,(Builtin.copy_ #[22,22] ty #[.slice (some ⟨w.heap.size,i*29,none⟩) (n+1-i) BG,.slice (some ⟨vb,0,none⟩) 1 vc]).run Tryz.prog W=.ok (goInt (1:Nat)) (W.setCells w.heap.size (i*29) vs):=fun W I Z ty BG=>
  zI W _ _ ty 39 w.heap.size (i*29) (n+1-i) BG ⟨vb,0,none⟩ 1 vc 29 1 vs hE.und hsz aB1 (by rw[hvl])
   (fun j v q=>by rw[fZ,I,Ij];exact hOv _ v (hvs j v q))
   (fun j q=>by rw[I];exact hN _ AA) (fun j q=>by rw[Z];exact hNf _) h1v
 have hG63:G≤9223372036854775807:=by unfold maxLen at Y;omega
 have hGi:¬(G=i):=AA
 have hGim:¬(G=i+1):=AA
 have hci:¬(c=i):=AA
 have hbN:b≠w.heap.size:=AA
 have hdl:(cs.drop (i*29)).length=(n-i)*29:=by rw[IJ,hcl,Nat.sub_mul]
 have M:∀(W:World),(∀x,W.cell? x=(W1.setCells w.heap.size (i*29) vs).cell? x)→(∀x,W.frozen? x=(W1.setCells w.heap.size (i*29) vs).frozen? x)→∀ty BG sc,(Builtin.copy_ #[22,22] ty #[.slice (some ⟨w.heap.size,(i+1)*29,none⟩) (n-i) BG,.slice (some ⟨b,i*29,none⟩) (n-i) sc]).run Tryz.prog W=.ok (goInt (n-i:Nat)) (W.setCells w.heap.size ((i+1)*29) (cs.drop (i*29))):=fun W I Z ty BG sc=>
  zI W _ _ ty 39 w.heap.size ((i+1)*29) (n-i) BG ⟨b,i*29,none⟩ (n-i) sc 29 (n-i) (cs.drop (i*29)) hE.und hsz aB1 hdl
   (fun j v q=>by
    rw[fZ,I,World.cell?_setCells_out _ _ _ _ _ (fun h _=>absurd h hbN)]
    exact hOb _ v (hcs (i*29+j) v (by rwa [Py]at q)))
   (fun j q=>by rw[I];exact isSome_setCells _ vs (i*29) W1 (fun t ht=>hN _ AA) _ (hN _ (by rw[hdl]at q;omega)))
   (fun j q=>by rw[Z,World.frozen?_setCells];exact hNf _) (fun v hv=>h1c v (eG hv))
 subst z;have hE1:∀x,((w.alloc (.cells ROW 39)).drew).cell? x=(w.drew.alloc (.cells ROW 39)).cell? x:=fun x=>rfl;have hE2:∀x,((w.alloc (.cells ROW 39)).drew).frozen? x=(w.drew.alloc (.cells ROW 39)).frozen? x:=fun x=>rfl;have hF1:∀x,(((w.alloc (.cells ROW 39)).drew.setCells w.heap.size (i*29) vs).drew).cell? x=((w.drew.alloc (.cells ROW 39)).setCells w.heap.size (i*29) vs).cell? x:=fun x=>rfl;have hF2:∀x,(((w.alloc (.cells ROW 39)).drew.setCells w.heap.size (i*29) vs).drew).frozen? x=((w.drew.alloc (.cells ROW 39)).setCells w.heap.size (i*29) vs).frozen? x:=fun x=>rfl;have hw1:Ai ((i:Int)+1)=(i:Int)+1:=Ph
 have hw2:Ai ((n:Int)+1)=(n:Int)+1:=Ph
 have hw3:Ai ((n:Int)+1-(i:Int))=(n:Int)+1-(i:Int):=Ph
 have hb1:(0:Int)≤(i:Int)+1:=AA
 have hin:i≤n:=AA
 have htn:((i:Int)+1).toNat=i+1:=AA
 have hb3:(i:Int)≤(n:Int):=AA
 clear hkk O L u hG hil U
 go_enter Tryz.func80,Tryz.ntmps80
 go_wp2_with (first
  |(at_builtin;refine aOp _ rfl _ _ _ _ rfl _ _ rfl rfl _ _ (J _) ?_)
  |(at_builtin;refine wpList_copy_runI _ rfl _ _ 22 22 rfl _ _ rfl rfl (hcpA _ hE1 hE2 _ _) ?_)
  |(at_builtin;refine wpList_copy_runI _ rfl _ _ 22 22 rfl _ _ rfl rfl (M _ (fun _=>rfl) (fun _=>rfl) _ _ _) ?_))
 go_region_law_o (refine step_copy_runI rfl _ _ 22 22 rfl (.slice (some ⟨w.heap.size,(i+1)*29,none⟩) (n-i) (G-(i+1))) (.slice (some ⟨b,i*29,none⟩) (n-i) (c-i)) aG5 aG5 (M _ hF1 hF2 3 (G-(i+1)) (c-i)) ?_)
 go_wp2
 go_ret
 exact⟨G,ROW,rfl,hGn,Y,Xw hRl.symm,hRt,rfl⟩
def putAt (cur:Array Value):Nat→List Value→Array Value
 |_,[]=>cur
 |o,v::r=>putAt (cur.setIfInBounds o v) (o+1) r
def dZ :∀(vs:List Value) (o:Nat) (cur:Array Value),(putAt cur o vs).size=cur.size
 | [],_,_=>rfl
 |v::r,o,cur=>by rw[putAt,dZ r];simp
def uJ :∀(vs:List Value) (o:Nat) (cur:Array Value),o+vs.length≤cur.size→(putAt cur o vs).toList=cur.toList.take o++vs++cur.toList.drop (o+vs.length)
 | [],o,cur,_=>by simp[putAt]
 |v::r,o,cur,h=>by
  simp only[FV]at h;rw[putAt,uJ r (o+1) _ DW,aO6];refine bD fun j=>?_;simp only[HY,List.getElem?_append,F7,Zi,Sm,nM,List.getElem?_set,Py,FV,Yo,aSO]
  grind
def xg (b:Nat):∀(vs:List Value) (o:Nat) (w:World) (cur:Array Value) (e:TypeId) (fr:Nat×Nat),w.heap[b]? =some (.cells cur e fr)→(w.setCells b o vs).heap[b]? =some (.cells (putAt cur o vs) e fr)
 | [],_,_,_,_,_,h=>h
 |v::r,o,w,cur,e,fr,h=>by
  rw[World.setCells,putAt];refine xg b r (o+1) _ _ e fr ?_;simp[World.setCell,NY,h]
set_option maxHeartbeats 4000000 in
set_option maxRecDepth 100000 in
def amn {v:Value} {n vb vc:Nat} {xs news:List Value} {w:World} (hown:lH w 39 29 v n xs) (hsrc:VQ w (.slice (some ⟨vb,0,none⟩) 1 vc) 1 29 news) (hb:(n+1)*376≤140737488355328):
 Calls Tryz.prog 80 #[v,.int .i64 n,.slice (some ⟨vb,0,none⟩) 1 vc] w fun e w'=>∃v',e=.returned v'∧lH w' 39 29 v' (n+1) (xs++news)∧w.grownBy w' v.ownBlock∧∀g,D6 v'=some g→D6 v=some g∨w.heap.size≤g:=by
 have hE:Gs Tryz.prog 22 39 29 376:=NW A8;obtain⟨v',w',u,z,I,J⟩:=aMF (ty:=22) hE hown hsrc hb aEV;have mixed:Tryz.prog.follows .mixedOrders=true:=A8
 rcases hown.2 with⟨rfl,M⟩|⟨g,cap,cur,rfl,_,Y,O,j,U,q⟩
 ·subst M
  go_enter Tryz.func80,Tryz.ntmps80
  go_wp2_with (at_builtin;refine aOp _ rfl _ _ _ _ rfl _ _ rfl rfl _ _ u ?_)
  go_ret
  exact⟨v',rfl,z,I,J⟩
 have L:cap≤9223372036854775807:=by unfold maxLen at j;omega
 go_enter Tryz.func80,Tryz.ntmps80
 go_wp2_with (at_builtin;refine aOp _ rfl _ _ _ _ rfl _ _ rfl rfl _ _ u ?_)
 all_goals (go_ret;exact⟨v',rfl,z,I,J⟩)
def wU (b:Nat):∀(vs:List Value) (o:Nat) (w:World),(w.setCells b o vs).os=w.os∧(w.setCells b o vs).tape=w.tape∧(w.setCells b o vs).output=w.output∧(w.setCells b o vs).heap.size=w.heap.size∧∀i,i≠b→(w.setCells b o vs).heap[i]? =w.heap[i]?
 | [],_,_=>⟨rfl,rfl,rfl,rfl,fun _ _=>rfl⟩
 |v::r,o,w=>by
  obtain⟨j,q,u,z,I⟩:=wU b r (o+1) (w.setCell ⟨b,o,none⟩ v);rw[World.setCells];refine⟨j,q,u,by rw[z];simp[World.setCell],fun i hi=>?_⟩;rw[I i hi];simp[World.setCell,NY,aj hi]
def adH {cur:Array Value} {xs vs:List Value} {a N k:Nat} (q:cur.toList.take N=xs) (hl:xs.length=N) (j:vs.length=k) (ha:a≤N) (hs:N+k≤cur.size):
 (putAt (putAt cur (a+k) (xs.drop a)) a vs).toList.take (N+k)=xs.take a++vs++xs.drop a:=by
 have hd:(xs.drop a).length=N-a:=by rw[IJ,hl]
 rw[uJ vs a _ (by rw[dZ];omega),uJ (xs.drop a) (a+k) cur AA,j,hd]
 have u:(cur.toList.take (a+k)++xs.drop a++cur.toList.drop (a+k+(N-a))).take a=xs.take a:=by
  rw[HY,List.take_append_of_le_length DW,aQ8,←q,aQ8,iQ AA,iQ ha]
 have z:(cur.toList.take (a+k)++xs.drop a++cur.toList.drop (a+k+(N-a))).drop (a+k)=xs.drop a++cur.toList.drop (a+k+(N-a)):=by
  rw[HY,List.drop_left' DW]
 rw[u,z,←HY,rX (by simp[hd,j,hl];omega)]
def agl {cur:Array Value} {xs vs:List Value} {a N k:Nat} (q:cur.toList.take a=xs.take a) (hl:xs.length=N) (j:vs.length=k) (ha:a≤N) (hs:N+k≤cur.size):
 (putAt (putAt cur a vs) (a+k) (xs.drop a)).toList.take (N+k)=xs.take a++vs++xs.drop a:=by
 have hd:(xs.drop a).length=N-a:=by rw[IJ,hl]
 rw[uJ (xs.drop a) (a+k) _ (by rw[dZ];omega),uJ vs a cur AA,j,hd,q];have u:(xs.take a++vs++cur.toList.drop (a+k)).take (a+k)=xs.take a++vs:=rX (by simp[j,hl];omega);rw[u,rX (by simp[hd,j,hl];omega)]
def rY {w:World} {g n:Nat} {cur:Array Value} {xs:List Value} {T:TypeId} {fr:Nat×Nat} (q:w.heap[g]? =some (.cells cur T fr)) (ht:cur.toList.take n=xs) (j:Nat) (v:Value) (h:xs[j]? =some v):w.cell? ⟨g,j,none⟩=some v:=by
 unfold World.cell?;simp only[q];rw[←ht,nM]at h;split at h
 ·simpa using h
 cases h
def ao4 {w:World} {g:Nat} {cur:Array Value} {T:TypeId} {fr:Nat×Nat} (q:w.heap[g]? =some (.cells cur T fr)) (j:Nat) (h:j<cur.size):(w.cell? ⟨g,j,none⟩).isSome=true:=by
 unfold World.cell?;simp[q,h]
def aMP {w:World} {g:Nat} {cur:Array Value} {T:TypeId} (q:w.heap[g]? =some (.cells cur T (0,0))) (j:Nat):w.frozen? ⟨g,j,none⟩=false:=by
 unfold World.frozen?;simp[q]
def aiI {v:Value} {n vb vc i:Nat} {xs q:List Value} {w:World} (hi:i≤n) (J:lH w 39 29 v n xs) (h1:∀u∈xs,u.oneCell'=true) (hx:lH w 39 29 (.slice (some ⟨vb,0,none⟩) 1 vc) 1 q) (Y:∀u∈q,u.oneCell'=true) (hne:D6 v≠some vb) (hb:(n+1)*376≤140737488355328):
 Calls Tryz.prog 80 #[v,.int .i64 i,.slice (some ⟨vb,0,none⟩) 1 vc] w fun e w'=>∃v',e=.returned v'∧lH w' 39 29 v' (n+1) (xs.take (i*29)++q++xs.drop (i*29))∧Turns v w w'∧∀g,D6 v'=some g→D6 v=some g∨w.heap.size≤g:=by
 have L:=J.1;have M:q.length=29:=by have :=hx.1;omega
 rcases hx.2 with⟨e0,_⟩|⟨vb',aJ9,aGy,e0,_,O,hvn,_,hvs,Z⟩
 ·cases e0
 injection e0 with e1 _ e3
 injection e1 with e1
 injection e1 with e1
 subst e1 e3;rcases Yl i n with hin|hin
 ·rcases J.2 with⟨_,h0⟩|⟨g,cap,cur,rfl,_,hg,hnc,hcm,hcs,I⟩
  ·omega
  have hgv:vb≠g:=fun e=>hne iH;have hil:i*29≤n*29:=JR _ hi;rcases Yl n cap with z|z
  ·have hfit:(n+1)*29≤cur.size:=Ed (JR _ z) hcs;refine(alZ g n cap i vb vc xs q w hin z (by unfold maxLen at hcm;omega) hgv L M (rY hg I) (fun j hj=>ao4 hg j AA) (fun j _=>aMP hg j) (rY O Z) h1 Y 39 39 aGy.size cur.size (by simp[World.shape?,O]) (by simp[World.shape?,hg]) AA (aMP O 0) (aMP O _)).mono ?_;rintro e w' ⟨rfl,rfl⟩;have hh:=xg g q (i*29) _ _ _ _ (xg g (xs.drop (i*29)) ((i+1)*29) w.drew cur 39 (0,0) hg);obtain⟨a1,a2,a3,a4,a5⟩:=wU g (xs.drop (i*29)) ((i+1)*29) w.drew;obtain⟨b1,b2,b3,b4,b5⟩:=wU g q (i*29) (w.drew.setCells g ((i+1)*29) (xs.drop (i*29)));refine⟨_,rfl,⟨?_,.inr ⟨g,cap,_,rfl,Ci _,hh,z,hcm,by rw[dZ,dZ];exact hcs,?_⟩⟩,⟨b1.trans a1,b2.trans a2,b3.trans a3,by rw[b4,a4];exact Dn _,fun c hc hcb=>?_⟩,fun g' hg'=>.inl hg'⟩
   ·simp[M,L];omega
   ·have :=adH (a:=i*29) (k:=29) I L M hil AA;rw[show(i+1)*29=i*29+29 by omega,show(n+1)*29=n*29+29 by omega];exact this
   have U:c≠g:=fun e=>hcb iH;rw[b5 c U,a5 c U];rfl
  refine(aiu g n cap i vb vc xs q w hin hnc AA hb L M (rY hg I) (rY O Z) h1 Y).mono ?_;rintro e w' ⟨G,ROW,rfl,hGn,hGm,hGs,hRt,rfl⟩
  have hal:((w.alloc (.cells ROW 39)).drew).heap[w.heap.size]? =some (.cells ROW 39 (0,0)):=by
   show(w.heap.push (.cells ROW 39 (0,0)))[w.heap.size]? =_;simp
  have hh:=xg w.heap.size (xs.drop (i*29)) ((i+1)*29) _ _ _ _ (show(((w.alloc (.cells ROW 39)).drew.setCells w.heap.size (i*29) q).drew).heap[w.heap.size]? =_ from xg w.heap.size q (i*29) _ ROW 39 (0,0) hal);obtain⟨a1,a2,a3,a4,a5⟩:=wU w.heap.size q (i*29) (w.alloc (.cells ROW 39)).drew;obtain⟨b1,b2,b3,b4,b5⟩:=wU w.heap.size (xs.drop (i*29)) ((i+1)*29) ((w.alloc (.cells ROW 39)).drew.setCells w.heap.size (i*29) q).drew;refine⟨_,rfl,⟨?_,.inr ⟨w.heap.size,G,_,rfl,Ci _,hh,hGn,hGm,by rw[dZ,dZ];exact hGs,?_⟩⟩,⟨b1.trans a1,b2.trans a2,b3.trans a3,?_,fun c hc hcb=>?_⟩,fun g' hg'=>.inr (by simp[D6]at hg';omega)⟩
  ·simp[M,L];omega
  ·have :=agl (a:=i*29) (k:=29) hRt L M hil (by have :=JR 29 hGn;omega);rw[show(i+1)*29=i*29+29 by omega,show(n+1)*29=n*29+29 by omega];exact this
  ·rw[b4];show w.heap.size≤((w.alloc (.cells ROW 39)).drew.setCells w.heap.size (i*29) q).heap.size;rw[a4];show w.heap.size≤(w.heap.push (.cells ROW 39 (0,0))).size;simp
  have U:c≠w.heap.size:=AA
  rw[b5 c U];show((w.alloc (.cells ROW 39)).drew.setCells w.heap.size (i*29) q).heap[c]? =_;rw[a5 c U];show(w.heap.push (.cells ROW 39 (0,0)))[c]? =_;simp[aMn,U]
 have hni:i=n:=AA
 subst hni;refine(amn J ⟨AA,Y,.inl ⟨_,_,rfl,fun j u hj=>by rw[fZ,Ij];exact rY O Z j u hj⟩⟩ hb).mono ?_;rintro e w' ⟨v',rfl,h2,h3,h4⟩;refine⟨v',rfl,?_,⟨h3.os,h3.tape,h3.output,h3.size,fun k hk hne'=>h3.block k hk ?_⟩,h4⟩
 ·rw[Po AA,uZ AA,Oc];exact h2
 rcases J.2 with⟨rfl,_⟩|⟨g,cap,cur,rfl,_⟩
 ·simp[Value.ownBlock]
 intro e;exact hne' e.symm
def afr {j:Array Value} (hs:j.size=3):j= #[j.getD 0 undef,j.getD 1 undef,j.getD 2 undef]:=by
 refine ZK (by simp[hs]) fun i u q=>?_;simp at q;have :i=0∨i=1∨i=2:=AA
 rcases this with rfl|rfl|rfl<;>simp[Array.getD,hs]
def aV4 {ok:Nat→Prop} {w:World} {H:List BN} {xs:List Aa} {vs:List Value} (h:F6 ok w H xs vs) (n:Nat):F6 ok w H (xs.take n) (vs.take n):=by
 refine⟨by rw[F7,F7,h.1],fun i hi=>?_⟩;rw[F7]at hi;have :=h.2 i AA;rw[jB,jB]at this ⊢;rw[LM AA,LM AA];exact this
def aWo {ok:Nat→Prop} {w:World} {H:List BN} {xs:List Aa} {vs:List Value} (h:F6 ok w H xs vs) (n:Nat):F6 ok w H (xs.drop n) (vs.drop n):=by
 refine⟨by rw[IJ,IJ,h.1],fun i hi=>?_⟩;rw[IJ]at hi;have :=h.2 (n+i) AA;rw[jB,jB]at this ⊢;rw[Py,Py];exact this
def aIr {ok:Nat→Prop} {w:World} {H:List BN} {xs:List Aa} {vs:List Value} (h:F6 ok w H xs vs):∀u∈vs,u.oneCell'=true:=fun u q=>by
 obtain⟨i,hi,rfl⟩:=G5 q;have j:=h.2 i (by rw[←h.1];exact hi);have :=j.2.leaf j.1
 rwa [jB,DC hi]at this
def aSq {size:Nat}:∀{es:List D} (i:Nat),(∀x∈es,x.cells.length=size)→flat (es.take i)=(flat es).take (i*size)
 | [],i,_=>TN
 |x::l,0,_=>TN
 |x::l,i+1,h=>by
  have j:(x.cells.map Aa.d).length=size:=by rw[CB];exact h x (EO ..)
  rw[List.take_succ_cons,U3,U3,aSq i fun y q=>h y (F5 _ q),Xl,aBu,Ui,←j,List.take_length_add_append]
def aVh {size:Nat}:∀{es:List D} (i:Nat),(∀x∈es,x.cells.length=size)→flat (es.drop i)=(flat es).drop (i*size)
 | [],i,_=>TN
 |x::l,0,_=>TN
 |x::l,i+1,h=>by
  have j:(x.cells.map Aa.d).length=size:=by rw[CB];exact h x (EO ..)
  rw[List.drop_succ_cons,U3,aVh i fun y q=>h y (F5 _ q),Xl,aBu,Ui,←j,List.drop_length_add_append]
def Ce.kill {C:EP} {ok:Nat→Prop} {H:List BN} {es:List Az} {w:World} (hm:Ce C ok H es w) (k:Nat):Ce C ok H (es.set k .dead) w:=
 (hm.change (ok':=ok) (H':=H) (w':=w) (es':=es.set k .dead) (fun _=>False) rfl rfl rfl (Dn _) (fun _ _ _=>rfl) (fun _ h=>h.elim) (fun _ h=>h) (fun _ h=>.inl h) (.refl _) (by simpa using hm.hlen) (by
  intro j e' h' q u;by_cases z:k=j
  ·subst z;rw[List.getElem?_set]at q;simp only[JV]at q;split at q
   ·cases q;exact .inr ⟨trivial,fun h=>Ie⟩
   cases q
  rw[YO z]at q
  exact .inl ⟨q,u,fun _ _ _ h=>h⟩)).1
def aEN {α:Type} (l:List α) (i:Int) (m:List α):Option (List α):=match m with
 | [x]=>if(0≤i∧i≤(l.length:Int))∧l.length≤34359738368 then some (l.take i.toNat++x::l.drop i.toNat)else none
 |_=>none
def auK {α:Type} {e:α→D} (hk:∀x,(e x).cells.length=29) (l:List α) (q:Int) (m r:List α) (h:aEN l q m=some r):
 BI 80 [.aY 0,.d (Ad q),.aY 1] [.arr 39 29 (l.map e),.arr 39 29 (m.map e)] (.aY 2) [.dead,.dead,.arr 39 29 (r.map e)]:=by
 unfold aEN at h;split at h
 case h_2=>cases h
 rename_i x;split at h
 case isFalse=>cases h
 rename_i hc;obtain⟨⟨hq0,hql⟩,hb⟩:=hc;obtain rfl:=CS h;obtain⟨i,rfl⟩:∃i:Nat,q=i:=⟨q.toNat,AA⟩
 have hi:i≤l.length:=AA
 rw[Rq];intro ok X H w L hm hs ha;have h0:=ha 0 Aw;have hq:=ha 1 Aw;have h2:=ha 2 Aw;rw[afr hs];obtain⟨hd,hh,hok⟩:=GR hm.ent hm.hlen (k:=0) rfl;obtain⟨M,O,U⟩:=GR hm.ent hm.hlen (k:=1) rfl;obtain hv:=Nq h0 hh;obtain hv1:=Nq h2 O
 have hq':L.getD 1 undef=.int .i64 i:=by
  simp only[List.getD,xO,aDa,MF]at hq;cases hq with |d _ _ hq=>exact Dk.adC hq
 rw[hv,hv1,hq'];obtain⟨hz,Y,xs,Z,J⟩:=hok;obtain⟨hz1,aKa,news,u,I⟩:=U;rw[CB]at Z
 obtain⟨g1,c1,hg1⟩:∃g1 c1,M.v=.slice (some ⟨g1,0,none⟩) 1 c1:=by
  rcases u.2 with⟨_,h⟩|⟨g,cap,cur,h,_⟩
  ·cases h
  exact⟨g,cap,h⟩
 have hne:D6 hd.v≠some g1:=fun hb=>by
  have :=hm.D8 0 1 _ _ hd M g1 rfl rfl rfl rfl hh O hb (by rw[hg1];rfl);cases this
 rw[hg1]at u ⊢;refine(aiI hi Z (aIr J) u (aIr I) hne AA).mono ?_;rintro y w' ⟨v',rfl,j,ht,hblk⟩;have hlen:l.length+1=((l.take i++x::l.drop i).map e).length:=DW
 rw[hlen]at j
 have hfl:flat ((l.take i++x::l.drop i).map e)=(flat (l.map e)).take (i*29)++flat ([x].map e)++(flat (l.map e)).drop (i*29):=by
  rw[←aSq i Y,←aVh i Y,←jG,←jG,KO,Ia,XR,ZR,HY];rfl
 have hg:=hm.turn (e:=.arr 39 29 ((l.take i++x::l.drop i).map e)) (h':=⟨v',29⟩) (w':=w') (k:=0) rfl rfl hh ht.os ht.tape ht.output ht.size ht.block (fun g hg=>⟨rV j hg,hblk g hg⟩) (fun hgr=>⟨rfl,fun y hy=>by
  obtain⟨z,_,rfl⟩:=Dp.1 hy
  exact hk z,_,j,by rw[hfl];exact(pR (pR (aV4 J _) I) (aWo J _)).mono hgr (.push _ _)⟩)
 refine⟨v',ok,H++[⟨v',29⟩],rfl,hg.1.kill 1,?_⟩;have hl:H.length=2:=hm.hlen;have hr:(H++[(⟨v',29⟩:BN)])[2]? =some ⟨v',29⟩:=by rw[←hl];simp
 rcases j.2 with⟨rfl,_⟩|⟨g,cap,cur,rfl,_⟩
 ·exact .aY 2 _ _ _ 29 hr
 exact .aY 2 _ _ _ 29 hr
end Go.Proofs.YtkkdimcnpacjhaaGreat
end
section
namespace Go.Proofs.YtkkdimcnpacjhaaGreat
open Go.RowKit Go.Sort
section
variable {β : Type} {e : β → D} {k : Nat} {ok : Nat → Prop} {w : World} {H : List BN}
def aSg (u:∀x,(e x).cells.length=k):∀(l:List β) (xs:List Value),F6 ok w H (flat (l.map e)) xs→∃z:List (β×List Value),z.map (·.1)=l∧z.flatMap (·.2)=xs∧∀p∈z,F6 ok w H ((e p.1).cells.map .d) p.2
 | [],xs,h=>by
   have j:xs.length=0:=h.1;exact⟨[],rfl,(Gh j).symm,fun p hp=>absurd hp EM⟩
 |x::l,xs,h=>by
  rw[Ia,U3]at h;have hl:((e x).cells.map Aa.d).length=k:=by rw[CB,u]
  have j:=aV4 h k;have q:=aWo h k;rw[←hl,aA1]at j;rw[←hl,List.drop_left]at q;rw[hl]at j q;obtain⟨z,I,J,L⟩:=aSg u l _ q;refine⟨(x,xs.take k)::z,by rw[Ia,I],by rw[JX,J,Qn],fun p hp=>?_⟩;rcases EG.1 hp with rfl|hp
  ·exact j
  exact L p hp
def aVV :∀(z:List (β×List Value)),(∀p∈z,F6 ok w H ((e p.1).cells.map .d) p.2)→F6 ok w H (flat ((z.map (·.1)).map e)) (z.flatMap (·.2))
 | [],_=>⟨rfl,fun i hi=>absurd hi (Nat.not_lt_zero i)⟩
 |p::z,h=>by
  rw[Ia,Ia,U3,JX];exact pR (h p (EO ..)) (aVV z fun q j=>h q (F5 _ j))
end
def Aq.aAK {β:Type} {P:Program} {f g:FuncId} {T:TypeId} {k:Nat} {e:β→D} (hk:∀x,(e x).cells.length=k) {l r:List β}
 (h:∀(ok:Nat→Prop) (H:List BN) (v:Value) (w:World) (z:List (β×List Value)),z.map (·.1)=l→(∀p∈z,F6 ok w H ((e p.1).cells.map .d) p.2)→lH w T k v l.length (z.flatMap (·.2))→
  Calls P f #[v,.func (.func g) #[] #[]] w fun x w'=>x=.returned (.tuple #[])∧∃Z:List (β×List Value),(∀p∈Z,p∈z)∧Z.map (·.1)=r∧lH w' T k v r.length (Z.flatMap (·.2))∧Turns v w w'):
 Aq P f [.aY 0,.d (.fn (.func g) [] [])] [.arr T k (l.map e)] (.eF []) [.arr T k (r.map e)]:=by
 intro ok X H w J hm hs ha;have h0:=ha 0 Aw;have Y:=ha 1 Aw;rw[aUM hs];obtain⟨hd,hh,hok⟩:=GR hm.ent hm.hlen (k:=0) rfl;obtain hv:=Nq h0 hh
 have hf:J.getD 1 undef=.func (.func g) #[] #[]:=by
  simp only[List.getD,xO,aDa,MF]at Y;generalize J.getD 1 undef=u at Y;cases Y with
  |d _ _ Y=>
   cases Y with
   |fn _ _ _ vs us hl hm'=>
    have e1:vs= #[]:=W9 MC;have e2:us= #[]:=W9 (by simpa using hm');rw[e1,e2]
 rw[hv,hf];obtain⟨hz,hcl,xs,L,hrs⟩:=hok;rw[CB]at L;obtain⟨z,z1,z2,z3⟩:=aSg hk l xs hrs;rw[←z2]at L;refine(h ok H hd.v w z z1 z3 L).mono ?_;rintro x w' ⟨rfl,Z,p1,p2,aGz,ht⟩;have I:=fun b hb=>hm.blk 0 _ hd b rfl rfl hh hb
 have M:EN ok w ok w':=(hm.change (ok':=ok) (H':=H) (w':=w') (es':=[.dead]) (fun c=>D6 hd.v=some c) ht.os ht.tape ht.output ht.size ht.block (fun c hc _=>⟨(I c hc).1,(I c hc).2.2⟩) (fun _ h=>h) (fun _ h=>.inl h) (.refl _) hm.hlen (by
  intro j e' h' q O
  match j,q with
  |0,q=>
   simp at q;subst q;exact .inr ⟨trivial,fun hl=>by cases hl⟩
  |k+1,q=>simp at q)).2
 have hg:=hm.change (ok':=ok) (H':=H) (w':=w') (es':=[.arr T k (r.map e)]) (fun c=>D6 hd.v=some c) ht.os ht.tape ht.output ht.size ht.block (fun c hc _=>⟨(I c hc).1,(I c hc).2.2⟩) (fun _ h=>h) (fun _ h=>.inl h) (.refl _) hm.hlen (by
  intro j e' h' q O
  match j,q with
  |0,q=>
   simp at q;subst q;rw[hh]at O;obtain rfl:=CS O;refine .inr ⟨⟨hz,fun x hx=>?_,_,by rw[CB];exact aGz,?_⟩,fun _ b hb=>⟨(I b hb).1,Uy (I b hb).2.1 ht.size,(I b hb).2.2,fun k' e'' h'' hne U=>?_⟩⟩
   ·obtain⟨y,_,rfl⟩:=Dp.1 hx;exact hk y
   ·rw[←p2];exact aVV Z fun p hp=>(z3 p (p1 p hp)).mono M (.refl _)
   match k',U with
   |0,_=>exact absurd rfl hne
   |k'+1,U=>simp at U
  |k+1,q=>simp at q)
 exact⟨_,ok,H,rfl,hg.1,.eF [] #[] rfl (fun i hi=>Ot)⟩
end Go.Proofs.YtkkdimcnpacjhaaGreat
end
section
namespace Go.Proofs.YtkkdimcnpacjhaaGreat
open Go.RowKit
def aWX {α:Type} (enc:α→D) (l:List α):D:=.agg (l.flatMap fun x=>(enc x).cells)
def aSI {α β:Type} {f:α→List β} {s:Nat} (q:∀x,(f x).length=s):∀(l:List α) (i:Nat) (a:α),l[i]? =some a→∀j,j<s→(l.flatMap f)[i*s+j]? =(f a)[j]?
 | [],i,a,h,j,_=>Ig
 |x::l,0,a,h,j,u=>by
  obtain rfl:x=a:=J3
  rw[JX,zV,Ij,GZ (by rw[q];exact u)]
 |x::l,i+1,a,h,j,u=>by
  have h':l[i]? =some a:=J3
  rw[JX,Jf (by rw[q,Pe];omega),q,show(i+1)*s+j-s=i*s+j by rw[Pe];omega];exact aSI q l i a h' j u
def aXU {α β:Type} {f:α→List β} {s:Nat} (j:∀x,(f x).length=s):∀l:List α,(l.flatMap f).length=l.length*s
 | []=>Aw
 |x::l=>by rw[JX,E9,j,aXU j l,FV,Pe];omega
section
variable {P : Program} {o : Oper} {es : List Az} {α : Type}
def akq {x y:Operand} {t e:TypeId} {n s:Nat} {k:IntKind} {i:Int} (enc:α→D) {l:List α} {a:α} (h:Ag l i=some a) (ht:P.underlying t=some (.array n e)) (U:EI P e true s) (hl:l.length=n) (hs:∀x,∃cs,enc x=.agg cs∧cs.length=s) (ho:o.op=.index t x y):
 BR P o [(x,.d (aWX enc l)),(y,.d (.lit (.int k i)))] es (.d (enc a)) es:=
 .pure fun ok H ac w _ _ Y=>by
  obtain⟨h0,Z⟩:=JW h;have q:=(Eh Y).1;have hy:=(Eh Y).2.lit;simp only at q hy;have I:=(FI.1 Z).1;have hu:(underlying t).run P w=.ok (.array n e) w:=ND
  have hf:∀x,(enc x).cells.length=s:=fun x=>by obtain⟨cs,e1,e2⟩:=hs x;rw[e1];exact e2
  have J:=aXU (f:=fun x=>(enc x).cells) hf l;have u:=aSI (f:=fun x=>(enc x).cells) hf l i.toNat a Z;obtain⟨cs,ea,el⟩:=hs a;generalize hv:ac.eval x=v at q;cases q with
  |d _ _ q=>
   cases q with
   |agg _ vs L z hc=>
    rw[J]at L z hc
    have hm:i.toNat*s+s≤l.length*s:=by
     have :=JR s I;rw[Pe]at this;exact this
    refine⟨.agg (vs.extract (i.toNat*s) (i.toNat*s+s)),?_,?_⟩
    ·have hb:0≤i∧i<n:=⟨h0,AA⟩
     simp only[execOp,ho,hv,hy,Instr.index,asIntOf,FD,GI,hu,FP,hb,and_self,JV,U.size w,part,U.agg w]
    rw[ea];rw[ea]at u;have M:(vs.extract (i.toNat*s) (i.toNat*s+s)).size=s:=by rw[Array.size_extract];omega
    have hg:∀j,j<s→cs.getD j Dh=(l.flatMap fun x=>(enc x).cells).getD (i.toNat*s+j) Dh:=fun j O=>by
     simp only[jB];rw[u j O];rfl
    refine .d _ _ (.agg _ _ (by rw[M,el]) (fun j O=>?_) (fun j O=>?_))
    ·rw[hg j AA];exact z _ AA
    rw[hg j AA];have :=hc (i.toNat*s+j) AA
    have e3:(vs.extract (i.toNat*s) (i.toNat*s+s)).getD j undef=vs.getD (i.toNat*s+j) undef:=by
     have h5:i.toNat*s+j<vs.size:=AA
     have h6:j<(vs.extract (i.toNat*s) (i.toNat*s+s)).size:=AA
     rw[Array.getD,dif_pos h6,Array.getD,dif_pos h5];show(vs.extract _ _)[j]=vs[i.toNat*s+j];rw[Array.getElem_extract]
    rw[e3];exact this
end
section
variable {P : Program} {o : Oper} {es : List Az}
def Pj {f:FuncId} {ops:Array Operand} {ats:Array TypeId} (dU:List Aa) {fC:List Aa} {j res':Aa} {E':List Az} (q:Aq P f fC [] j E') (u:o.op=.call { callee:=.value (.func f),args:=ops,argTypes:=ats }) (z:BA P f=true:=by kernel_rfl) (I:E'.all Az.closed=true:=by kernel_rfl)
 (ha:MS [] dU fC:=by repeat (first|exact trivial|refine⟨.inl rfl,?_⟩|refine⟨.inr (.inr ⟨rfl,rfl⟩),?_⟩)) (hl:ops.toList.length=dU.length:=by kernel_rfl) (J:j.up [] es.length=res':=by kernel_rfl):BR P o (FM ops.toList dU) es res' (es++E'):=abH q z I ha hl J u
def aJp {f:FuncId} {ops:Array Operand} {ats:Array TypeId} (dU:List Aa) {fC:List Aa} {j res':Aa} (q:Aq P f fC [] j []) (u:o.op=.call { callee:=.value (.func f),args:=ops,argTypes:=ats }) (z:BA P f=true:=by kernel_rfl)
 (ha:MS [] dU fC:=by repeat (first|exact trivial|refine⟨.inl rfl,?_⟩|refine⟨.inr (.inr ⟨rfl,rfl⟩),?_⟩)) (hl:ops.toList.length=dU.length:=by kernel_rfl) (I:j.up [] es.length=res':=by kernel_rfl):BR P o (FM ops.toList dU) es res' es:=aQv q z ha hl I u
def Ef {f:FuncId} {ops:Array Operand} {ats:Array TypeId} (srcs:List Dj) (dU:List Aa) {fC:List Aa} {E E':List Az} {j res':Aa} (q:Aq P f fC E j E') (u:o.op=.call { callee:=.value (.func f),args:=ops,argTypes:=ats }) (z:BA P f=true:=by kernel_rfl) (I:RZ srcs es E E'=true:=by kernel_rfl)
 (hE:Sv srcs es srcs E:=by first|exact trivial|exact P6 A8 trivial) (ha:MS srcs dU fC:=by repeat (first|exact trivial|refine⟨.inl rfl,?_⟩|refine⟨⟨0,rfl,rfl⟩,?_⟩|refine⟨⟨1,rfl,rfl⟩,?_⟩|refine⟨⟨2,rfl,rfl⟩,?_⟩|refine⟨.inr (.inr ⟨rfl,rfl⟩),?_⟩)) (hl:ops.toList.length=dU.length:=by kernel_rfl)
 (J:res'=j.up srcs es.length:=by kernel_rfl):BR P o (FM ops.toList dU) es res' (Lh srcs es E'):=ahB srcs q z I hE ha hl J u
def ZV {f:FuncId} {x:Operand} {ops:Array Operand} {ats:Array TypeId} (srcs:List Dj) (fi ca dU:List Aa) {fC:List Aa} {E E':List Az} {j res':Aa} (q:Aq P f fC E j E') (u:o.op=.call { callee:=.value x,args:=ops,argTypes:=ats }) (z:BA P f=true:=by kernel_rfl) (I:RZ srcs es E E'=true:=by kernel_rfl)
 (hE:Sv srcs es srcs E:=by first|exact trivial|exact P6 A8 trivial) (ha:MS srcs (fi++dU++ca) fC:=by repeat (first|exact trivial|refine⟨.inl rfl,?_⟩|refine⟨⟨0,rfl,rfl⟩,?_⟩|refine⟨⟨1,rfl,rfl⟩,?_⟩|refine⟨⟨2,rfl,rfl⟩,?_⟩|refine⟨.inr (.inr ⟨rfl,rfl⟩),?_⟩)) (hl:ops.toList.length=dU.length:=by kernel_rfl)
 (J:res'=j.up srcs es.length:=by kernel_rfl):BR P o ((x,.fn (.func f) fi ca)::FM ops.toList dU) es res' (Lh srcs es E'):=aoE srcs fi ca q z I hE ha hl J u
def aW7 {f:FuncId} {x:Operand} {ops:Array Operand} {ats:Array TypeId} (srcs:List Dj) (fi ca:List D) (dU:List Aa) {fC:List Aa} {E E':List Az} {j res':Aa} (q:Aq P f fC E j E') (u:o.op=.call { callee:=.value x,args:=ops,argTypes:=ats }) (z:BA P f=true:=by kernel_rfl) (I:RZ srcs es E E'=true:=by kernel_rfl)
 (hE:Sv srcs es srcs E:=by first|exact trivial|exact P6 A8 trivial) (ha:MS srcs (fi.map .d++dU++ca.map .d) fC:=by repeat (first|exact trivial|refine⟨.inl rfl,?_⟩|refine⟨⟨0,rfl,rfl⟩,?_⟩|refine⟨⟨1,rfl,rfl⟩,?_⟩|refine⟨⟨2,rfl,rfl⟩,?_⟩|refine⟨.inr (.inr ⟨rfl,rfl⟩),?_⟩)) (hl:ops.toList.length=dU.length:=by kernel_rfl)
 (J:res'=j.up srcs es.length:=by kernel_rfl):BR P o ((x,.d (.fn (.func f) fi ca))::FM ops.toList dU) es res' (Lh srcs es E'):=aff srcs fi ca q z I hE ha hl J u
end
section
variable {P : Program} {ops : Array Oper} {o : Oper} {rest l : List Oper} {σ : Ak} {K : Exit → Ak → Prop}
def Ch.ca {f:FuncId} {dU:List Aa} {j:Aa} (q:Aq P f dU [] j []) (k:Ch P ops rest (σ.rQ o.dst (j.up [] σ.ents.length)) K) (u:BA P f=true:=by kernel_rfl) (z:UJ σ o=some (f,dU):=by kernel_rfl)
 (hd:dU.all Aa.AO=true:=by kernel_rfl) (I:Ja ops σ o.guard=some true:=by kernel_rfl):Ch P ops (o::rest) σ K:=.call q u k z hd I
def Et.ca {σ':Ak} {f:FuncId} {dU:List Aa} {j:Aa} {rs:List Aa} {ess:List (List Az)} {bs:List Bool} (q:Aq P f dU [] j []) (k:Et P ops rest (σ.rQ o.dst (j.up [] σ.ents.length)) rs ess bs σ') (u:BA P f=true:=by kernel_rfl) (z:UJ σ o=some (f,dU):=by kernel_rfl)
 (hd:dU.all Aa.AO=true:=by kernel_rfl) (I:Ja ops σ o.guard=some true:=by kernel_rfl):Et P ops (o::rest) σ (j.up [] σ.ents.length::rs) (σ.ents::ess) (false::bs) σ':=.call q u k z hd I
end
section
variable {P : Program} {ops : Array Oper} {o : Oper} {rest l : List Oper} {σ : Ak} {K : Exit → Ak → Prop}
def Ch.aW [T:Kn P] {M:Ak→Prop} (k:M (SK (I7 T ops l.length l σ))) (h:(I7 T ops l.length l σ).isSome=true:=by kernel_rfl):Ch P ops l σ (Kw M K):=.aM l.length k rfl h
def Ch.bi [T:Kn P] {A:Type} {b:Bool} {u v z:A} (h:(bif b then u else v)=z) (j:u=z→Ch P ops rest (σ.rQ o.dst (.d (.lit (.bool true)))) K:=by exact fun h=>.aW<|Ez) (k2:v=z→Ch P ops rest (σ.rQ o.dst (.d (.lit (.bool false)))) K:=by exact fun h=>.aW<|Ez)
 (hs:(XA T ops σ o).map (fun r=>(r.x,r.E,r.bar))=some (.d (.lit (.bool b)),σ.ents,false):=by kernel_rfl):Ch P ops (o::rest) σ K:=Fp h (fun e h=>.c (Ap some e) (j h) hs) fun e h=>.c (Ap some e) (k2 h) hs
def G8 {A:Type} {b:Bool} {u v z:A} {G:Prop} (h:(bif b then u else v)=z) (j:b=true→u=z→G:=by exact fun e i=>aa3) (k2:b=false→v=z→G:=by exact fun e i=>aa3):G:=Fp h j k2
def Ac [T:Kn P] {id:Nat} {y:Code} {Q:Exit→Ak→Prop} (k:AV P y (SK (I7 T ops ops.toList.length ops.toList σ)) Q) (h:(I7 T ops ops.toList.length ops.toList σ).isSome=true:=by kernel_rfl):AV P (.seq (.region id ops false) y) σ Q:=AQ (.aW k h)
end
section
variable {P : Program} {ops : Array Oper} {l : List Oper} {σ : Ak} {K : Exit → Ak → Prop}
def Ch.mg (a c:Nat) (x:Aa) (j:Ch P ops (l.take (c+1)) σ (Kw (fun s=>s.wipe (List.range' a c)=(σ.wipe (List.range' a c)).rQ (some (a+c)) x) K)) (q:Ch P ops (l.drop (c+1)) ((σ.wipe (List.range' a c)).rQ (some (a+c)) x) K):Ch P ops l σ K:=.merge (c+1) (List.range' a c) (a+c) x j q
end
def Af {σ S:Ak} (n w:Nat) (π:List (Nat×Bool)) (j:Ug σ.base σ.ents π=true:=by kernel_rfl) (q:S=⟨Kr π (mk n w) σ.slots,SB σ.ents π,σ.base⟩:=by kernel_rfl):CW σ S:=anv (mk n w) π j q
def Ny {α β:Type} {y:α} {g:α→Option (Except Value β)} {r:Except Value β} (h:LJ (.ok y) g=some r):g y=some r:=h
def O7 {α β:Type} {u:Value} {g:α→Option (Except Value β)} {r:Except Value β} (h:LJ (.error u) g=some r):some (.error u)=some r:=h
def BK :ByteArray:=⟨#[]⟩
def kK (k:IntKind) (n:Int):D:=.lit (.int k n)
def lQ :ByteArray:=⟨#[58]⟩
def sV :ByteArray:=⟨#[33]⟩
def wR :ByteArray:=⟨#[64]⟩
def vY :ByteArray:=⟨#[64,33]⟩
def aFf :ByteArray:=⟨#[33,114,58,97]⟩
def X4 :ByteArray:=⟨#[64,97,110,110,58,97]⟩
def aQr :ByteArray:=⟨#[64,98,111,98,58,98]⟩
def Ju :ByteArray:=⟨#[84,101,120,116]⟩
def KN :ByteArray:=⟨#[78]⟩
def Me :ByteArray:=⟨#[86,105,97]⟩
def MQ :ByteArray:=⟨#[76,101,118,101,108,115]⟩
def Ln :ByteArray:=⟨#[65,108,108,111,119]⟩
def MK :ByteArray:=⟨#[68,101,110,121]⟩
def Ji :ByteArray:=⟨#[84,97,114,103,101,116]⟩
def N9 :ByteArray:=⟨#[84,104,114,101,97,100]⟩
def Bz :Value:=.int .i64 0
def Cb :Value:=.string BK
def El :Value:=.slice none 0 0
def Mid :Value:=.agg #[El,El,Bz,Bz,Bz,Bz,Bz,Bz,Bz]
def aBg :Value:=.agg #[Cb,Bz,Bz,.bool false,Cb,El,El,El,El,Bz,Bz,Bz,Bz,Bz,Bz,Bz]
def aAA :Value:=.agg #[Cb,Bz]
def aCL :Value:=.agg #[Bz,Cb,Cb,Bz,.bool false,Cb,Bz,Bz,El,El,Cb,Bz,Bz,.bool false,Cb,El,El,El,El,Bz,Bz,Bz,Bz,Bz,Bz,Bz,Bz,Cb,Bz]
def aDP :Value:=.agg #[Bz,Bz,Bz]
def aGA :Value:=.agg #[.map none,.map none,.map none]
def aEM :Value:=.agg #[Cb,Bz]
def aVf :Value:=.agg #[Bz,Bz]
def aEj :Value:=.agg #[Bz,Cb,Bz]
def aAE :Value:=.agg #[Bz,Cb,Cb,Bz,.bool false,Cb,Bz,Bz,El,El,Cb,Bz,Bz,.bool false,Cb,El,El,El,El,Bz,Bz,Bz,Bz,Bz,Bz,Bz,Bz,Cb,Bz,Bz,Cb,Cb,Bz,.bool false,Cb,Bz,Bz,El,El,Cb,Bz,Bz,.bool false,Cb,El,El,El,El,Bz,Bz,Bz,Bz,Bz,Bz,Bz,Bz,Cb,Bz,Bz,Cb,Cb,Bz,.bool false,Cb,Bz,Bz,El,El,Cb,Bz,Bz,.bool false,Cb,El,El,El,El,Bz,Bz,Bz,Bz,Bz,Bz,Bz,Bz,Cb,Bz,Bz,Cb,Cb,Bz,.bool false,Cb,Bz,Bz,El,El,Cb,Bz,Bz,.bool false,Cb,El,El,El,El,Bz,Bz,Bz,Bz,Bz,Bz,Bz,Bz,Cb,Bz]
def aBs :Value:=.agg #[Bz]
def aSh :Value:=.agg #[El,El,El]
def aEA :Value:=.agg #[Bz,Cb]
def Rch :Value:=.agg #[Bz,.nilFunc]
def zZ :Value:=.agg #[Bz,El,El,Bz]
def aET :Value:=.agg #[Bz,Bz]
def aBH :Value:=.agg #[El]
def aAY :Value:=.agg #[Bz,Bz,Bz,Bz,Bz]
def aGD :Value:=.agg #[Bz,Bz,Bz,Bz,Bz,Bz,Bz]
def aCV :Value:=.agg #[El,El]
def zS :Value:=.agg #[El,El]
def aAc :Value:=.agg #[]
def aB6 :Value:=.agg #[El]
def aTg :Value:=.agg #[El,El,El,El,El]
def aB9 :Value:=.agg #[]
def aEG :Value:=.agg #[Bz,Bz,Bz,El]
def EvC :Value:=.agg #[Bz,Bz,Bz]
structure IX where
 User:ByteArray
 N:Int
def Gw (x:IX):D:=.agg [Dw x.User,Ad x.N]
def ai2 :IX:=⟨BK,0⟩
instance : Inhabited IX:=⟨ai2⟩
structure Jc where
 Kind:Int
 N:Int
def H6 (x:Jc):D:=.agg [Ad x.Kind,Ad x.N]
def aeM :Jc:=⟨0,0⟩
instance : Inhabited Jc:=⟨aeM⟩
structure Ba where
 Users:(List IX)
 Kinds:(List Jc)
 User:Int
 Message:Int
 State:Int
 gJ:Int
 kP:Int
 oD:Int
 iw:Int
def Ic (x:Ba):D:=.agg [(BM Gw) x.Users,(BM H6) x.Kinds,Ad x.User,Ad x.Message,Ad x.State,Ad x.gJ,Ad x.kP,Ad x.oD,Ad x.iw]
def L6 :Ba:=⟨[],[],0,0,0,0,0,0,0⟩
instance : Inhabited Ba:=⟨L6⟩
structure Bf where
 Text:ByteArray
 N:Int
 Target:Int
 Thread:Bool
 Via:ByteArray
 Allow:(List ByteArray)
 jd:(List ByteArray)
 Levels:Ba
def H7 (x:Bf):D:=.agg [Dw x.Text,Ad x.N,Ad x.Target,EC x.Thread,Dw x.Via,(BM Dw) x.Allow,(BM Dw) x.jd,(BM Gw) x.Levels.Users,(BM H6) x.Levels.Kinds,Ad x.Levels.User,Ad x.Levels.Message,Ad x.Levels.State,Ad x.Levels.gJ,Ad x.Levels.kP,Ad x.Levels.oD,Ad x.Levels.iw]
def Dq :Bf:=⟨BK,0,0,false,BK,[],[],L6⟩
instance : Inhabited Bf:=⟨Dq⟩
structure PW where
 Server:ByteArray
 Sum:Int
def bZ :PW:=⟨BK,0⟩
instance : Inhabited PW:=⟨bZ⟩
structure AB where
 Id:Int
 Room:ByteArray
 aU:ByteArray
 Kind:Int
 State:Bool
 Key:ByteArray
 Time:Int
 Depth:Int
 aZ:(List Int)
 bg:(List Int)
 Content:Bf
 Hash:Int
 su:PW
def Au (x:AB):D:=.agg [Ad x.Id,Dw x.Room,Dw x.aU,Ad x.Kind,EC x.State,Dw x.Key,Ad x.Time,Ad x.Depth,(BM Ad) x.aZ,(BM Ad) x.bg,Dw x.Content.Text,Ad x.Content.N,Ad x.Content.Target,EC x.Content.Thread,Dw x.Content.Via,(BM Dw) x.Content.Allow,(BM Dw) x.Content.jd,(BM Gw) x.Content.Levels.Users,(BM H6) x.Content.Levels.Kinds,Ad x.Content.Levels.User,Ad x.Content.Levels.Message,Ad x.Content.Levels.State,Ad x.Content.Levels.gJ,Ad x.Content.Levels.kP,Ad x.Content.Levels.oD,Ad x.Content.Levels.iw,Ad x.Hash,Dw x.su.Server,Ad x.su.Sum]
def Bh :AB:=⟨0,BK,BK,0,false,BK,0,0,[],[],Dq,0,bZ⟩
instance : Inhabited AB:=⟨Bh⟩
structure F9 where
 b_:(List Int)
def LH (x:F9):D:=.agg [(BM Cc) x.b_]
def aAx :F9:=⟨[]⟩
instance : Inhabited F9:=⟨aAx⟩
structure OB where
 aAM:Int
 asF:Nat
def V3 (x:OB):D:=.agg [Ad x.aAM,aSa x.asF]
def air :OB:=⟨0,0⟩
instance : Inhabited OB:=⟨air⟩
structure Ru where
 oP:Int
 mZ:Int
def JJ (x:Ru):D:=.agg [Ad x.oP,Ad x.mZ]
def aAI :Ru:=⟨0,0⟩
instance : Inhabited Ru:=⟨aAI⟩
structure Ah where
 Kind:Int
 Key:ByteArray
 Id:Int
def BX (x:Ah):D:=.agg [Ad x.Kind,Dw x.Key,Ad x.Id]
def ahZ :Ah:=⟨0,BK,0⟩
instance : Inhabited Ah:=⟨ahZ⟩
structure kH where
 amU:Int
def ak8 :kH:=⟨0⟩
instance : Inhabited kH:=⟨ak8⟩
structure Wp where
def vH (x:Wp):D:=.agg []
def adP :Wp:=⟨⟩
instance : Inhabited Wp:=⟨adP⟩
structure OY where
 Ee:(List Ah)
 ajJ:(List Int)
 asH:(List Int)
def Zq (x:OY):D:=.agg [(BM BX) x.Ee,(BM Ad) x.ajJ,(BM Ad) x.asH]
def aEm :OY:=⟨[],[],[]⟩
instance : Inhabited OY:=⟨aEm⟩
structure QJ where
 mZ:Int
 IL:Int
 Bq:Int
 asI:(List Int)
def KQ (x:QJ):D:=.agg [Ad x.mZ,Ad x.IL,Ad x.Bq,(BM Ad) x.asI]
def amo :QJ:=⟨0,0,0,[]⟩
instance : Inhabited QJ:=⟨amo⟩
structure QF where
 XV:Int
 XW:ByteArray
def KI (x:QF):D:=.agg [Ad x.XV,Dw x.XW]
def am9 :QF:=⟨0,BK⟩
instance : Inhabited QF:=⟨am9⟩
structure WU where
 arH:(List Int)
def nD (x:WU):D:=.agg [(BM Ad) x.arH]
def adW :WU:=⟨[]⟩
instance : Inhabited WU:=⟨adW⟩
structure KP where
 mZ:Int
 zB:Int
 Bq:Int
def Nz (x:KP):D:=.agg [Ad x.mZ,Ad x.zB,Ad x.Bq]
def anr :KP:=⟨0,0,0⟩
instance : Inhabited KP:=⟨anr⟩
structure aQI where
 Depth:Int
 Id:Int
 Target:Int
def agT :aQI:=⟨0,0,0⟩
instance : Inhabited aQI:=⟨agT⟩
structure aVM where
 User:ByteArray
 Kind:Int
 Key:ByteArray
 Content:Bf
 Time:Int
def akz :aVM:=⟨BK,0,BK,Dq,0⟩
instance : Inhabited aVM:=⟨akz⟩
structure JO where
 Id:Int
 Before:(List Ah)
 After:(List Ah)
 Err:Int
def kL :JO:=⟨0,[],[],0⟩
instance : Inhabited JO:=⟨kL⟩
structure Ov where
 Same:(List Ah)
 Power:(List Int)
 First:(List Ah)
 Others:(List Int)
 Last:(List Ah)
def lu :Ov:=⟨[],[],[],[],[]⟩
instance : Inhabited Ov:=⟨lu⟩
structure ZA where
 Room:ByteArray
 User:ByteArray
 Time:Int
 Rule:Int
 Visibility:Int
def vP (x:ZA):D:=.agg [Dw x.Room,Dw x.User,Ad x.Time,Ad x.Rule,Ad x.Visibility]
def anI :ZA:=⟨BK,BK,0,0,0⟩
instance : Inhabited ZA:=⟨anI⟩
def aeC :DN Tryz.prog 39 10 10:=Dc A8
def aHu :EI Tryz.prog 30 true 16:=Fr A8
def zero30 :(Tryz.prog.info? 30).bind (·.zero)=some (aBg):=A8
def ajT :DN Tryz.prog 39 8 8:=Dc A8
def aWB :EI Tryz.prog 35 false 1:=Fr A8
def CQ :Tryz.prog.underlying 35=some (.slice 3):=A8
def ail :DN Tryz.prog 39 9 9:=Dc A8
def ado :DN Tryz.prog 30 5 5:=Dc A8
def aja :EI Tryz.prog 24 false 1:=Fr A8
def Jb :Tryz.prog.underlying 24=some (.slice 9):=A8
def agp :DN Tryz.prog 30 6 6:=Dc A8
def apq :DN Tryz.prog 30 7 7:=Dc A8
def ai7 :DN Tryz.prog 28 0 0:=Dc A8
def aU7 :EI Tryz.prog 25 false 1:=Fr A8
def Jv :Tryz.prog.underlying 25=some (.slice 108):=A8
def aiU :DN Tryz.prog 28 1 1:=Dc A8
def aaH :EI Tryz.prog 26 false 1:=Fr A8
def KD :Tryz.prog.underlying 26=some (.slice 111):=A8
def ahr :DN Tryz.prog 39 1 1:=Dc A8
def QB :EI Tryz.prog 9 false 1:=Fr A8
def MO :Tryz.prog.underlying 9=some (.string):=A8
def acj :DN Tryz.prog 39 2 2:=Dc A8
def ae6 :DN Tryz.prog 39 5 5:=Dc A8
def ajh :DN Tryz.prog 30 0 0:=Dc A8
def apI :DN Tryz.prog 30 4 4:=Dc A8
def anD :DN Tryz.prog 39 12 27:=Dc A8
def apA :DN Tryz.prog 37 0 0:=Dc A8
def Uh :EI Tryz.prog 108 true 2:=Fr A8
def aia :DN Tryz.prog 108 0 0:=Dc A8
def CV :Tryz.prog.underlying 22=some (.slice 39):=A8
def DU :EI Tryz.prog 39 true 29:=Fr A8
def Xc :Tryz.prog.underlying 159=some (.slice 5):=A8
def JE :Gs Tryz.prog 159 5 1 1:=NW A8
def Qa :(Tryz.prog.info? 5).bind (·.zero)=some (.int .u8 0):=A8
def Xt :Tryz.prog.underlying 3=some (.int .i64):=A8
def aj3 :Tryz.prog.underlying 214=some (.int .u64):=A8
def aOW :Tryz.prog.underlying 5=some (.int .u8):=A8
def aro :BA Tryz.prog 328=true:=A8
def atZ :BA Tryz.prog 327=true:=A8
def ar0 :BA Tryz.prog 326=true:=A8
def asE :BA Tryz.prog 329=true:=A8
def aqH :BA Tryz.prog 251=true:=A8
def an5 :DN Tryz.prog 30 1 1:=Dc A8
def Dv :EI Tryz.prog 3 false 1:=Fr A8
def aqR :BA Tryz.prog 252=true:=A8
def anx :DN Tryz.prog 30 2 2:=Dc A8
def ahR :DN Tryz.prog 30 3 3:=Dc A8
def aRG :EI Tryz.prog 4 false 1:=Fr A8
def asG :BA Tryz.prog 253=true:=A8
def as7 :BA Tryz.prog 254=true:=A8
def qN :EI Tryz.prog 28 true 9:=Fr A8
def aQc :(Tryz.prog.info? 28).bind (·.zero)=some (Mid):=A8
def aBI :(Tryz.prog.info? 108).bind (·.zero)=some (aEM):=A8
def afF :DN Tryz.prog 108 1 1:=Dc A8
def V5 :EI Tryz.prog 111 true 2:=Fr A8
def aaF :(Tryz.prog.info? 111).bind (·.zero)=some (aVf):=A8
def ako :DN Tryz.prog 111 0 0:=Dc A8
def aF6 :EI Tryz.prog 23 false 1:=Fr A8
def ac7 :DN Tryz.prog 111 1 1:=Dc A8
def amq :DN Tryz.prog 28 2 2:=Dc A8
def ap7 :DN Tryz.prog 28 3 3:=Dc A8
def aep :DN Tryz.prog 28 4 4:=Dc A8
def amj :DN Tryz.prog 28 5 5:=Dc A8
def aoh :DN Tryz.prog 28 6 6:=Dc A8
def anl :DN Tryz.prog 28 7 7:=Dc A8
def ahh :DN Tryz.prog 28 8 8:=Dc A8
def aQP :(Tryz.prog.info? 239).bind (·.zero)=some (aGD):=A8
def apL :Y4 Tryz.prog 239 1 (aGD):=sD A8 aQP A8
def aAF :Tryz.prog.underlying 239=some (.array 7 3):=A8
def aK6 :EI Tryz.prog 5 false 1:=Fr A8
def atL :BA Tryz.prog 222=true:=A8
def as6 :BA Tryz.prog 221=true:=A8
def arA :BA Tryz.prog 158=true:=A8
def ase :BA Tryz.prog 138=true:=A8
def dc :Gs Tryz.prog 24 9 1 16:=NW A8
def aDL :Gs Tryz.prog 25 108 2 24:=NW A8
def aL3 :Gs Tryz.prog 26 111 2 16:=NW A8
def arI :BA Tryz.prog 172=true:=A8
def aqz :BA Tryz.prog 135=true:=A8
def at1 :BA Tryz.prog 136=true:=A8
def atY :BA Tryz.prog 137=true:=A8
def MZ :(Tryz.prog.info? 39).bind (·.zero)=some (aCL):=A8
def agh :DN Tryz.prog 39 3 3:=Dc A8
def arB :BA Tryz.prog 76=true:=A8
def aWS :(Tryz.prog.info? 225).bind (·.zero)=some (aBH):=A8
def alE :JB Tryz.prog 225 [(0,1)] (aBH):=LV A8 aWS A8
def amN :DN Tryz.prog 39 0 0:=Dc A8
def Eu :Gs Tryz.prog 35 3 1 8:=NW A8
def zero3 :(Tryz.prog.info? 3).bind (·.zero)=some (.int .i64 0):=A8
def anS :DN Tryz.prog 225 0 0:=Dc A8
def anc :EI Tryz.prog 159 false 1:=Fr A8
def aqW :BA Tryz.prog 224=true:=A8
def arJ :BA Tryz.prog 223=true:=A8
def zero9 :(Tryz.prog.info? 9).bind (·.zero)=some (.string BK):=A8
def asi :BA Tryz.prog 226=true:=A8
def arq :BA Tryz.prog 225=true:=A8
def ao9 :DN Tryz.prog 39 4 4:=Dc A8
def am7 :Gs Tryz.prog 286 4 1 1:=NW A8
def nP :(Tryz.prog.info? 4).bind (·.zero)=some (.bool false):=A8
def aVa :Tryz.prog.underlying 286=some (.slice 4):=A8
def aqh :BA Tryz.prog 228=true:=A8
def asB :BA Tryz.prog 227=true:=A8
def aif :DN Tryz.prog 39 6 6:=Dc A8
def abu :DN Tryz.prog 39 7 7:=Dc A8
def ahq :Gs Tryz.prog 287 35 1 24:=NW A8
def aFY :(Tryz.prog.info? 35).bind (·.zero)=some (.slice none 0 0):=A8
def aXJ :Tryz.prog.underlying 287=some (.slice 35):=A8
def at6 :BA Tryz.prog 369=true:=A8
def aqE :BA Tryz.prog 315=true:=A8
def asn :BA Tryz.prog 230=true:=A8
def arn :BA Tryz.prog 229=true:=A8
def apB :DN Tryz.prog 39 11 26:=Dc A8
def abk :DN Tryz.prog 37 1 1:=Dc A8
def arx :BA Tryz.prog 122=true:=A8
def aWd :(Tryz.prog.info? 37).bind (·.zero)=some (aAA):=A8
def am3 :JB Tryz.prog 37 [(0,1),(1,1)] (aAA):=LV A8 aWd A8
def al2 :EI Tryz.prog 37 true 2:=Fr A8
def asg :BA Tryz.prog 139=true:=A8
def atQ :BA Tryz.prog 92=true:=A8
def aq3 :BA Tryz.prog 77=true:=A8
def arC :BA Tryz.prog 35=true:=A8
def asw :BA Tryz.prog 125=true:=A8
def ad5 :BA Tryz.prog 126=true:=A8
def J5 :Gs Tryz.prog 22 39 29 376:=NW A8
def asq :BA Tryz.prog 64=true:=A8
def aqV :BA Tryz.prog 79=true:=A8
def arD :BA Tryz.prog 74=true:=A8
def aqt :BA Tryz.prog 80=true:=A8
def atI :BA Tryz.prog 317=true:=A8
def aqa :BA Tryz.prog 232=true:=A8
def asV :BA Tryz.prog 236=true:=A8
def aq9 :BA Tryz.prog 233=true:=A8
def amS :BA Tryz.prog 234=true:=A8
def ap0 :BA Tryz.prog 235=true:=A8
def aqr :BA Tryz.prog 140=true:=A8
def aqc :BA Tryz.prog 141=true:=A8
def asb :BA Tryz.prog 142=true:=A8
def asL :BA Tryz.prog 143=true:=A8
def aq1 :BA Tryz.prog 78=true:=A8
def as5 :BA Tryz.prog 272=true:=A8
def atP :BA Tryz.prog 169=true:=A8
def arz :BA Tryz.prog 170=true:=A8
def ars :BA Tryz.prog 171=true:=A8
def ar7 :BA Tryz.prog 273=true:=A8
def asa :BA Tryz.prog 274=true:=A8
def aqk :BA Tryz.prog 277=true:=A8
def aru :BA Tryz.prog 173=true:=A8
def arV :BA Tryz.prog 275=true:=A8
def aq7 :BA Tryz.prog 276=true:=A8
def at7 :BA Tryz.prog 174=true:=A8
def aJK :(Tryz.prog.info? 191).bind (·.zero)=some (Rch):=A8
def agL :JB Tryz.prog 191 [(0,1),(1,1)] (Rch):=LV A8 aJK A8
def ait :Gs Tryz.prog 192 191 2 16:=NW A8
def aVO :Tryz.prog.underlying 192=some (.slice 191):=A8
def aR6 :EI Tryz.prog 191 true 2:=Fr A8
def afl :DN Tryz.prog 191 0 0:=Dc A8
def ada :DN Tryz.prog 191 1 1:=Dc A8
def apS :EI Tryz.prog 137 false 1:=Fr A8
def aqf :BA Tryz.prog 181=true:=A8
def aeW :BA Tryz.prog 175=true:=A8
def apM :BA Tryz.prog 176=true:=A8
def acp :BA Tryz.prog 177=true:=A8
def alP :BA Tryz.prog 178=true:=A8
def abN :BA Tryz.prog 179=true:=A8
def anG :BA Tryz.prog 180=true:=A8
def atD :BA Tryz.prog 182=true:=A8
def asK :BA Tryz.prog 98=true:=A8
def akE :Tryz.prog.underlying 4=some (.bool):=A8
def atS :BA Tryz.prog 101=true:=A8
def aqM :BA Tryz.prog 102=true:=A8
def aqU :BA Tryz.prog 103=true:=A8
def aAO (x y:IX):Bool:=(x.User.toList==y.User.toList&&(x.N==y.N&&true))
def afY (x y:IX):fJ Tryz.prog 2 108 [.string x.User,.int .i64 x.N] [.string y.User,.int .i64 y.N] (aAO x y):=⟨fun d w=>aBe A8 A8 A8 (l:=[(9,0),(3,1)]) A8 (VX (MV QB A8 w) (MV QB A8 w) (run_equalIn_string w _ _ _ _ MO)<|VX (MV Dv A8 w) (MV Dv A8 w) (ZI w _ _ .i64 _ _ _ Xt)<|aAD _ _ _ _)⟩
def ahA :Program.eqGuardType Tryz.prog (Program.depth Tryz.prog) 108=false:=A8
def aaL :Tryz.prog.underlying 23=some (.int .i64):=A8
def aDe (x y:Jc):Bool:=(x.Kind==y.Kind&&(x.N==y.N&&true))
def acd (x y:Jc):fJ Tryz.prog 2 111 [.int .i64 x.Kind,.int .i64 x.N] [.int .i64 y.Kind,.int .i64 y.N] (aDe x y):=⟨fun d w=>aBe A8 A8 A8 (l:=[(23,0),(3,1)]) A8 (VX (MV aF6 A8 w) (MV aF6 A8 w) (ZI w _ _ .i64 _ _ _ aaL)<|VX (MV Dv A8 w) (MV Dv A8 w) (ZI w _ _ .i64 _ _ _ Xt)<|aAD _ _ _ _)⟩
def ac2 :Program.eqGuardType Tryz.prog (Program.depth Tryz.prog) 111=false:=A8
def arT :BA Tryz.prog 132=true:=A8
def aq2 :BA Tryz.prog 133=true:=A8
def asJ :BA Tryz.prog 134=true:=A8
def aq5 :BA Tryz.prog 46=true:=A8
def atE :BA Tryz.prog 75=true:=A8
def as9 :BA Tryz.prog 30=true:=A8
def aF7 (x y:PW):Bool:=(x.Server.toList==y.Server.toList&&(x.Sum==y.Sum&&true))
def ak1 (x y:PW):fJ Tryz.prog 2 37 [.string x.Server,.int .i64 x.Sum] [.string y.Server,.int .i64 y.Sum] (aF7 x y):=⟨fun d w=>aBe A8 A8 A8 (l:=[(9,0),(3,1)]) A8 (VX (MV QB A8 w) (MV QB A8 w) (run_equalIn_string w _ _ _ _ MO)<|VX (MV Dv A8 w) (MV Dv A8 w) (ZI w _ _ .i64 _ _ _ Xt)<|aAD _ _ _ _)⟩
def ac4 :Program.eqGuardType Tryz.prog (Program.depth Tryz.prog) 37=false:=A8
def aqi :BA Tryz.prog 29=true:=A8
def Qd :Tryz.prog.underlying 172=some (.map 3 3):=A8
def Io :KeyTy Tryz.prog 3 CY:=akS Xt
def arM :BA Tryz.prog 153=true:=A8
def acY :(Tryz.prog.info? 172).bind (·.zero)=some (.map none):=A8
def ae9 :EI Tryz.prog 172 false 1:=Fr A8
def atJ :BA Tryz.prog 311=true:=A8
def ar5 :BA Tryz.prog 217=true:=A8
def arp :BA Tryz.prog 218=true:=A8
def aNC :Gs Tryz.prog 216 218 2 16:=NW A8
def aDp :(Tryz.prog.info? 218).bind (·.zero)=some (aET):=A8
def adl :JB Tryz.prog 218 [(0,1),(1,1)] (aET):=LV A8 aDp A8
def Y5 :Tryz.prog.underlying 216=some (.slice 218):=A8
def U7 :EI Tryz.prog 218 true 2:=Fr A8
def acn :DN Tryz.prog 218 0 0:=Dc A8
def abm :DN Tryz.prog 218 1 1:=Dc A8
def apk :JB Tryz.prog 39 [(0,1),(1,1),(2,1),(3,1),(4,1),(5,1),(6,1),(7,1),(8,1),(9,1),(10,16),(26,1),(27,2)] (aCL):=LV A8 MZ A8
def XL :Tryz.prog.underlying 51=some (.slice 116):=A8
def PZ :EI Tryz.prog 116 true 3:=Fr A8
def lI :(Tryz.prog.info? 116).bind (·.zero)=some (aEj):=A8
def apl :JB Tryz.prog 116 [(0,1),(1,1),(2,1)] (aEj):=LV A8 lI A8
def aiX :DN Tryz.prog 116 0 0:=Dc A8
def an3 :DN Tryz.prog 116 1 1:=Dc A8
def aqG :BA Tryz.prog 367=true:=A8
def asP :BA Tryz.prog 365=true:=A8
def alR :BA Tryz.prog 366=true:=A8
def agi :BA Tryz.prog 368=true:=A8
def arW :BA Tryz.prog 314=true:=A8
def Jj :Tryz.prog.underlying 52=some (.slice 116):=A8
def aoj :DN Tryz.prog 116 2 2:=Dc A8
def VZ :Tryz.prog.underlying 129=some (.slice 52):=A8
def rZ :EI Tryz.prog 52 false 1:=Fr A8
def atT :BA Tryz.prog 248=true:=A8
def aqA :BA Tryz.prog 243=true:=A8
def arF :BA Tryz.prog 61=true:=A8
def as8 :BA Tryz.prog 62=true:=A8
def YM :(Tryz.prog.info? 52).bind (·.zero)=some (.slice none 0 0):=A8
def abd :EI Tryz.prog 129 false 1:=Fr A8
def aqK :BA Tryz.prog 72=true:=A8
def aQm :BA Tryz.prog 131=true:=A8
def asX :BA Tryz.prog 319=true:=A8
def V4 :Gs Tryz.prog 52 116 3 32:=NW A8
def uD :BA Tryz.prog 154=true:=A8
def Zj :Tryz.prog.underlying 117=some (.map 3 4):=A8
def ai1 :BA Tryz.prog 374=true:=A8
def ano :BA Tryz.prog 375=true:=A8
def aUe :BA Tryz.prog 322=true:=A8
def aqI :BA Tryz.prog 373=true:=A8
def aqu :BA Tryz.prog 244=true:=A8
def asx :BA Tryz.prog 320=true:=A8
def arh :BA Tryz.prog 400=true:=A8
def aTP :BA Tryz.prog 376=true:=A8
def aqY :BA Tryz.prog 21=true:=A8
def aqo :BA Tryz.prog 321=true:=A8
def arG :BA Tryz.prog 323=true:=A8
def oZ :BA Tryz.prog 220=true:=A8
def am6 :BA Tryz.prog 414=true:=A8
def asC :BA Tryz.prog 28=true:=A8
def ark :BA Tryz.prog 271=true:=A8
def aqn :BA Tryz.prog 413=true:=A8
def an8 :EI Tryz.prog 22 false 1:=Fr A8
def aqB :BA Tryz.prog 83=true:=A8
def aSx :(Tryz.prog.info? 165).bind (·.zero)=some (aBs):=A8
def af4 :JB Tryz.prog 165 [(0,1)] (aBs):=LV A8 aSx A8
def alf :(match Tryz.prog.underlying 165 with |some (.interface _)=>false|some _=>true|none=>false)=true:=A8
def qC :BA Tryz.prog 85=true:=A8
def TW :BA Tryz.prog 84=true:=A8
def aqJ :BA Tryz.prog 147=true:=A8
def aqm :BA Tryz.prog 87=true:=A8
def aUH :(Tryz.prog.info? 235).bind (·.zero)=some (aAY):=A8
def aox :Y4 Tryz.prog 235 1 (aAY):=sD A8 aUH A8
def afG :EI Tryz.prog 235 true 5:=Fr A8
def aTF :Tryz.prog.underlying 235=some (.array 5 3):=A8
def asA :BA Tryz.prog 149=true:=A8
def as1 :BA Tryz.prog 238=true:=A8
def ar8 :BA Tryz.prog 239=true:=A8
def aqX :BA Tryz.prog 240=true:=A8
def aqF :BA Tryz.prog 150=true:=A8
def ajP :BA Tryz.prog 130=true:=A8
def atK :BA Tryz.prog 68=true:=A8
def asO :BA Tryz.prog 69=true:=A8
def asc :BA Tryz.prog 70=true:=A8
def adG :JB Tryz.prog 28 [(0,1),(1,1),(2,1),(3,1),(4,1),(5,1),(6,1),(7,1),(8,1)] (Mid):=LV A8 aQc A8
def alX :JB Tryz.prog 108 [(0,1),(1,1)] (aEM):=LV A8 aBI A8
def asN :BA Tryz.prog 71=true:=A8
def ar6 :BA Tryz.prog 23=true:=A8
def atW :BA Tryz.prog 26=true:=A8
def abl :BA Tryz.prog 148=true:=A8
def as4 :BA Tryz.prog 81=true:=A8
def aq8 :BA Tryz.prog 86=true:=A8
def aqx :BA Tryz.prog 151=true:=A8
def aRy :EI Tryz.prog 239 true 7:=Fr A8
def aSe :BA Tryz.prog 242=true:=A8
def aQA :BA Tryz.prog 241=true:=A8
def aSl :(Tryz.prog.info? 241).bind (·.zero)=some (aCV):=A8
def af5 :Y4 Tryz.prog 241 1 (aCV):=sD A8 aSl A8
def ahC :Tryz.prog.underlying 241=some (.array 2 26):=A8
def aSU :(Tryz.prog.info? 242).bind (·.zero)=some (zS):=A8
def alu :Y4 Tryz.prog 242 1 (zS):=sD A8 aSU A8
def apr :Tryz.prog.underlying 242=some (.array 2 25):=A8
def atX :BA Tryz.prog 152=true:=A8
def aqP :BA Tryz.prog 88=true:=A8
def acv :BA Tryz.prog 82=true:=A8
def arv :BA Tryz.prog 411=true:=A8
def atH :BA Tryz.prog 33=true:=A8
def aTJ :(Tryz.prog.info? 331).bind (·.zero)=some (aB9):=A8
def ajM :JB Tryz.prog 331 [] (aB9):=LV A8 aTJ A8
def alv :(match Tryz.prog.underlying 331 with |some (.interface _)=>false|some _=>true|none=>false)=true:=A8
def arj :BA Tryz.prog 377=true:=A8
def asu :BA Tryz.prog 378=true:=A8
def aqv :BA Tryz.prog 325=true:=A8
def aUo :BA Tryz.prog 379=true:=A8
def aqT :BA Tryz.prog 380=true:=A8
def aql :BA Tryz.prog 270=true:=A8
def ac0 :Tryz.prog.underlying 148=some (.int .u64):=A8
def atN :BA Tryz.prog 205=true:=A8
def asM :BA Tryz.prog 206=true:=A8
def aqb :BA Tryz.prog 121=true:=A8
def agb :(Tryz.prog.info? 176).bind (·.zero)=some (aSh):=A8
def arZ :BA Tryz.prog 245=true:=A8
def aqg :BA Tryz.prog 246=true:=A8
def aVu :(Tryz.prog.info? 248).bind (·.zero)=some (aAc):=A8
def alm :JB Tryz.prog 248 [] (aAc):=LV A8 aVu A8
def aeZ :(match Tryz.prog.underlying 248 with |some (.interface _)=>false|some _=>true|none=>false)=true:=A8
def aKp :(Tryz.prog.info? 185).bind (·.zero)=some (aEA):=A8
def akQ :JB Tryz.prog 185 [(0,1),(1,1)] (aEA):=LV A8 aKp A8
def aJq :Gs Tryz.prog 186 185 2 24:=NW A8
def asR :BA Tryz.prog 168=true:=A8
def Ym :Tryz.prog.underlying 186=some (.slice 185):=A8
def lC :EI Tryz.prog 185 true 2:=Fr A8
def afH :DN Tryz.prog 185 0 0:=Dc A8
def anE :DN Tryz.prog 185 1 1:=Dc A8
def aVL :BA Tryz.prog 364=true:=A8
def atB :BA Tryz.prog 313=true:=A8
def aqe :BA Tryz.prog 434=true:=A8
def aIs :(Tryz.prog.info? 356).bind (·.zero)=some (aEG):=A8
def apW :JB Tryz.prog 356 [(0,1),(1,1),(2,1),(3,1)] (aEG):=LV A8 aIs A8
def aJd :Gs Tryz.prog 353 356 4 48:=NW A8
def atO :BA Tryz.prog 432=true:=A8
def WQ :Tryz.prog.underlying 353=some (.slice 356):=A8
def dP :EI Tryz.prog 356 true 4:=Fr A8
def ai4 :DN Tryz.prog 356 3 3:=Dc A8
def amm :DN Tryz.prog 356 0 0:=Dc A8
def ao8 :DN Tryz.prog 356 1 1:=Dc A8
def al4 :DN Tryz.prog 356 2 2:=Dc A8
def aj9 :BA Tryz.prog 433=true:=A8
def arl :BA Tryz.prog 431=true:=A8
def apP :BA Tryz.prog 430=true:=A8
def adi :vN Tryz.prog 248 "fedchat/resolve.sort" 430=true:=A8
def ash :BA Tryz.prog 324=true:=A8
def arE :BA Tryz.prog 247=true:=A8
def ahJ :DN Tryz.prog 176 1 1:=Dc A8
def aqD :BA Tryz.prog 249=true:=A8
def aqw :BA Tryz.prog 250=true:=A8
def aYJ :(Tryz.prog.info? 253).bind (·.zero)=some (aB6):=A8
def am2 :JB Tryz.prog 253 [(0,1)] (aB6):=LV A8 aYJ A8
def adw :(match Tryz.prog.underlying 253 with |some (.interface _)=>false|some _=>true|none=>false)=true:=A8
def amu :DN Tryz.prog 253 0 0:=Dc A8
def asy :BA Tryz.prog 437=true:=A8
def aIB :(Tryz.prog.info? 360).bind (·.zero)=some (EvC):=A8
def ah3 :JB Tryz.prog 360 [(0,1),(1,1),(2,1)] (EvC):=LV A8 aIB A8
def aWj :Gs Tryz.prog 358 360 3 24:=NW A8
def atC :BA Tryz.prog 438=true:=A8
def jm :Tryz.prog.underlying 358=some (.slice 360):=A8
def jF :EI Tryz.prog 360 true 3:=Fr A8
def ug (x y:KP):Bool:=(x.mZ==y.mZ&&(x.zB==y.zB&&(x.Bq==y.Bq&&true)))
def alo (x y:KP):fJ Tryz.prog 2 360 [.int .i64 x.mZ,.int .i64 x.zB,.int .i64 x.Bq] [.int .i64 y.mZ,.int .i64 y.zB,.int .i64 y.Bq] (ug x y):=⟨fun d w=>aBe A8 A8 A8 (l:=[(3,0),(3,1),(3,2)]) A8 (VX (MV Dv A8 w) (MV Dv A8 w) (ZI w _ _ .i64 _ _ _ Xt)<|VX (MV Dv A8 w) (MV Dv A8 w) (ZI w _ _ .i64 _ _ _ Xt)<|VX (MV Dv A8 w) (MV Dv A8 w) (ZI w _ _ .i64 _ _ _ Xt)<|aAD _ _ _ _)⟩
def alV :Program.eqGuardType Tryz.prog (Program.depth Tryz.prog) 360=false:=A8
def aqO :BA Tryz.prog 441=true:=A8
def abe :DN Tryz.prog 360 0 0:=Dc A8
def arU :BA Tryz.prog 436=true:=A8
def afp :BA Tryz.prog 435=true:=A8
def alK :vN Tryz.prog 253 "fedchat/resolve.sort" 435=true:=A8
def adf :DN Tryz.prog 176 0 0:=Dc A8
def acC :DN Tryz.prog 176 2 2:=Dc A8
def aWc :EI Tryz.prog 176 true 3:=Fr A8
def arX :BA Tryz.prog 157=true:=A8
def adb :lF Tryz.prog 176 0 0 false 1=true:=A8
def aqZ :BA Tryz.prog 363=true:=A8
def zero22 :(Tryz.prog.info? 22).bind (·.zero)=some (.slice none 0 0):=A8
def aqj :BA Tryz.prog 312=true:=A8
def akH :DN Tryz.prog 103 2 2:=Dc A8
def amZ :EI Tryz.prog 101 false 1:=Fr A8
def aNn :Tryz.prog.underlying 101=some (.map 3 40):=A8
def aCG :(Tryz.prog.info? 40).bind (·.zero)=some (.int .i64 0):=A8
def aqC :BA Tryz.prog 24=true:=A8
def aeX :DN Tryz.prog 103 1 1:=Dc A8
def ah4 :EI Tryz.prog 100 false 1:=Fr A8
def wI :Tryz.prog.underlying 100=some (.map 3 52):=A8
def zM :Gs Tryz.prog 129 52 1 24:=NW A8
def asz :BA Tryz.prog 91=true:=A8
def aqp :BA Tryz.prog 219=true:=A8
def ak4 :DN Tryz.prog 103 0 0:=Dc A8
def aq4 :BA Tryz.prog 42=true:=A8
def aqS :BA Tryz.prog 127=true:=A8
def aSf :(Tryz.prog.info? 103).bind (·.zero)=some (aGA):=A8
def aR3 :JB Tryz.prog 103 [(0,1),(1,1),(2,1)] (aGA):=LV A8 aSf A8
def arS :BA Tryz.prog 128=true:=A8
def ar4 :BA Tryz.prog 129=true:=A8
def ajV :EI Tryz.prog 97 false 1:=Fr A8
def aqd :BA Tryz.prog 156=true:=A8
def aqs :BA Tryz.prog 155=true:=A8
def aqN :BA Tryz.prog 65=true:=A8
def atM :BA Tryz.prog 90=true:=A8
def asQ :BA Tryz.prog 25=true:=A8
def ar9 :BA Tryz.prog 43=true:=A8
def aVT :(Tryz.prog.info? 91).bind (·.zero)=some (aDP):=A8
def aj7 :JB Tryz.prog 91 [(0,1),(1,1),(2,1)] (aDP):=LV A8 aVT A8
def aph :EI Tryz.prog 91 true 3:=Fr A8
def afE :DN Tryz.prog 91 2 2:=Dc A8
def abw :DN Tryz.prog 91 0 0:=Dc A8
def ajH :DN Tryz.prog 91 1 1:=Dc A8
def aiS :JB Tryz.prog 30 [(0,1),(1,1),(2,1),(3,1),(4,1),(5,1),(6,1),(7,9)] (aBg):=LV A8 zero30 A8
def atU :BA Tryz.prog 31=true:=A8
def aiZ :DN Tryz.prog 32 0 0:=Dc A8
def ajK :DN Tryz.prog 32 2 2:=Dc A8
def aiF :DN Tryz.prog 32 3 3:=Dc A8
def arb :BA Tryz.prog 47=true:=A8
def abX :Tryz.prog.underlying 212=some (.int .u32):=A8
def asj :BA Tryz.prog 163=true:=A8
def aso :BA Tryz.prog 89=true:=A8
def acW :BA Tryz.prog 167=true:=A8
def arw :BA Tryz.prog 97=true:=A8
def arP :BA Tryz.prog 99=true:=A8
def asf :BA Tryz.prog 34=true:=A8
def atG :BA Tryz.prog 100=true:=A8
def ar1 :BA Tryz.prog 45=true:=A8
def aqQ :BA Tryz.prog 36=true:=A8
def ar2 :BA Tryz.prog 12=true:=A8
def asW :BA Tryz.prog 361=true:=A8
def Yy :BA Tryz.prog 299=true:=A8
def aOh :BA Tryz.prog 298=true:=A8
def ae7 :BA Tryz.prog 300=true:=A8
def ab7 :BA Tryz.prog 301=true:=A8
def asr :BA Tryz.prog 302=true:=A8
def arf :BA Tryz.prog 297=true:=A8
def aqL :BA Tryz.prog 296=true:=A8
def arR :BA Tryz.prog 200=true:=A8
def aq6 :BA Tryz.prog 199=true:=A8
def arL :BA Tryz.prog 115=true:=A8
def atV :BA Tryz.prog 162=true:=A8
def ard :BA Tryz.prog 161=true:=A8
def aXZ :(Tryz.prog.info? 200).bind (·.zero)=some (zZ):=A8
def ahm :EI Tryz.prog 200 true 4:=Fr A8
def akX :DN Tryz.prog 200 0 0:=Dc A8
def ant :JB Tryz.prog 200 [(0,1),(1,1),(2,1),(3,1)] (zZ):=LV A8 aXZ A8
def ae1 :(Tryz.prog.info? 275).bind (·.zero)=some (aTg):=A8
def agI :DN Tryz.prog 275 0 0:=Dc A8
def aoK :DN Tryz.prog 275 1 1:=Dc A8
def ap8 :DN Tryz.prog 275 2 2:=Dc A8
def aby :DN Tryz.prog 275 3 3:=Dc A8
def adh :DN Tryz.prog 275 4 4:=Dc A8
def agU :EI Tryz.prog 275 true 5:=Fr A8
def adX :lF Tryz.prog 275 4 4 false 1=true:=A8
def aml :DN Tryz.prog 200 3 3:=Dc A8
def aoX :EI Tryz.prog 40 false 1:=Fr A8
def ahQ :DN Tryz.prog 200 2 2:=Dc A8
def ad9 :DN Tryz.prog 200 1 1:=Dc A8
def afx :EI Tryz.prog 32 true 20:=Fr A8
def arO :BA Tryz.prog 11=true:=A8
def akW :DN Tryz.prog 32 1 1:=Dc A8
def afC :DN Tryz.prog 32 4 19:=Dc A8
def aa9 :(Tryz.prog.info? 131).bind (·.zero)=some (aAE):=A8
def agm :Y4 Tryz.prog 131 29 (aAE):=sD A8 aa9 A8
def aef :EI Tryz.prog 131 true 116:=Fr A8
def amR :Tryz.prog.underlying 131=some (.array 4 39):=A8
def amQ :(Tryz.prog.info? 23).bind (·.zero)=some (.int .i64 0):=A8
def ara :BA Tryz.prog 96=true:=A8
def ah9 :DN Tryz.prog 73 0 0:=Dc A8
def ajt :DN Tryz.prog 73 1 1:=Dc A8
def aku :DN Tryz.prog 73 2 2:=Dc A8
def amy :DN Tryz.prog 73 3 3:=Dc A8
def ami :DN Tryz.prog 73 4 4:=Dc A8
def arK :BA Tryz.prog 38=true:=A8
def atA :BA Tryz.prog 41=true:=A8
instance atF :Kn Tryz.prog where
 und:=[(9,.string),(3,.int .i64),(214,.int .u64),(5,.int .u8),(4,.bool),(23,.int .i64),(148,.int .u64),(212,.int .u32)]
 aln:=⟨MO,Xt,aj3,aOW,akE,aaL,ac0,abX,trivial⟩
 ty:=[(30,true,16),(35,false,1),(24,false,1),(25,false,1),(26,false,1),(9,false,1),(108,true,2),(39,true,29),(3,false,1),(4,false,1),(28,true,9),(111,true,2),(23,false,1),(5,false,1),(159,false,1),(37,true,2),(191,true,2),(137,false,1),(172,false,1),(218,true,2),(116,true,3),(52,false,1),(129,false,1),(22,false,1),(235,true,5),(239,true,7),(185,true,2),(356,true,4),(360,true,3),(176,true,3),(101,false,1),(100,false,1),(97,false,1),(91,true,3),(200,true,4),(275,true,5),(40,false,1),(32,true,20),(131,true,116)]
 hty:=⟨aHu,aWB,aja,aU7,aaH,QB,Uh,DU,Dv,aRG,qN,V5,aF6,aK6,anc,al2,aR6,apS,ae9,U7,PZ,rZ,abd,an8,afG,aRy,lC,dP,jF,aWc,amZ,ah4,ajV,aph,ahm,agU,aoX,afx,aef,trivial⟩
 fld:=[((39,10),10),((39,8),8),((39,9),9),((30,5),5),((30,6),6),((30,7),7),((28,0),0),((28,1),1),((39,1),1),((39,2),2),((39,5),5),((30,0),0),((30,4),4),((39,12),27),((37,0),0),((108,0),0),((30,1),1),((30,2),2),((30,3),3),((108,1),1),((111,0),0),((111,1),1),((28,2),2),((28,3),3),((28,4),4),((28,5),5),((28,6),6),((28,7),7),((28,8),8),((39,3),3),((39,0),0),((225,0),0),((39,4),4),((39,6),6),((39,7),7),((39,11),26),((37,1),1),((191,0),0),((191,1),1),((218,0),0),((218,1),1),((116,0),0),((116,1),1),((116,2),2),((185,0),0),((185,1),1),((356,3),3),((356,0),0),((356,1),1),((356,2),2),((176,1),1),((253,0),0),((360,0),0),((176,0),0),((176,2),2),((103,2),2),((103,1),1),((103,0),0),((91,2),2),((91,0),0),((91,1),1),((32,0),0),((32,2),2),((32,3),3),((200,0),0),((275,0),0),((275,1),1),((275,2),2),((275,3),3),((275,4),4),((200,3),3),((200,2),2),((200,1),1),((32,1),1),((32,4),19),((73,0),0),((73,1),1),((73,2),2),((73,3),3),((73,4),4)]
 hfld:=⟨aeC,ajT,ail,ado,agp,apq,ai7,aiU,ahr,acj,ae6,ajh,apI,anD,apA,aia,an5,anx,ahR,afF,ako,ac7,amq,ap7,aep,amj,aoh,anl,ahh,agh,amN,anS,ao9,aif,abu,apB,abk,afl,ada,acn,abm,aiX,an3,aoj,afH,anE,ai4,amm,ao8,al4,ahJ,amu,abe,adf,acC,akH,aeX,ak4,afE,abw,ajH,aiZ,ajK,aiF,akX,agI,aoK,ap8,aby,adh,aml,ahQ,ad9,akW,afC,ah9,ajt,aku,amy,ami,trivial⟩
 part:=[((176,0),0,false,1),((275,4),4,false,1)]
 hpart:=⟨adb,adX,trivial⟩
 zero:=[(30,aBg),(5,.int .u8 0),(28,Mid),(108,aEM),(111,aVf),(239,aGD),(39,aCL),(225,aBH),(3,.int .i64 0),(9,.string BK),(4,.bool false),(35,.slice none 0 0),(37,aAA),(191,Rch),(172,.map none),(218,aET),(116,aEj),(52,.slice none 0 0),(165,aBs),(235,aAY),(241,aCV),(242,zS),(331,aB9),(176,aSh),(248,aAc),(185,aEA),(356,aEG),(253,aB6),(360,EvC),(22,.slice none 0 0),(40,.int .i64 0),(103,aGA),(91,aDP),(200,zZ),(275,aTg),(131,aAE),(23,.int .i64 0)]
 hzero:=⟨⟨zero30,A8⟩,⟨Qa,A8⟩,⟨aQc,A8⟩,⟨aBI,A8⟩,⟨aaF,A8⟩,⟨aQP,A8⟩,⟨MZ,A8⟩,⟨aWS,A8⟩,⟨zero3,A8⟩,⟨zero9,A8⟩,⟨nP,A8⟩,⟨aFY,A8⟩,⟨aWd,A8⟩,⟨aJK,A8⟩,⟨acY,A8⟩,⟨aDp,A8⟩,⟨lI,A8⟩,⟨YM,A8⟩,⟨aSx,A8⟩,⟨aUH,A8⟩,⟨aSl,A8⟩,⟨aSU,A8⟩,⟨aTJ,A8⟩,⟨agb,A8⟩,⟨aVu,A8⟩,⟨aKp,A8⟩,⟨aIs,A8⟩,⟨aYJ,A8⟩,⟨aIB,A8⟩,⟨zero22,A8⟩,⟨aCG,A8⟩,⟨aSf,A8⟩,⟨aVT,A8⟩,⟨aXZ,A8⟩,⟨ae1,A8⟩,⟨aa9,A8⟩,⟨amQ,A8⟩,trivial⟩
 st:=[(225,[(0,1)],aBH),(37,[(0,1),(1,1)],aAA),(191,[(0,1),(1,1)],Rch),(218,[(0,1),(1,1)],aET),(39,[(0,1),(1,1),(2,1),(3,1),(4,1),(5,1),(6,1),(7,1),(8,1),(9,1),(10,16),(26,1),(27,2)],aCL),(116,[(0,1),(1,1),(2,1)],aEj),(165,[(0,1)],aBs),(28,[(0,1),(1,1),(2,1),(3,1),(4,1),(5,1),(6,1),(7,1),(8,1)],Mid),(108,[(0,1),(1,1)],aEM),(331,[],aB9),(248,[],aAc),(185,[(0,1),(1,1)],aEA),(356,[(0,1),(1,1),(2,1),(3,1)],aEG),(253,[(0,1)],aB6),(360,[(0,1),(1,1),(2,1)],EvC),(103,[(0,1),(1,1),(2,1)],aGA),(91,[(0,1),(1,1),(2,1)],aDP),(30,[(0,1),(1,1),(2,1),(3,1),(4,1),(5,1),(6,1),(7,9)],aBg),(200,[(0,1),(1,1),(2,1),(3,1)],zZ)]
 hst:=⟨alE,am3,agL,adl,apk,apl,af4,adG,alX,ajM,alm,akQ,apW,am2,ah3,aR3,aj7,aiS,ant,trivial⟩
 arr:=[(239,1,aGD),(235,1,aAY),(241,1,aCV),(242,1,zS),(131,29,aAE)]
 harr:=⟨apL,aox,af5,alu,agm,trivial⟩
abbrev IQ :=fun x=>Az.arr 5 1 (List.map Cc x)
abbrev oq :=fun x=>Az.arr 9 1 (List.map Dw x)
abbrev G7 :=fun x=>Az.arr 39 29 (List.map Au x)
abbrev E5 :=fun x=>Az.arr 3 1 (List.map Ad x)
abbrev Vf :=fun x=>Az.arr 218 2 (List.map JJ x)
abbrev VW :=fun x=>Az.arr 116 3 (List.map BX x)
abbrev dA :=fun x=>Az.arr 360 3 (List.map Nz x)
abbrev DY :=fun x=>Aa.d (Au x)
abbrev BF :=fun x=>Aa.d (EC x)
abbrev AZ :=fun x=>Aa.d (Ad x)
abbrev BO :=fun x=>Aa.d ((BM Au) x)
abbrev IW :=fun x=>Aa.d ((BM Cc) x)
abbrev D7 :=fun x=>Aa.d (Dw x)
abbrev J9 :=fun x=>Aa.d ((BM Dw) x)
abbrev MW :=fun x=>Aa.d (H7 x)
abbrev Qv :=fun x=>Aa.d ((BM Gw) x)
abbrev Qj :=fun x=>Aa.d ((BM H6) x)
abbrev OV :=fun x=>Aa.d (Ic x)
abbrev CO :=fun x=>Aa.d ((BM Ad) x)
abbrev E8 :=fun x=>Aa.d ((BM BX) x)
abbrev Vd :=fun x=>Aa.d (BX x)
abbrev O9 :=fun x=>Aa.d ((BM (BM BX)) x)
abbrev XE :=fun x=>Aa.d ((BM KI) x)
abbrev V8 :=fun x=>Aa.d ((BM KQ) x)
end Go.Proofs.YtkkdimcnpacjhaaGreat
end
section
namespace Go.Proofs.YtkkdimcnpacjhaaGreat
open Go.RowKit Go.Sort
abbrev ZQ :Type:={ p:AB×List Value//p.2.length=29∧(∀v∈p.2,v.oneCell'=true)∧p.2[0]? =some (.int .i64 p.1.Id)∧p.2[7]? =some (.int .i64 p.1.Depth) }
instance : Inhabited ZQ:=⟨⟨(Bh,List.replicate 29 (.int .i64 0)),rfl,fun v hv=>by rw[(List.mem_replicate.1 hv).2];rfl,rfl,rfl⟩⟩
def aWY {ok:Nat→Prop} {w:World} {H:List BN} {cs:List D} {vs:List Value} {i:Nat} {n:Int} (h:F6 ok w H (cs.map .d) vs) (hi:cs[i]? =some (Ad n)):vs[i]? =some (.int .i64 n):=by
 have hl:i<cs.length:=(FI.1 hi).1;have j:i<vs.length:=by rw[h.1,CB];exact hl
 have q:=(h.2 i (by rw[CB];exact hl)).2;simp only[List.getD,JD,hi,IV,MF,DC j]at q;rw[DC j];cases q with |d _ _ h=>rw[Dk.adC h]
def aoD {ok:Nat→Prop} {w:World} {H:List BN} {p:AB×List Value} (h:F6 ok w H ((Au p.1).cells.map .d) p.2):p.2.length=29∧(∀v∈p.2,v.oneCell'=true)∧p.2[0]? =some (.int .i64 p.1.Id)∧p.2[7]? =some (.int .i64 p.1.Depth):=
 ⟨h.1,aIr h,aWY h rfl,aWY h rfl⟩
def aU4 {ok:Nat→Prop} {w:World} {H:List BN}:∀(z:List (AB×List Value)),(∀p∈z,F6 ok w H ((Au p.1).cells.map .d) p.2)→∃y:List ZQ,y.map (·.1)=z
 | [],_=>⟨[],rfl⟩
 |p::z,h=>by
  obtain⟨y,j⟩:=aU4 z fun q u=>h q (F5 _ u);exact⟨⟨p,aoD (h p (EO ..))⟩::y,Ap (p:: ·) j⟩
def Oi (x:ZQ):List Value:=x.1.2
def aGN (x:ZQ):(Oi x).length=29:=x.2.1
def ahx (x:ZQ):∀v∈Oi x,v.oneCell'=true:=x.2.2.1
def Ec (x:AB):Int×Int:=(x.Depth,x.Id)
def XP (p q:Int×Int):Int:=if p.1=q.1 then JU p.2 q.2 else JU p.1 q.1
def apC (p q:Int×Int):XP p q<0↔p.1<q.1∨p.1=q.1∧p.2<q.2:=by
 unfold XP;split
 ·rw[rC];omega
 rw[rC];omega
def Hz (p q:Int×Int):Bool:= !decide (XP q p<0)
def kW (p q:Int×Int):Hz p q=true↔¬(q.1<p.1∨q.1=p.1∧q.2<p.2):=by
 unfold Hz;rw[Ls,NR,apC]
def aUY (p q:Int×Int):Hz p q=false↔(q.1<p.1∨q.1=p.1∧q.2<p.2):=by
 rw[←Ol,kW,Decidable.not_not]
def aHv (x y z:Int×Int) (h:Hz x y=true) (k:Hz y z=true):Hz x z=true:=by
 rw[kW]at *;omega
def aVt (x y:Int×Int) (h:Hz x y=false):Hz y x=true:=by
 rw[aUY]at h;rw[kW];omega
def ama (x y:Int×Int) (h:Hz x y=true) (k:Hz y x=true):x=y:=by
 rw[kW]at *;obtain⟨j,q⟩:=x;obtain⟨u,z⟩:=y;simp only[QH]at *;omega
def lt2_trans (x y z:Int×Int) (h:Hz y x=false) (k:Hz z y=false):Hz z x=false:=by
 rw[aUY]at *;omega
section
variable {α : Type}
def zQ (f:α→Int×Int) (x y:α):ltOf (fun x y=>XP (f x) (f y)) x y= !Hz (f y) (f x):=by simp[ltOf,Hz]
def aeH (f:α→Int×Int):SWO (ltOf fun x y:α=>XP (f x) (f y)):=by
 refine⟨fun x=>?_,fun x y z h k=>?_,fun x y z h k=>?_⟩
 ·rw[zQ,(kW (f x) (f x)).2 AA];rfl
 ·rw[zQ,Ls]at *;exact lt2_trans _ _ _ h k
 rw[zQ,Bool.not_eq_false']at *;exact aHv _ _ _ k h
end
def Za :List (Int×Int)→Bool
 | []=>true
 |x::l=> !l.contains x&&Za l
def aX5 :∀(l:List AB),Za (l.map Ec)=true→∀x∈l,∀y∈l,Ec x=Ec y→x=y
 | [],_,x,j,_,_,_=>absurd j EM
 |e::l,h,x,j,y,M,q=>by
  rw[Ia]at h;unfold Za at h;rw[CZ,Ls]at h
  have u:Ec e∉l.map Ec:=fun hm=>by
   have :(l.map Ec).contains (Ec e)=true:=by simpa using hm
   rw[this]at h;cases h.1
  rcases EG.1 j with z|I<;>rcases EG.1 M with J|L
  ·rw[z,J]
  ·exact absurd (Dp.2 ⟨y,L,by rw[←q,z]⟩) u
  ·exact absurd (Dp.2 ⟨x,I,by rw[q,J]⟩) u
  exact aX5 l h.2 x I y L q
abbrev AX:=List AB
def dw (l:List AB):Option AX:=if l.length≤34359738368∧Za (l.map Ec)=true then some (LP (fun x y=>Hz (Ec x) (Ec y)) l)else none
def akB {l m:List AB} (hd:Za (l.map Ec)=true) (hp:m.Perm l) (hs:m.Pairwise (fun a b=>Hz (Ec a) (Ec b)=true)):m=LP (fun x y=>Hz (Ec x) (Ec y)) l:=
 (hp.trans (Sz _ l).symm).eq_of_pairwise (fun a b ha j q u=>aX5 l hd a (hp.mem_iff.1 ha) b ((Sz _ l).mem_iff.1 j) (ama _ _ q u)) hs (zf (le:=fun x y=>Hz (Ec x) (Ec y)) (fun x y z=>aHv (Ec x) (Ec y) (Ec z)) (fun x y=>aVt (Ec x) (Ec y)) l)
def aW5 {cs:List Value} {i d:Int} (h:cs.length=29) (h0:cs[0]? =some (.int .i64 i)) (h7:cs[7]? =some (.int .i64 d)):∃a1 a2 a3 a4 a5 a6 a8 a9 j q u z I J L M O U Y Z a22 a23 a24 a25 a26 a27 a28:Value,cs=[.int .i64 i,a1,a2,a3,a4,a5,a6,.int .i64 d,a8,a9,j,q,u,z,I,J,L,M,O,U,Y,Z,a22,a23,a24,a25,a26,a27,a28]:=by
 match cs,h,h0,h7 with
 | [a0,a1,a2,a3,a4,a5,a6,a7,a8,a9,j,q,u,z,I,J,L,M,O,U,Y,Z,a22,a23,a24,a25,a26,a27,a28],_,h0,h7=>
   have e0:a0=.int .i64 i:=by simpa using h0
   have e7:a7=.int .i64 d:=CS h7;exact⟨a1,a2,a3,a4,a5,a6,a8,a9,j,q,u,z,I,J,L,M,O,U,Y,Z,a22,a23,a24,a25,a26,a27,a28,by rw[e0,e7]⟩
def af8 {P:Program} {g:FuncId} (hc:∀(r ai ad bi bd:Int) (_:r=if ad=bd then JU ai bi else JU ad bd) (a1 a2 a3 a4 a5 a6 a8 a9 j u z I J L M O U Y Z a21 a22 a23 a24 a25 a26 a27 a28 b1 b2 b3 b4 b5 b6 b8 b9 b10 b11 b12 b13 b14 b15 b16 b17 b18 b19 b20 b21 b22 b23 b24 b25 b26 b27 b28:Value) (W:World),Calls P g #[.agg #[.int .i64 ai,a1,a2,a3,a4,a5,a6,.int .i64 ad,a8,a9,j,u,z,I,J,L,M,O,U,Y,Z,a21,a22,a23,a24,a25,a26,a27,a28],.agg #[.int .i64 bi,b1,b2,b3,b4,b5,b6,.int .i64 bd,b8,b9,b10,b11,b12,b13,b14,b15,b16,b17,b18,b19,b20,b21,b22,b23,b24,b25,b26,b27,b28]] W fun e w'=>e=.returned (.int .i64 r)∧∃q os',w'=grow (W.drewN q) os')
 (blk off size:Nat) (w:World):CmpLays P g #[] Oi 29 (fun x y=>XP (Ec x.1.1) (Ec y.1.1)) blk off size w:=fun m os dk _ x y=>by
 obtain⟨⟨x1,xs⟩,x2,x3,x4,x5⟩:=x;obtain⟨⟨y1,ys⟩,y2,y3,y4,y5⟩:=y;obtain⟨a1,a2,a3,a4,a5,a6,a8,a9,j,u,z,I,J,L,M,O,U,Y,Z,a21,a22,a23,a24,a25,a26,a27,a28,ex⟩:=aW5 (cs:=xs) (i:=x1.Id) (d:=x1.Depth) x2 x4 x5;subst ex;obtain⟨b1,b2,b3,b4,b5,b6,b8,b9,b10,b11,b12,b13,b14,b15,b16,b17,b18,b19,b20,b21,b22,b23,b24,b25,b26,b27,b28,ey⟩:=aW5 (cs:=ys) (i:=y1.Id) (d:=y1.Depth) y2 y4 y5;subst ey;exact hc _ x1.Id x1.Depth y1.Id y1.Depth rfl a1 a2 a3 a4 a5 a6 a8 a9 j u z I J L M O U Y Z a21 a22 a23 a24 a25 a26 a27 a28 b1 b2 b3 b4 b5 b6 b8 b9 b10 b11 b12 b13 b14 b15 b16 b17 b18 b19 b20 b21 b22 b23 b24 b25 b26 b27 b28 _
open Go.Shelf in
set_option maxHeartbeats 2000000 in
def auQ {P:Program} {ρ:Ren} {g:FuncId} {T:TypeId} (aEW:SlLaysF0.n6 P ρ) (hagg:∀w,(isAgg (ρ.t 24)).run P w=.ok true w) (hsize:∀w,(Go.sizeOf (ρ.t 24)).run P w=.ok 29 w) (eg:∀args w,(callFunc g args).run P w=.ok (.enter g args) w)
 (hcmp:∀blk off size w,CmpLays P g #[] Oi 29 (fun x y=>XP (Ec x.1.1) (Ec y.1.1)) blk off size w) (l r:List AB) (h:dw l=some r):
 Aq P (ρ.f 6) [.aY 0,.d (.fn (.func g) [] [])] [.arr T 29 (l.map Au)] (.eF []) [.arr T 29 (r.map Au)]:=by
 unfold dw at h;split at h
 ·rename_i hnd;obtain⟨hn,hd⟩:=hnd;obtain rfl:=CS h;refine Aq.aAK (k:=29) (e:=Au) (fun x=>rfl) fun ok H v w z z1 z3 Z=>?_;obtain⟨y,hy⟩:=aU4 z z3;have M:y.length=l.length:=by rw[←z1,←hy];simp
  have L:z.flatMap (·.2)=y.flatMap Oi:=by rw[←hy,aOw];rfl
  rw[L]at Z;have hlr:(LP (fun x y=>Hz (Ec x) (Ec y)) l).length=l.length:=(Sz _ l).length_eq;rcases Z.2 with⟨rfl,h0⟩|⟨b,cap,cur,rfl,hbase,hg,hnc,hcm,hcs,O⟩
  ·have hl:l=[]:=Gh h0;subst hl;refine(AnyF.slices_SortFunc_none aEW none 0 _ w).mono ?_;rintro e w' ⟨rfl,h⟩;subst h;exact⟨rfl,[],fun p hp=>absurd hp EM,rfl,lH.nil _ _ _,Turns.refl _ _⟩
  have hgs:b<w.heap.size:=(GX.1 hg).1;have I:=aAN (enc:=Oi) aGN y
  have hH:HoldsK Oi 29 w b 0 y.toArray:=by
   unfold HoldsK;have U:(flatK Oi 29 y.toArray).size=l.length*29:=by simp[M]
   generalize flatK Oi 29 y.toArray=F at I U;intro j Y;refine⟨?_,by simp[World.frozen?,hg]⟩;have e0:(cur.toList.take (l.length*29))[j]? =(y.flatMap Oi)[j]? :=by rw[O]
   rw[LM AA,←I]at e0;simp only[World.cell?,hg,Ij];simp only[Option.isSome_none,Qh,Jl];rw[←WV,e0,WV,Yr F j Y,aC Y];rfl
  have :=AnyQ.slices_SortFunc aEW 29 hagg hsize Oi aGN ahx (fun x y=>XP (Ec x.1.1) (Ec y.1.1)) (aeH fun x:ZQ=>Ec x.1.1) g #[] b 0 cap y.toArray w eg (hcmp _ _ _ _) hH hgs DW;have hys:y.toArray.size=l.length:=by simp[M]
  rw[hys]at this;refine this.mono ?_;rintro e' w' ⟨rfl,u,n,os,hp,hs,rfl⟩;obtain⟨hsz,_,J⟩:=hp;have q:u.size=l.length:=by simpa[M]using hsz
  have e1:u.extract 0 l.length=u:=by rw[←q];exact aEI
  have e2:y.toArray.extract 0 l.length=y.toArray:=by rw[←hys];exact aEI
  rw[e1,e2]at J;have hpl:u.toList.Perm y:=SL
  have hm:u.toList.map (fun x=>x.1.1)=LP (fun x y=>Hz (Ec x) (Ec y)) l:=by
   have aGO:y.map (fun x=>x.1.1)=l:=by rw[←z1,←hy,V7];rfl
   refine akB hd ((hpl.map _).trans (by rw[aGO])) ?_;rw[YB];refine IZ.2 fun i j hi Y hij=>?_;have :=hs i j (Ci _) hij (by simpa[q]using Y);rw[zQ (fun x:ZQ=>Ec x.1.1),Yr u i G6,Yr u j Vz]at this;simpa using this
  refine⟨rfl,u.toList.map (·.1),fun p hp=>?_,by rw[V7];exact hm,?_⟩
  ·obtain⟨x,hx,rfl⟩:=Dp.1 hp;rw[←hy];exact Dp.2 ⟨x,hpl.mem_iff.1 hx,rfl⟩
  have hfd:(u.toList.map (·.1)).flatMap (·.2)=u.toList.flatMap Oi:=by rw[aOw];rfl
  rw[hfd,hlr];have hF:=aAN (enc:=Oi) aGN u.toList;rw[cO]at hF;have U:(flatK Oi 29 u).size=l.length*29:=ZX
  generalize hFF:flatK Oi 29 u=F at hF U;refine⟨⟨by rw[yM aGN];simp[q],.inr ⟨b,cap,putCells id 0 F cur,rfl,Ci _,?_,AA,hcm,by simpa[putCells]using hcs,?_⟩⟩,⟨rfl,rfl,rfl,by simp[sortWorldK,putRowK],fun c hc hne=>?_⟩⟩
  ·unfold sortWorldK putRowK;rw[hFF,heap_grow_old _ _ (by simpa using hgs)];simp[putRow,mapBlock,Sort.ahead,NY,hg,onCells]
  ·rw[←hF];apply bD;intro j;by_cases Y:j<l.length*29
   ·have hjc:j<cur.size:=by have :=JR 29 hnc;omega
    rw[LM Y,WV,WV];have hjF:j<F.size:=AA
    simp[putCells,hjF,hjc]
   rw[aWC AA,I8 DW]
  unfold sortWorldK putRowK;rw[heap_grow_old _ _ aEE];have :b≠c:=fun e=>hne iH;simp[putRow,mapBlock,Sort.ahead,NY,this]
 cases h
end Go.Proofs.YtkkdimcnpacjhaaGreat
end
section
namespace Go.Proofs
open Go.Proofs.YtkkdimcnpacjhaaGreat
open Go.Shelf
def Tryz.agy:Go.Shelf.Ren:=⟨fun |6=>163|15=>124|14=>269|28=>215|29=>216|20=>336|21=>337|22=>338|23=>339|24=>340|25=>341|26=>342|27=>343|46=>382|47=>307|48=>308|49=>383|50=>384|57=>403|n=>n,fun |22=>22|24=>39|25=>182|3=>3|39=>148|0=>0|53=>212|55=>214|4=>4|46=>206|45=>205|50=>47|5=>5|9=>9|66=>279|70=>283|76=>305|77=>306|n=>n,fun |n=>n⟩
def Tryz.azs:SlLaysF0.n6 Tryz.prog Tryz.agy:={
 mixed:=A8
 f6:=⟨Tryz.f163.name,BJ,Tryz.func163.trans (Ap some A8)⟩
 f14:=⟨Tryz.f269.name,BJ,Tryz.func269.trans (Ap some A8)⟩
 f15:=Tryz.func124.trans (Ap some A8)
 f20:=⟨Tryz.f336.name,BJ,Tryz.func336.trans (Ap some A8)⟩
 f21:=⟨Tryz.f337.name,BJ,Tryz.func337.trans (Ap some A8)⟩
 f22:=⟨Tryz.f338.name,BJ,Tryz.func338.trans (Ap some A8)⟩
 f23:=⟨Tryz.f339.name,BJ,Tryz.func339.trans (Ap some A8)⟩
 f24:=⟨Tryz.f340.name,BJ,Tryz.func340.trans (Ap some A8)⟩
 f25:=⟨Tryz.f341.name,BJ,Tryz.func341.trans (Ap some A8)⟩
 f26:=⟨Tryz.f342.name,BJ,Tryz.func342.trans (Ap some A8)⟩
 f27:=⟨Tryz.f343.name,BJ,Tryz.func343.trans (Ap some A8)⟩
 f28:=Tryz.func215.trans (Ap some A8)
 f29:=Tryz.func216.trans (Ap some A8)
 f46:=⟨Tryz.f382.name,BJ,Tryz.func382.trans (Ap some A8)⟩
 f47:=Tryz.func307.trans (Ap some A8)
 f48:=Tryz.func308.trans (Ap some A8)
 f49:=⟨Tryz.f383.name,BJ,Tryz.func383.trans (Ap some A8)⟩
 f50:=⟨Tryz.f384.name,BJ,Tryz.func384.trans (Ap some A8)⟩
 f57:=⟨Tryz.f403.name,BJ,Tryz.func403.trans (Ap some A8)⟩
 t0:=aDl
 a0:=Tryz.isAgg0
 z0:=Tryz.sizeOf0
 v0:=aCU
 t3:=XB
 a3:=mO
 z3:=fU
 v3:=jq
 t4:=fO
 a4:=qG
 z4:=yu
 v4:=yY
 t5:=o7
 a5:=pJ
 z5:=xq
 v5:=yO
 t9:=dR
 a9:=uh
 z9:=oW
 v9:=uF
 t22:=zA
 a22:=Tryz.isAgg22
 z22:=Tryz.sizeOf22
 v22:=Tryz.zeroValue22
 t25:=Tryz.underlying182
 a25:=Tryz.isAgg182
 z25:=Tryz.sizeOf182
 v25:=Tryz.zeroValue182
 t39:=aAJ
 a39:=Tryz.isAgg148
 z39:=zJ
 v39:=aEv
 t45:=Tryz.underlying205
 a45:=Tryz.isAgg205
 z45:=Tryz.sizeOf205
 v45:=Tryz.zeroValue205
 t46:=Tryz.underlying206
 a46:=Tryz.isAgg206
 z46:=Tryz.sizeOf206
 v46:=Tryz.zeroValue206
 t50:=Tryz.underlying47
 a50:=Tryz.isAgg47
 z50:=Tryz.sizeOf47
 v50:=Tryz.zeroValue47
 t53:=yw
 a53:=Tryz.isAgg212
 z53:=aAL
 v53:=aED
 t55:=Tryz.underlying214
 a55:=Tryz.isAgg214
 z55:=Tryz.sizeOf214
 v55:=Tryz.zeroValue214
 t66:=Tryz.underlying279
 a66:=Tryz.isAgg279
 z66:=Tryz.sizeOf279
 v66:=Tryz.zeroValue279
 t70:=Tryz.underlying283
 a70:=Tryz.isAgg283
 z70:=Tryz.sizeOf283
 v70:=Tryz.zeroValue283
 t76:=Tryz.underlying305
 a76:=Tryz.isAgg305
 z76:=Tryz.sizeOf305
 v76:=Tryz.zeroValue305
 t77:=Tryz.underlying306
 a77:=Tryz.isAgg306
 z77:=Tryz.sizeOf306
 v77:=Tryz.zeroValue306 }
end Go.Proofs
end
section
namespace Go.Proofs.YtkkdimcnpacjhaaGreat
open Go.RowKit Go.Sort
def aov (a:Int) (W:World):Calls Tryz.prog 270 #[.int .i64 a] W fun e w'=>e=.returned (.bool false)∧w'=W:=by
 go_enter Tryz.func270,Tryz.ntmps270
 go_wp2
 all_goals (go_ret;exact⟨Aw,rfl⟩)
def adZ (a b:Int) (W:World):Calls Tryz.prog 166 #[.int .i64 a,.int .i64 b] W fun e w'=>e=.returned (.int .i64 (JU a b))∧w'=W:=by
 unfold JU
 go_enter Tryz.func166,Tryz.ntmps166
 go_wp2_with (go_at_call 270;refine(aov _ _).mono ?_;rintro e w' ⟨rfl,rfl⟩)
 all_goals (go_ret;exact⟨rfl,rfl⟩)
def amv (r x y:Int) (j:r=if x=0 then y else x) (b c:Nat) (W:World) (J:W.cell? ⟨b,0,none⟩=some (.int .i64 x)) (L:W.cell? ⟨b,1,none⟩=some (.int .i64 y)):Calls Tryz.prog 165 #[.slice (some ⟨b,0,none⟩) 2 c] W fun e w'=>e=.returned (.int .i64 r)∧w'=W:=by
 have q:x≠0→x=r:=fun h=>by rw[j,CU h]
 have u:x=0→y=r:=fun h=>by rw[j,CP h]
 clear j
 go_enter Tryz.func165,Tryz.ntmps165
 go_wp2
 refine wp_loop_rounds 3 ?_;rw[rounds_succ]
 go_wp2
 ·rename_i h
  go_ret
  exact⟨by rw[q J3];rfl,rfl⟩
 rename_i h;have M:=u J3;rw[rounds_succ]
 go_wp2
 ·go_ret
  exact⟨rfl,rfl⟩
 rename_i z;rw[rounds_succ]
 go_wp2
 go_ret
 have I:r=0:=Le
 subst I;exact⟨rfl,rfl⟩
set_option maxRecDepth 100000 in
set_option maxHeartbeats 1000000 in
def agB (r ai ad bi bd:Int) (hr:r=if ad=bd then JU ai bi else JU ad bd) (a1 a2 a3 a4 a5 a6 a8 a9 a10 a11 a12 a13 a14 a15 a16 a17 a18 a19 a20 a21 a22 a23 a24 a25 a26 a27 a28 b1 b2 b3 b4 b5 b6 b8 b9 b10 b11 b12 b13 b14 b15 b16 b17 b18 b19 b20 b21 b22 b23 b24 b25 b26 b27 b28:Value) (W:World):Calls Tryz.prog 164 #[.agg #[.int .i64 ai,a1,a2,a3,a4,a5,a6,.int .i64 ad,a8,a9,a10,a11,a12,a13,a14,a15,a16,a17,a18,a19,a20,a21,a22,a23,a24,a25,a26,a27,a28],.agg #[.int .i64 bi,b1,b2,b3,b4,b5,b6,.int .i64 bd,b8,b9,b10,b11,b12,b13,b14,b15,b16,b17,b18,b19,b20,b21,b22,b23,b24,b25,b26,b27,b28]] W fun e w'=>e=.returned (.int .i64 r)∧∃q os',w'=grow (W.drewN q) os':=by
 generalize hA:(#[.int .i64 ai,a1,a2,a3,a4,a5,a6,.int .i64 ad,a8,a9,a10,a11,a12,a13,a14,a15,a16,a17,a18,a19,a20,a21,a22,a23,a24,a25,a26,a27,a28]:Array Value)=A;generalize hB:(#[.int .i64 bi,b1,b2,b3,b4,b5,b6,.int .i64 bd,b8,b9,b10,b11,b12,b13,b14,b15,b16,b17,b18,b19,b20,b21,b22,b23,b24,b25,b26,b27,b28]:Array Value)=B;have z:A[0]? =some (.int .i64 ai):=by rw[←hA];rfl
 have I:A[7]? =some (.int .i64 ad):=by rw[←hA];rfl
 have J:B[0]? =some (.int .i64 bi):=by rw[←hB];rfl
 have L:B[7]? =some (.int .i64 bd):=by rw[←hB];rfl
 have hAs:A.size=29:=by rw[←hA];rfl
 have hBs:B.size=29:=by rw[←hB];rfl
 clear hA hB
 have M:r=if JU ad bd=0 then JU ai bi else JU ad bd:=by
  rw[hr];unfold JU;by_cases h1:ad<bd
  ·rw[CP h1,CU AA];simp
  by_cases h2:ad>bd
  ·rw[CU h1,CP h2,CU AA];simp
  rw[CU h1,CU h2,CP AA];simp
 have j:=adZ;clear hr;generalize JU=cm at j M;have ca:=aNG W A 39;have cb:=aNG (W.alloc (.cells A 39)) B 39;have O:(W.alloc (.cells A 39)).heap.size=W.heap.size+1:=Aw
 have u:∀k,((W.alloc (.cells A 39)).alloc (.cells B 39)).cell? ⟨W.heap.size,k,none⟩=A[k]? :=fun k=>by rw[aI6 _ _ _ (by rw[O];exact VK _)];exact ca k
 rw[O]at cb;have U:=(u 0).trans z;have Y:=(u 7).trans I;have Z:=(cb 0).trans J;have fb7:=(cb 7).trans L;have hg:∃os,(W.alloc (.cells A 39)).alloc (.cells B 39)=grow W os:=⟨_,by rw[alloc_eq_grow,alloc_eq_grow,grow_grow]⟩
 have hs2:((W.alloc (.cells A 39)).alloc (.cells B 39)).heap.size=W.heap.size+2:=Aw
 clear ca cb u z I J L
 go_enter Tryz.func164,Tryz.ntmps164
 go_wp2
 generalize(W.alloc (.cells A 39)).alloc (.cells B 39)=w1 at U Y Z fb7 hg hs2 ⊢;refine wp_region_still_tail 10 A8 A8 ?_;simp only[List.take_succ_cons,vI,List.drop_succ_cons,lK]
 repeat still_step
 still_call (j _ _ _)
 repeat still_step
 still_call (j _ _ _)
 refine wpStill_nil ?_
 change wpList _ _ _ _ _ w1.drew
 have hg2:∃os,w1.drew=grow (W.drewN 1) os:=by
  obtain⟨os,rfl⟩:=hg;exact⟨os,rfl⟩
 generalize w1.drew=w2 at hg2 ⊢;have hc:=aNG w2 #[.int .i64 (cm ad bd),.int .i64 (cm ai bi)] 3;have hc0:=hc 0;have hc1:=hc 1;clear hc U Y Z fb7 hg hs2 j;simp only[List.getElem?_toArray]at hc0 hc1
 go_wp2_with (go_at_call 165;refine(amv r _ _ M _ _ _ hc0 hc1).mono ?_;rintro e w' ⟨rfl,rfl⟩)
 all_goals (go_ret;obtain⟨os,rfl⟩:=hg2;exact⟨rfl,1,_,by rw[alloc_eq_grow,grow_grow]⟩)
def ak0 (l r:List AB) (h:dw l=some r):
 BI 163 [.aY 0,.d (.fn (.func 164) [] [])] [.arr 39 29 (l.map Au)] (.eF []) [.arr 39 29 (r.map Au)]:=
 auQ (ρ:=Tryz.agy) Tryz.azs Tryz.isAgg39 Tryz.sizeOf39 (enters_of Tryz.func164 A8 rfl) (af8 fun r j ad bi q u=>agB r j ad bi q u) l r h
end Go.Proofs.YtkkdimcnpacjhaaGreat
end
section
namespace Go.Proofs.YtkkdimcnpacjhaaGreat
open Go.RowKit
set_option maxRecDepth 20000
set_option maxHeartbeats 4000000
def Yf (j:AL) (q:Int):Option AL:=(IK 1 0 (j.length:Int) (Ai ((j.length:Int)+q))).bind fun u=>some (gCopy u j)
def qg (ig awn r) (h:Yf ig awn=some r):BI 327 [IW ig,AZ awn] [] (.aY 0) [(IQ r)]:=Aq.aO Tryz.func327 rfl<|AQ<|.f (Cj 5 1 rfl)<|.bT<|AY h fun q j h=>AQ<|.a 1<|.p (BP Cc ig Xc rfl)<|.a 1<|.p (BP Cc ig Xc rfl)<|.a 2<|.f (Wj Cc 0 j JE Qa A8 A8 A8 BJ rfl)<|.aW<|AQ<|.a 2<|.f (aSn (k:=1) Cc q ig JE A8 (fun _=>rfl) rfl)<|.bT<|Ac<|U9
def XG  (u:(AL→Int→Option AL)):AL→Int→Option AL:=fun q j=>(bif decide (j≥128)then(Bo 1 q [ER .or .u8 (IntKind.u8.wrap j) 128]).bind fun z=>(PD .shr .u64 j 7).bind fun I=>u z I else(Bo 1 q [IntKind.u8.wrap j]).bind fun J=>some J)
def aaD  :AL→Int→Option AL:=aT (XG) Aj
def aE8 (j:AL) (q:Int):Option AL:=aaD j q
def YT (j:AL) (q:Int):Option AL:=(PD .shl .u64 (IntKind.u64.wrap q) 1).bind fun u=>(bif decide (q<0)then aE8 j (bQ .u64 u)else aE8 j u)
def yE (ig Fv r) (h:YT ig Fv=some r):BI 328 [.aY 0,AZ Fv] [(IQ ig)] (.aY 1) [.dead,(IQ r)]:=Aq.aO Tryz.func328 rfl<|AQ<|.f (Cj 5 1 rfl)<|.bT<|AY h fun z I h=>AQ<|.a 2<|.p (aA9 (k:=.u64) (k':=.u64) I rfl)<|.aW<|Dt (fun s=>∃(J:Int),CW s ⟨BL 28 [(0,.aY 1),(5,.d ((kK .u64) J))],[.dead,(IQ ig)],1⟩∧aE8 ig J=some r) (by rintro s ⟨J,hs,h⟩;exact DR hs<|Ae<|AV.block<|ET (fun Y j=>⟨BL 28 [(0,.aY 1),(5,.d ((kK .u64) j))],[.dead,(IQ Y)],1⟩) _ _ _ _ (Af 28 33 [(0,false),(1,true)]) h<|fun Z k5 L Y j h=>Ae<|Ac<|CM h (fun h=>AV.block<|AY h fun x7 M h=>AQ<|.a 3<|.p (Vp (k:=.u8) (u:=(IntKind.u8.wrap j)) (v:=128) rfl)<|.p (Ei JE Qa [Cc (ER .or .u8 (IntKind.u8.wrap j) 128)] rfl)<|.f (EU (k:=1) Cc M JE A8 (fun _=>rfl) BJ rfl)<|.aW<|AY h fun x8 O h=>BH<|.a 1<|.p (aXL (k:=.u64) (k':=.u64) O rfl)<|.a 1<|.nil<|L _ _ _ (Af 28 33 [(0,false),(2,true)]) h) fun h=>AV.exit<|AY h fun x9 U h=>AQ<|.a 3<|.p (Ei JE Qa [Cc (IntKind.u8.wrap j)] rfl)<|.f (EU (k:=1) Cc U JE A8 (fun _=>rfl) BJ rfl)<|.aW<|by cases h;exact .ret (GK [(0,false),(2,true)]))<|fun q=>Ac<|BQ h (fun h=>BH<|.a 1<|.p (aXi (k:=.u64) (u:=z) rfl)<|.a 1<|.nil<|q _ ⟨(bQ .u64 z),Af 28 33 [(0,false),(0,true)],h⟩) fun h=>q _ ⟨z,Af 28 33 [(0,false),(0,true)],h⟩
def yN (q:AL) (j:ByteArray):Option AL:=(YT q (j.size:Int)).bind fun u=>(Bo 1 u (BU j)).bind fun z=>some z
def aRU (ig fH r) (h:yN ig fH=some r):BI 326 [.aY 0,D7 fH] [(IQ ig)] (.aY 1) [.dead,(IQ r)]:=Aq.aO Tryz.func326 rfl<|AQ<|.f (Cj 5 1 rfl)<|.bT<|DK h fun u j z q h=>AQ<|.a 3<|.f (x:=.aY 2) (Ef [.ent 0] [.aY 0,AZ (fH.size:Int)] (yE ig (fH.size:Int) u j) rfl)<|.a 1<|.f (adY (k:=2) q JE Qa MO A8 rfl)<|.aW<|by cases h;exact .ret (GK [(0,false),(3,true)])
def Rw (q:AL) (j:ByteArray):Option AL:=(Yf q (Ai ((j.size:Int)+10))).bind fun u=>(yN u j).bind fun z=>some z
def aDQ (ig fH r) (h:Rw ig fH=some r):BI 251 [IW ig,D7 fH] [] (.aY 0) [(IQ r)]:=Aq.aO Tryz.func251 rfl<|AQ<|.f (Cj 5 1 rfl)<|.bT<|DK h fun u j z q h=>AQ<|.a 4<|.f (x:=.aY 1) (Pj [IW ig,AZ (Ai ((fH.size:Int)+10))] (qg ig (Ai ((fH.size:Int)+10)) u j) rfl)<|.a 1<|.f (x:=.aY 2) (Ef [.ent 1] [.aY 1,D7 fH] (aRU u fH z q) rfl)<|.aW<|MB
def Nk (j:AL) (q:Int):Option AL:=(Yf j 10).bind fun u=>(YT u q).bind fun z=>some z
def Vx (ig Fv r) (h:Nk ig Fv=some r):BI 252 [IW ig,AZ Fv] [] (.aY 0) [(IQ r)]:=Aq.aO Tryz.func252 rfl<|AQ<|.f (Cj 5 1 rfl)<|.bT<|DK h fun u j z q h=>AQ<|.a 1<|.f (x:=.aY 1) (Pj [IW ig,AZ 10] (qg ig 10 u j) rfl)<|.a 1<|.f (x:=.aY 2) (Ef [.ent 1] [.aY 1,AZ Fv] (yE u Fv z q) rfl)<|.aW<|MB
def Xb (q:AL) (j:Bool):Option AL:=(Yf q 1).bind fun u=>(bif j then(Bo 1 u [1]).bind fun z=>some z else(Bo 1 u [0]).bind fun I=>some I)
def aT9 (ig Ns r) (h:Xb ig Ns=some r):BI 253 [IW ig,BF Ns] [] (.aY 0) [(IQ r)]:=Aq.aO Tryz.func253 rfl<|AQ<|.f (Cj 5 1 rfl)<|.bT<|AY h fun z j h=>AQ<|.a 1<|.f (x:=.aY 1) (Pj [IW ig,AZ 1] (qg ig 1 z j) rfl)<|.aW<|Ae<|Ac<|BQ h (fun h=>AY h fun I q h=>AQ<|.a 1<|.p (Ei JE Qa [Cc 1] rfl)<|.f (EU (k:=1) Cc q JE A8 (fun _=>rfl) BJ rfl)<|.aW<|MB) fun h=>AY h fun J u h=>AQ<|.a 1<|.p (Ei JE Qa [Cc 0] rfl)<|.f (EU (k:=1) Cc u JE A8 (fun _=>rfl) BJ rfl)<|.aW<|MB
abbrev FY:=List ByteArray
def aMr (j:FY) (z:(AL→Int→Option AL)):AL→Int→Option AL:=fun u q=>(bif decide (q<(j.length:Int))then(Ag j q).bind fun I=>(yN u I).bind fun J=>z J (Ai (q+1))else some u)
def aRR (j:FY):AL→Int→Option AL:=aT (aMr j) Aj
def aAU (q:AL) (j:FY):Option AL:=(YT q (j.length:Int)).bind fun u=>aRR j u 0
def ah0 (ig dH r) (h:aAU ig dH=some r):BI 329 [.aY 0,J9 dH,.d (.fn (.func 326) [] [])] [(IQ ig)] (.aY 1) [.dead,(IQ r)]:=Aq.aO Tryz.func329 rfl<|AQ<|.f (Cj 5 1 rfl)<|.bT<|AY h fun M j h=>AQ<|.a 2<|.p (BP Dw dH Jb rfl)<|.f (x:=.aY 2) (Ef [.ent 0] [.aY 0,AZ (dH.length:Int)] (yE ig (dH.length:Int) M j) rfl)<|.aW<|Ae<|AQ<|.a 1<|.p (BP Dw dH Jb rfl)<|.aW<|AV.block<|ET (fun q J=>⟨BL 25 [(0,.aY 1),(2,.d (.fn (.func 326) [] [])),(13,J9 dH),(14,AZ (dH.length:Int)),(15,AZ J)],[.dead,(IQ q)],1⟩) _ _ _ _ (Af 25 57349 [(0,false),(2,true)]) h<|fun U Y u q J h=>Ac<|Ae<|CM h (fun h=>Ae<|AV.block<|AY h fun L z h=>AQ<|.p (Bc Dw z Jb QB rfl)<|.aW<|AY h fun O I h=>BH<|.a 3<|.f (x:=.aY 2) (aW7 [.ent 1] [] [] [.aY 1,D7 L] (aRU q L O I) rfl)<|.a 1<|.nil<|BH<|.a 2<|.nil<|u _ _ _ (Af 25 57349 [(0,false),(2,true)]) h) fun h=>AV.exit<|Ac<|ab9
def iF (q:AL) (j:FY):Option AL:=(Yf q (Ai ((Ai (8*(j.length:Int)))+10))).bind fun u=>(aAU u j).bind fun z=>some z
def abJ (ig dH r) (h:iF ig dH=some r):BI 254 [IW ig,J9 dH] [] (.aY 0) [(IQ r)]:=Aq.aO Tryz.func254 rfl<|AQ<|.f (Cj 5 1 rfl)<|.bT<|DK h fun u j z q h=>AQ<|.a 2<|.p (BP Dw dH Jb rfl)<|.a 2<|.f (x:=.aY 1) (Pj [IW ig,AZ (Ai ((Ai (8*(dH.length:Int)))+10))] (qg ig (Ai ((Ai (8*(dH.length:Int)))+10)) u j) rfl)<|.a 1<|.f (x:=.aY 2) (Ef [.ent 1] [.aY 1,J9 dH,.d (.fn (.func 326) [] [])] (ah0 u dH z q) rfl)<|.aW<|MB
def aH9 (j:Bf) (z:(AL→Int→Option AL)):AL→Int→Option AL:=fun u q=>(bif decide (q<7)then(Ag ([j.Levels.User,j.Levels.Message,j.Levels.State,j.Levels.gJ,j.Levels.kP,j.Levels.oD,j.Levels.iw]:AL) q).bind fun I=>(Nk u I).bind fun J=>z J (Ai (q+1))else some u)
def aOB (j:Bf):AL→Int→Option AL:=aT (aH9 j) Aj
def aAH (j:Bf) (I:(AL→Int→Option AL)):AL→Int→Option AL:=fun u q=>(bif decide (q<(j.Levels.Kinds.length:Int))then(Ag j.Levels.Kinds q).bind fun z=>(Nk u z.Kind).bind fun J=>(Nk J z.N).bind fun L=>I L (Ai (q+1))else aOB j u 0)
def aHr (j:Bf):AL→Int→Option AL:=aT (aAH j) Aj
def aAi (j:Bf) (z:(AL→Int→Option AL)):AL→Int→Option AL:=fun M q=>(bif decide (q<(j.Levels.Users.length:Int))then(Ag j.Levels.Users q).bind fun u=>(Rw M u.User).bind fun I=>(Nk I u.N).bind fun J=>z J (Ai (q+1))else(Nk M (j.Levels.Kinds.length:Int)).bind fun L=>aHr j L 0)
def aSy (j:Bf):AL→Int→Option AL:=aT (aAi j) Aj
def rG (j:Bf):Option AL:=(Rw [] j.Text).bind fun q=>(Nk q j.N).bind fun u=>(Nk u j.Target).bind fun z=>(Xb z j.Thread).bind fun I=>(Rw I j.Via).bind fun J=>(iF J j.Allow).bind fun L=>(iF L j.jd).bind fun M=>(Nk M (j.Levels.Users.length:Int)).bind fun O=>aSy j O 0
def aWu (eP r) (h:rG eP=some r):BI 158 [MW eP] [] (IW r) []:=Aq.aO Tryz.func158 rfl<|Ac<|AY h fun x1 hx1 h=>AQ<|.a 2<|.p (x:=(IW x1)) (aJp [.d (.lit (.slice none 0 0)),D7 eP.Text] (aDQ [] eP.Text x1 hx1).view rfl)<|.aW<|AY h fun x2 hx2 h=>AQ<|.a 3<|.ca (Vx x1 eP.N x2 hx2).view<|.aW<|AY h fun x3 hx3 h=>AQ<|.a 3<|.ca (Vx x2 eP.Target x3 hx3).view<|.aW<|AY h fun x4 hx4 h=>AQ<|.a 3<|.ca (aT9 x3 eP.Thread x4 hx4).view<|.aW<|AY h fun x5 hx5 h=>AQ<|.a 3<|.ca (aDQ x4 eP.Via x5 hx5).view<|.aW<|AY h fun x6 hx6 h=>AQ<|.a 3<|.ca (abJ x5 eP.Allow x6 hx6).view<|.aW<|AY h fun x7 hx7 h=>AQ<|.a 3<|.ca (abJ x6 eP.jd x7 hx7).view<|.aW<|Ac<|AY h fun x8 AU h=>AQ<|.a 3<|.p (BP Gw eP.Levels.Users Jv rfl)<|.ca (Vx x7 (eP.Levels.Users.length:Int) x8 AU).view<|.aW<|Ae<|AQ<|.a 2<|.p (BP Gw eP.Levels.Users Jv rfl)<|.aW<|AV.block<|ET (fun v9 u=>⟨BL 103 [(3,IW v9),(4,.ptr 0 0),(46,Qv eP.Levels.Users),(47,AZ (eP.Levels.Users.length:Int)),(48,AZ u)],[.box (BG (Ic eP.Levels))],0⟩) _ _ _ _ (Af 103 492581209243672 [(1,true)]) h<|fun J32 k11 z v9 u h=>Ac<|Ae<|CM h (fun h=>Ae<|AV.block<|AY h fun I J h=>AQ<|.p (Bc Gw J Jv Uh rfl)<|.aW<|DK h fun L M x15 O h=>AV.draw A8 A8 A8 (.a 3<|.ca (aDQ v9 I.User L M).view<|.a 2<|.ca (Vx L I.N x15 O).view<|.a 1<|.nil _)<|BH<|.a 2<|.nil<|z _ _ _ (Af 103 492581209243672 [(0,true)]) h) fun h=>AV.exit<|AY h fun x16 U h=>AQ<|.a 3<|.p (BP H6 eP.Levels.Kinds KD rfl)<|.ca (Vx v9 (eP.Levels.Kinds.length:Int) x16 U).view<|.aW<|Ae<|AQ<|.a 2<|.p (BP H6 eP.Levels.Kinds KD rfl)<|.aW<|AV.block<|ET (fun j Y=>⟨BL 103 [(3,IW j),(4,.ptr 0 0),(66,Qj eP.Levels.Kinds),(67,AZ (eP.Levels.Kinds.length:Int)),(68,AZ Y)],[.box (BG (Ic eP.Levels))],0⟩) _ _ _ _ (Af 103 516508834063867445272 [(0,true)]) h<|fun J31 k19 Z j Y h=>Ac<|Ae<|CM h (fun h=>Ae<|AV.block<|AY h fun x21 asT h=>AQ<|.p (Bc H6 asT KD V5 rfl)<|.aW<|DK h fun PE Y2 x23 afi h=>AV.draw A8 A8 A8 (.a 3<|.ca (Vx j x21.Kind PE Y2).view<|.a 2<|.ca (Vx PE x21.N x23 afi).view<|.a 1<|.nil _)<|BH<|.a 2<|.nil<|Z _ _ _ (Af 103 516508834063867445272 [(0,true)]) h) fun h=>AV.exit<|Ae<|Ac<|AV.block<|ET (fun q v25=>⟨BL 103 [(3,IW q),(94,.d ((MP Ad) ([eP.Levels.User,eP.Levels.Message,eP.Levels.State,eP.Levels.gJ,eP.Levels.kP,eP.Levels.oD,eP.Levels.iw]:(List Int)))),(95,AZ v25)],[],0⟩) _ _ _ _ (Af 103 59421121885698253195157962760 []) h<|fun J30 k26 asU q v25 h=>Ac<|Ae<|CM h (fun h=>Ae<|AV.block<|AY h fun x28 hx28 h=>AQ<|.p (aBC (k:=.i64) Ad hx28 aAF Dv A8 rfl)<|.aW<|AY h fun x29 hx29 h=>BH<|.a 2<|.ca (Vx q x28 x29 hx29).view<|.a 1<|.nil<|BH<|.a 2<|.nil<|asU _ _ _ (Af 103 59421121885698253195157962760 []) h) fun h=>I4
def aId  :Option Int:=some 860922984064492325
def aeF  (r:Int) (h:aId=some r):BI 222 [] [] (AZ r) []:=Aq.aO Tryz.func222 rfl<|aB
def aPT (j:AL) (z:(Int→Int→Option Int)):Int→Int→Option Int:=fun u q=>(bif decide (q<(j.length:Int))then(Ag j q).bind fun I=>z (ER .and .u64 (IntKind.u64.wrap ((ER .xor .u64 u (IntKind.u64.wrap I))*1099511628211)) 4611686018427387903) (Ai (q+1))else some (Ai u))
def ab2 (j:AL):Int→Int→Option Int:=aT (aPT j) Aj
def aMS (j:Int) (q:AL):Option Int:=ab2 q (ER .and .u64 (IntKind.u64.wrap j) 4611686018427387903) 0
def alk (aoC mG r) (h:aMS aoC mG=some r):BI 221 [AZ aoC,IW mG] [] (AZ r) []:=Aq.aO Tryz.func221 rfl<|Ac<|AQ<|.a 2<|.p (Qz (k:=.u64) (u:=(IntKind.u64.wrap aoC)) (v:=4611686018427387903) rfl)<|.aW<|Ae<|AQ<|.a 1<|.p (BP Cc mG Xc rfl)<|.aW<|AV.block<|ET (fun j I=>⟨BL 26 [(5,.d ((kK .u64) j)),(11,IW mG),(12,AZ (mG.length:Int)),(13,AZ I)],[],0⟩) _ _ _ _ (Af 26 14368 []) h<|fun L M q j I h=>Ac<|Ae<|CM h (fun h=>Ae<|AV.block<|AY h fun J z h=>AQ<|.p (Bc Cc z Xc aK6 rfl)<|.aW<|BH<|.a 3<|.p (aQn (k:=.u64) (u:=j) (v:=(IntKind.u64.wrap J)) rfl)<|.a 1<|.p (Qz (k:=.u64) (u:=(IntKind.u64.wrap ((ER .xor .u64 j (IntKind.u64.wrap J))*1099511628211))) (v:=4611686018427387903) rfl)<|.a 1<|.nil<|BH<|.a 2<|.nil<|q _ _ _ (Af 26 14368 []) h) fun h=>I4
def tN (j:AL):Option Int:=(aId).bind fun q=>(aMS q j).bind fun u=>some u
def aah (ig r) (h:tN ig=some r):BI 138 [IW ig] [] (AZ r) []:=Aq.aO Tryz.func138 rfl<|Ac<|DK h fun u j z q h=>AQ<|.ca (aeF  u j)<|.a 1<|.ca (alk u ig z q)<|.aW<|DF
def qO (j:AB):Option Int:=(rG j.Content).bind fun q=>(tN q).bind fun u=>some u
def aYM (bH r) (h:qO bH=some r):BI 92 [DY bH] [] (AZ r) []:=Aq.aO Tryz.func92 rfl<|Ac<|DK h fun u j z q h=>AQ<|.a 2<|.ca (aWu bH.Content u j)<|.ca (aah u z q)<|.aW<|DF
def SQ (j:FY):Option FY:=(Bo 16 [] j).bind fun q=>some q
def aCZ (aA r) (h:SQ aA=some r):BI 135 [J9 aA] [] (.aY 0) [(oq r)]:=Aq.aO Tryz.func135 rfl<|AQ<|.f (Cj 9 1 rfl)<|.bT<|AY h fun q j h=>AQ<|.a 1<|.f (aDf 9 1 (EU (k:=_) Dw j dc A8 (fun _=>rfl) BJ rfl))<|.aW<|MB
def dn (j:Ba):Option Ba:=(Bo 24 [] j.Users).bind fun q=>(Bo 16 [] (({ j with Users:=q }).Kinds)).bind fun u=>some ({ { j with Users:=q }with Kinds:=u })
def aTz (aA r) (h:dn aA=some r):BI 136 [OV aA] [] (OV r) []:=Aq.aO Tryz.func136 rfl<|Ac<|AY h fun j q h=>AQ<|.a 2<|.f (aDf 108 2 (EU (k:=_) Gw q aDL A8 (fun _=>rfl) BJ rfl))<|.conv _ (NG (e:=108) (s:=2) 3 (xs:=List.map Gw j) A8)<|.aW<|AY h fun u z h=>AQ<|.a 2<|.f (aDf 111 2 (EU (k:=_) H6 z aL3 A8 (fun _=>rfl) BJ rfl))<|.conv _ (NG (e:=111) (s:=2) 5 (xs:=List.map H6 u) A8)<|.aW<|Ac<|AV.ret<|by rw[←D9 h];exact⟨[OV ({ { aA with Users:=j }with Kinds:=u })],[],⟨⟨1,BG (Ic ({ { aA with Users:=j }with Kinds:=u })),true,9,A8,A8,A8,qN,Eo A8,sI,A8⟩,trivial⟩,A8,A8,A8⟩
def vM (j:Bool):Option Int:=(bif j then some 5 else some 0)
def mY (j:Int) (q:Bool):Option Int:=(bif q then some 2 else(bif (j==6)then some 96 else(bif (j==7)then some 1 else(bif (j==9)then some 3 else(bif (j==11)then some 13 else(bif (j==12)then vM (j==12)else(bif (j==13)then vM (j==13)else vM (j==14))))))))
def lD (j:Int):Option Int:=(bif (j==2)then some 19 else(bif (j==3)then some 128 else(bif (j==4)then some 34 else(bif (j==5)then mY j (j==5)else(bif (j==8)then mY j (j==8)else mY j (j==10))))))
def aVi (iZ r) (h:lD iZ=some r):BI 172 [AZ iZ] [] (AZ r) []:=Aq.aO Tryz.func172 rfl<|Ac<|Ae<|Ac<|AV.block<|Ac<|EH h DJ fun h=>Ac<|EH h DJ fun h=>Ac<|EH h DJ fun h=>Dt (fun s=>∃(z:Bool),CW s ⟨BL 26 [(3,AZ iZ),(10,BF z)],[],0⟩∧mY iZ z=some r) (by rintro s ⟨z,hs,h⟩;exact DR hs<|EH h DJ fun h=>Ac<|EH h DJ fun h=>Ac<|EH h DJ fun h=>Ac<|EH h DJ fun h=>Ac<|EH h DJ fun h=>Dt (fun s=>∃(j:Bool),CW s ⟨BL 26 [(22,BF j)],[],0⟩∧vM j=some r) (by rintro s ⟨j,hs,h⟩;exact DR hs<|RH)<|fun q=>Ac<|CM h (fun h=>q _ ⟨(iZ==12),Af 26 4194304 [],h⟩) fun h=>Ac<|CM h (fun h=>q _ ⟨(iZ==13),Af 26 4194304 [],h⟩) fun h=>BH<|.a 2<|.nil<|q _ ⟨(iZ==14),Af 26 4194304 [],h⟩)<|fun u=>Ac<|CM h (fun h=>u _ ⟨(iZ==5),Af 26 1032 [],h⟩) fun h=>Ac<|CM h (fun h=>u _ ⟨(iZ==8),Af 26 1032 [],h⟩) fun h=>BH<|.a 2<|.nil<|u _ ⟨(iZ==10),Af 26 1032 [],h⟩
def kD (j:Int) (q:Bool):Option Int:=(bif q then(lD j).bind fun u=>some u else(bif (j==14)then some 4 else some 0))
def iT (j:Int):Option Int:=(bif (j==2)then some 18 else(bif (j==3)then kD j (j==3)else(bif (j==4)then kD j (j==4)else(bif (j==5)then kD j (j==5)else kD j (j==6)))))
def aWN (iZ r) (h:iT iZ=some r):BI 137 [AZ iZ] [] (AZ r) []:=Aq.aO Tryz.func137 rfl<|Ac<|Ae<|Ac<|AV.block<|Ac<|EH h DJ fun h=>Dt (fun s=>∃(j:Bool),CW s ⟨BL 15 [(0,AZ iZ),(3,AZ iZ),(6,BF j)],[],0⟩∧kD iZ j=some r) (by rintro s ⟨j,hs,h⟩;exact DR hs<|EH h (fun h=>AY h fun u q h=>AQ<|.a 1<|.ca (aVi iZ u q)<|.aW<|DF) fun h=>Ac<|RH)<|fun K6=>Ac<|CM h (fun h=>K6 _ ⟨(iZ==3),Af 15 73 [],h⟩) fun h=>Ac<|CM h (fun h=>K6 _ ⟨(iZ==4),Af 15 73 [],h⟩) fun h=>Ac<|CM h (fun h=>K6 _ ⟨(iZ==5),Af 15 73 [],h⟩) fun h=>BH<|.a 2<|.nil<|K6 _ ⟨(iZ==6),Af 15 73 [],h⟩
def aOU (j:Bf):Option Bf:=some j
def aJu (z:Int) (j:Bf) (q:Bf):Option Bf:=(bif ((ER .and .i64 z 128) != 0)then(dn j.Levels).bind fun u=>aOU ({ q with Levels:=u })else aOU q)
def aJt (q:Int) (j:Bf) (z:Bf):Option Bf:=(bif ((ER .and .i64 q 64) != 0)then(SQ j.jd).bind fun u=>aJu q j ({ z with jd:=u })else aJu q j z)
def aJe (q:Int) (j:Bf) (z:Bf):Option Bf:=(bif ((ER .and .i64 q 32) != 0)then(SQ j.Allow).bind fun u=>aJt q j ({ z with Allow:=u })else aJt q j z)
def aOZ (q:Int) (j:Bf) (u:Bf):Option Bf:=(bif ((ER .and .i64 q 16) != 0)then aJe q j ({ u with Via:=j.Via })else aJe q j u)
def aPF (q:Int) (j:Bf) (u:Bf):Option Bf:=(bif ((ER .and .i64 q 4) != 0)then aOZ q j ({ u with Target:=j.Target })else aOZ q j u)
def tH (q:Int) (j:Bf):Option Bf:=(bif (q==1)then(SQ j.Allow).bind fun z=>(SQ j.jd).bind fun I=>(dn j.Levels).bind fun J=>some ({ { { j with Allow:=z }with jd:=I }with Levels:=J })else(iT q).bind fun u=>(bif ((ER .and .i64 u 2) != 0)then aPF u j ({ Dq with N:=j.N })else aPF u j Dq))
def aQu (iZ jD r) (h:tH iZ jD=some r):BI 76 [AZ iZ,MW jD] [] (MW r) []:=Aq.aO Tryz.func76 rfl<|Ac<|Ae<|Ac<|BQ h (fun h=>kG h fun x2 hx2 x3 hx3 x4 hx4 h=>H9 A8 A8 A8 (.a 2<|.ca (aCZ jD.Allow x2 hx2).view<|.a 2<|.ca (aCZ jD.jd x3 hx3).view<|.a 2<|.ca (aTz jD.Levels x4 hx4)<|.a 6<|.nil _)<|Ac<|AV.ret<|by rw[←D9 h];exact⟨[MW ({ { { jD with Allow:=x2 }with jd:=x3 }with Levels:=x4 })],[],⟨⟨1,BG (H7 ({ { { jD with Allow:=x2 }with jd:=x3 }with Levels:=x4 })),true,16,A8,A8,A8,aHu,Eo A8,TB,A8⟩,trivial⟩,A8,A8,A8⟩) fun h=>Ac<|AY h fun j hx5 h=>AQ<|.a 1<|.ca (aWN iZ j hx5)<|.aW<|Dt (fun s=>∃(I:Bf),CW s ⟨BL 64 [(3,.ptr 0 0),(4,.ptr 1 0),(5,.ptr 2 0),(6,AZ j)],[.box (BG (H7 jD)),.box (BG (H7 Dq)),.box (BG (H7 I))],0⟩∧aPF j jD I=some r) (by rintro s ⟨I,hs,h⟩;exact DR hs<|Dt (fun s=>∃(J:Bf),CW s ⟨BL 64 [(3,.ptr 0 0),(4,.ptr 1 0),(5,.ptr 2 0),(6,AZ j)],[.box (BG (H7 jD)),.box (BG (H7 Dq)),.box (BG (H7 J))],0⟩∧aOZ j jD J=some r) (by rintro s ⟨J,hs,h⟩;exact DR hs<|Dt (fun s=>∃(L:Bf),CW s ⟨BL 64 [(3,.ptr 0 0),(4,.ptr 1 0),(5,.ptr 2 0),(6,AZ j)],[.box (BG (H7 jD)),.box (BG (H7 Dq)),.box (BG (H7 L))],0⟩∧aJe j jD L=some r) (by rintro s ⟨L,hs,h⟩;exact DR hs<|Dt (fun s=>∃(M:Bf),CW s ⟨BL 64 [(3,.ptr 0 0),(4,.ptr 1 0),(5,.ptr 2 0),(6,AZ j)],[.box (BG (H7 jD)),.box (BG (H7 Dq)),.box (BG (H7 M))],0⟩∧aJt j jD M=some r) (by rintro s ⟨M,hs,h⟩;exact DR hs<|Dt (fun s=>∃(q:Bf),CW s ⟨BL 64 [(3,.ptr 0 0),(4,.ptr 1 0),(5,.ptr 2 0),(6,AZ j)],[.box (BG (H7 jD)),.box (BG (H7 Dq)),.box (BG (H7 q))],0⟩∧aJu j jD q=some r) (by rintro s ⟨q,hs,h⟩;exact DR hs<|Dt (fun s=>∃(z:Bf),CW s ⟨BL 64 [(4,.ptr 0 0),(5,.ptr 1 0)],[.box (BG (H7 Dq)),.box (BG (H7 z))],0⟩∧aOU z=some r) (by rintro s ⟨z,hs,h⟩;exact DR hs<|Ac<|AV.ret<|by rw[←D9 h];exact⟨[MW z],[],⟨⟨0,BG (H7 z),true,16,A8,A8,A8,aHu,Eo A8,TB,A8⟩,trivial⟩,A8,A8,A8⟩)<|fun O=>AQ<|.a 1<|.p (Qz (k:=.i64) (u:=j) (v:=128) rfl)<|.aW<|BQ h (fun h=>AY h fun U Y h=>BH<|.a 2<|.ca (aTz jD.Levels U Y)<|.a 2<|.nil<|O _ ⟨({ q with Levels:=U }),Af 64 48 [(1,true),(2,true)],h⟩) fun h=>O _ ⟨q,Af 64 48 [(1,true),(2,true)],h⟩)<|fun Z=>AQ<|.a 1<|.p (Qz (k:=.i64) (u:=j) (v:=64) rfl)<|.aW<|BQ h (fun h=>AY h fun x17 Y7 h=>BH<|.a 2<|.ca (aCZ jD.jd x17 Y7).view<|.a 2<|.nil<|Z _ ⟨({ M with jd:=x17 }),Af 64 120 [(0,true),(1,true),(2,true)],h⟩) fun h=>Z _ ⟨M,Af 64 120 [(0,true),(1,true),(2,true)],h⟩)<|fun K18=>AQ<|.a 1<|.p (Qz (k:=.i64) (u:=j) (v:=32) rfl)<|.aW<|BQ h (fun h=>AY h fun Xd Y8 h=>BH<|.a 2<|.ca (aCZ jD.Allow Xd Y8).view<|.a 2<|.nil<|K18 _ ⟨({ L with Allow:=Xd }),Af 64 120 [(0,true),(1,true),(2,true)],h⟩) fun h=>K18 _ ⟨L,Af 64 120 [(0,true),(1,true),(2,true)],h⟩)<|fun K21=>AQ<|.a 1<|.p (Qz (k:=.i64) (u:=j) (v:=16) rfl)<|.aW<|BQ h (fun h=>BH<|.a 4<|.nil<|K21 _ ⟨({ J with Via:=jD.Via }),Af 64 120 [(0,true),(1,true),(2,true)],h⟩) fun h=>K21 _ ⟨J,Af 64 120 [(0,true),(1,true),(2,true)],h⟩)<|fun K23=>AQ<|.a 1<|.p (Qz (k:=.i64) (u:=j) (v:=4) rfl)<|.aW<|BQ h (fun h=>BH<|.a 4<|.nil<|K23 _ ⟨({ I with Target:=jD.Target }),Af 64 120 [(0,true),(1,true),(2,true)],h⟩) fun h=>K23 _ ⟨I,Af 64 120 [(0,true),(1,true),(2,true)],h⟩)<|fun K25=>AQ<|.a 1<|.p (Qz (k:=.i64) (u:=j) (v:=2) rfl)<|.aW<|BQ h (fun h=>BH<|.a 4<|.nil<|K25 _ ⟨({ Dq with N:=jD.N }),Af 64 120 [(0,true),(1,true),(2,true)],h⟩) fun h=>K25 _ ⟨Dq,Af 64 120 [(0,true),(1,true),(2,true)],h⟩
def aGH (j:AB):Option AB:=(tH j.Kind j.Content).bind fun q=>some ({ j with Content:=q })
def aou (bH r) (h:aGH bH=some r):BI 122 [DY bH] [] (DY r) []:=Aq.aO Tryz.func122 rfl<|Ac<|AY h fun j q h=>AQ<|.a 4<|.ca (aQu bH.Kind bH.Content j q)<|.aW<|Ac<|AV.ret<|by rw[←D9 h];exact⟨[DY ({ bH with Content:=j })],[],⟨⟨1,BG (Au ({ bH with Content:=j })),true,29,A8,A8,A8,DU,Eo A8,aHX,A8⟩,trivial⟩,A8,A8,A8⟩
def jc (j:F9) (q:Int):Option F9:=(Nk j.b_ q).bind fun u=>some ({ j with b_:=u })
def anh (Ob Fv r) (h:jc Ob Fv=some r):BI 224 [.ptr 0 0,AZ Fv] [.box (BG (LH Ob))] (.eF []) [.box (BG (LH r))]:=Aq.aO Tryz.func224 rfl<|AY h fun q j h=>BH<|.a 6<|.ca (Vx Ob.b_ Fv q j).view<|.a 3<|.nil<|XY
def aH1 (j:AL) (z:(Int→F9→Option F9)):Int→F9→Option F9:=fun q u=>(bif decide (q<(j.length:Int))then(Ag j q).bind fun I=>(jc u I).bind fun J=>z (Ai (q+1)) J else some u)
def aTi (j:AL):Int→F9→Option F9:=aT (aH1 j) Aj
def TT (j:F9) (q:AL):Option F9:=aTi q 0 j
def yC (tu dH r) (h:TT tu dH=some r):BI 223 [.fn (.func 224) [.ptr 0 0] [],CO dH] [.box (BG (LH tu))] (.eF []) [.box (BG (LH r))]:=Aq.aO Tryz.func223 rfl<|AQ<|.a 1<|.p (BP Ad dH CQ rfl)<|.aW<|AV.block<|ET (fun I j=>⟨BL 16 [(0,.fn (.func 224) [.ptr 0 0] []),(6,CO dH),(7,AZ (dH.length:Int)),(8,AZ I)],[.box (BG (LH j))],1⟩) _ _ _ _ (Af 16 449 [(0,true)]) h<|fun M O q I j h=>Ac<|Ae<|CM h (fun h=>Ae<|AV.block<|AY h fun J u h=>AQ<|.p (Bc Ad u CQ Dv rfl)<|.aW<|AY h fun L z h=>BH<|.a 2<|.f (x:=.eF []) (ZV [.ent 0] [.ptr 0 0] [] [AZ J] (anh j J L z) rfl)<|.nil<|BH<|.a 2<|aES) fun h=>AV.exit<|XY
def jy (j:F9) (q:ByteArray):Option F9:=(Rw j.b_ q).bind fun u=>some ({ j with b_:=u })
def acL (Ob fH r) (h:jy Ob fH=some r):BI 226 [.ptr 0 0,D7 fH] [.box (BG (LH Ob))] (.eF []) [.box (BG (LH r))]:=Aq.aO Tryz.func226 rfl<|AY h fun q j h=>BH<|.a 6<|.ca (aDQ Ob.b_ fH q j).view<|.a 3<|.nil<|XY
def aPq (j:FY) (z:(Int→F9→Option F9)):Int→F9→Option F9:=fun q u=>(bif decide (q<(j.length:Int))then(Ag j q).bind fun I=>(jy u I).bind fun J=>z (Ai (q+1)) J else some u)
def aUE (j:FY):Int→F9→Option F9:=aT (aPq j) Aj
def Vg (j:F9) (q:FY):Option F9:=aUE q 0 j
def aDK (tu dH r) (h:Vg tu dH=some r):BI 225 [.fn (.func 226) [.ptr 0 0] [],J9 dH] [.box (BG (LH tu))] (.eF []) [.box (BG (LH r))]:=Aq.aO Tryz.func225 rfl<|AQ<|.a 1<|.p (BP Dw dH Jb rfl)<|.aW<|AV.block<|ET (fun I j=>⟨BL 16 [(0,.fn (.func 226) [.ptr 0 0] []),(6,J9 dH),(7,AZ (dH.length:Int)),(8,AZ I)],[.box (BG (LH j))],1⟩) _ _ _ _ (Af 16 449 [(0,true)]) h<|fun M O q I j h=>Ac<|Ae<|CM h (fun h=>Ae<|AV.block<|AY h fun J u h=>AQ<|.p (Bc Dw u Jb QB rfl)<|.aW<|AY h fun L z h=>BH<|.a 2<|.f (x:=.eF []) (ZV [.ent 0] [.ptr 0 0] [] [D7 J] (acL j J L z) rfl)<|.nil<|BH<|.a 2<|aES) fun h=>AV.exit<|XY
def oI (j:F9) (q:Bool):Option F9:=(Xb j.b_ q).bind fun u=>some ({ j with b_:=u })
def alb (Ob Ns r) (h:oI Ob Ns=some r):BI 228 [.ptr 0 0,BF Ns] [.box (BG (LH Ob))] (.eF []) [.box (BG (LH r))]:=Aq.aO Tryz.func228 rfl<|AY h fun q j h=>BH<|.a 6<|.ca (aT9 Ob.b_ Ns q j).view<|.a 3<|.nil<|XY
def aHc (j:(List Bool)) (z:(Int→F9→Option F9)):Int→F9→Option F9:=fun q u=>(bif decide (q<(j.length:Int))then(Ag j q).bind fun I=>(oI u I).bind fun J=>z (Ai (q+1)) J else some u)
def aUR (j:(List Bool)):Int→F9→Option F9:=aT (aHc j) Aj
def nO (j:F9) (q:(List Bool)):Option F9:=aUR q 0 j
def agA (tu dH r) (h:nO tu dH=some r):BI 227 [.fn (.func 228) [.ptr 0 0] [],.d ((BM EC) dH)] [.box (BG (LH tu))] (.eF []) [.box (BG (LH r))]:=Aq.aO Tryz.func227 rfl<|AQ<|.a 1<|.p (BP EC dH aVa rfl)<|.aW<|AV.block<|ET (fun I j=>⟨BL 16 [(0,.fn (.func 228) [.ptr 0 0] []),(6,.d ((BM EC) dH)),(7,AZ (dH.length:Int)),(8,AZ I)],[.box (BG (LH j))],1⟩) _ _ _ _ (Af 16 449 [(0,true)]) h<|fun M O q I j h=>Ac<|Ae<|CM h (fun h=>Ae<|AV.block<|AY h fun J u h=>AQ<|.p (Bc EC u aVa aRG rfl)<|.aW<|AY h fun L z h=>BH<|.a 2<|.f (x:=.eF []) (ZV [.ent 0] [.ptr 0 0] [] [BF J] (alb j J L z) rfl)<|.nil<|BH<|.a 2<|aES) fun h=>AV.exit<|XY
def aL9 (j:AL) (z:(AL→Int→Option AL)):AL→Int→Option AL:=fun u q=>(bif decide (q<(j.length:Int))then(Ag j q).bind fun I=>(YT u I).bind fun J=>z J (Ai (q+1))else some u)
def aSF (j:AL):AL→Int→Option AL:=aT (aL9 j) Aj
def aCc (q:AL) (j:AL):Option AL:=(YT q (j.length:Int)).bind fun u=>aSF j u 0
def abV (ig dH r) (h:aCc ig dH=some r):BI 369 [.aY 0,CO dH,.d (.fn (.func 328) [] [])] [(IQ ig)] (.aY 1) [.dead,(IQ r)]:=Aq.aO Tryz.func369 rfl<|AQ<|.f (Cj 5 1 rfl)<|.bT<|AY h fun M j h=>AQ<|.a 2<|.p (BP Ad dH CQ rfl)<|.f (x:=.aY 2) (Ef [.ent 0] [.aY 0,AZ (dH.length:Int)] (yE ig (dH.length:Int) M j) rfl)<|.aW<|Ae<|AQ<|.a 1<|.p (BP Ad dH CQ rfl)<|.aW<|AV.block<|ET (fun q J=>⟨BL 25 [(0,.aY 1),(2,.d (.fn (.func 328) [] [])),(13,CO dH),(14,AZ (dH.length:Int)),(15,AZ J)],[.dead,(IQ q)],1⟩) _ _ _ _ (Af 25 57349 [(0,false),(2,true)]) h<|fun U Y u q J h=>Ac<|Ae<|CM h (fun h=>Ae<|AV.block<|AY h fun L z h=>AQ<|.p (Bc Ad z CQ Dv rfl)<|.aW<|AY h fun O I h=>BH<|.a 3<|.f (x:=.aY 2) (aW7 [.ent 1] [] [] [.aY 1,AZ L] (yE q L O I) rfl)<|.a 1<|.nil<|BH<|.a 2<|.nil<|u _ _ _ (Af 25 57349 [(0,false),(2,true)]) h) fun h=>AV.exit<|Ac<|ab9
def Y0 (q:AL) (j:AL):Option AL:=(Yf q (Ai ((Ai (2*(j.length:Int)))+10))).bind fun u=>(aCc u j).bind fun z=>some z
def anf (ig dH r) (h:Y0 ig dH=some r):BI 315 [IW ig,CO dH] [] (.aY 0) [(IQ r)]:=Aq.aO Tryz.func315 rfl<|AQ<|.f (Cj 5 1 rfl)<|.bT<|DK h fun u j z q h=>AQ<|.a 2<|.p (BP Ad dH CQ rfl)<|.a 2<|.f (x:=.aY 1) (Pj [IW ig,AZ (Ai ((Ai (2*(dH.length:Int)))+10))] (qg ig (Ai ((Ai (2*(dH.length:Int)))+10)) u j) rfl)<|.a 1<|.f (x:=.aY 2) (Ef [.ent 1] [.aY 1,CO dH,.d (.fn (.func 328) [] [])] (abV u dH z q) rfl)<|.aW<|MB
def kX (j:F9) (q:AL):Option F9:=(Y0 j.b_ q).bind fun u=>some ({ j with b_:=u })
def apm (Ob dH r) (h:kX Ob dH=some r):BI 230 [.ptr 0 0,CO dH] [.box (BG (LH Ob))] (.eF []) [.box (BG (LH r))]:=Aq.aO Tryz.func230 rfl<|AY h fun q j h=>BH<|.a 6<|.ca (anf Ob.b_ dH q j).view<|.a 3<|.nil<|XY
abbrev UE:=List (List Int)
def aMZ (j:UE) (z:(Int→F9→Option F9)):Int→F9→Option F9:=fun q u=>(bif decide (q<(j.length:Int))then(Ag j q).bind fun I=>(kX u I).bind fun J=>z (Ai (q+1)) J else some u)
def aUd (j:UE):Int→F9→Option F9:=aT (aMZ j) Aj
def tY (j:F9) (q:UE):Option F9:=aUd q 0 j
def adx (tu dH r) (h:tY tu dH=some r):BI 229 [.fn (.func 230) [.ptr 0 0] [],.d ((BM (BM Ad)) dH)] [.box (BG (LH tu))] (.eF []) [.box (BG (LH r))]:=Aq.aO Tryz.func229 rfl<|AQ<|.a 1<|.p (BP (BM Ad) dH aXJ rfl)<|.aW<|AV.block<|ET (fun I j=>⟨BL 16 [(0,.fn (.func 230) [.ptr 0 0] []),(6,.d ((BM (BM Ad)) dH)),(7,AZ (dH.length:Int)),(8,AZ I)],[.box (BG (LH j))],1⟩) _ _ _ _ (Af 16 449 [(0,true)]) h<|fun M O q I j h=>Ac<|Ae<|CM h (fun h=>Ae<|AV.block<|AY h fun J u h=>AQ<|.p (Bc (BM Ad) u aXJ aWB rfl)<|.aW<|AY h fun L z h=>BH<|.a 2<|.f (x:=.eF []) (ZV [.ent 0] [.ptr 0 0] [] [CO J] (apm j J L z) rfl)<|.nil<|BH<|.a 2<|aES) fun h=>AV.exit<|XY
def qU (j:AB):Option AL:=(TT aAx [j.Id]).bind fun I=>(Vg I [j.Room,j.aU]).bind fun J=>(TT J [j.Kind]).bind fun L=>(nO L [j.State]).bind fun M=>(Vg M [j.Key]).bind fun O=>(TT O [j.Time,j.Depth]).bind fun U=>(tY U [j.aZ,j.bg]).bind fun Y=>(rG j.Content).bind fun Z=>(Vg Y [Qk Z]).bind fun x9=>(TT x9 [j.Hash]).bind fun q=>(Vg q [j.su.Server]).bind fun u=>(TT u [j.su.Sum]).bind fun z=>some z.b_
def ajS (bH r) (h:qU bH=some r):BI 139 [DY bH] [] (IW r) []:=Aq.aO Tryz.func139 rfl<|Ac<|Ac<|AY h fun x1 L h=>AQ<|.a 1<|.p (x:=.fn (.func 224) [.ptr 1 0] []) (PV (fi:=[.ptr 1 0]) (ca:=[]) rfl rfl rfl)<|.a 2<|.p (Ei Eu zero3 [Ad bH.Id] rfl)<|.f (x:=.eF []) (Ef [.ent 1] [.fn (.func 224) [.ptr 1 0] [],CO [bH.Id]] (yC aAx [bH.Id] x1 L) rfl (ha:=⟨⟨_,_,rfl,⟨⟨0,rfl,rfl⟩,trivial⟩,trivial⟩,.inl rfl,trivial⟩))<|.bT<|AY h fun x2 M h=>AQ<|.a 1<|.p (x:=.fn (.func 226) [.ptr 1 0] []) (PV (fi:=[.ptr 1 0]) (ca:=[]) rfl rfl rfl)<|.a 4<|.p (Ei dc zero9 [Dw bH.Room,Dw bH.aU] rfl)<|.f (x:=.eF []) (Ef [.ent 1] [.fn (.func 226) [.ptr 1 0] [],J9 [bH.Room,bH.aU]] (aDK x1 [bH.Room,bH.aU] x2 M) rfl (ha:=⟨⟨_,_,rfl,⟨⟨0,rfl,rfl⟩,trivial⟩,trivial⟩,.inl rfl,trivial⟩))<|.bT<|AY h fun x3 O h=>AQ<|.a 1<|.p (x:=.fn (.func 224) [.ptr 1 0] []) (PV (fi:=[.ptr 1 0]) (ca:=[]) rfl rfl rfl)<|.a 2<|.p (Ei Eu zero3 [Ad bH.Kind] rfl)<|.f (x:=.eF []) (Ef [.ent 1] [.fn (.func 224) [.ptr 1 0] [],CO [bH.Kind]] (yC x2 [bH.Kind] x3 O) rfl (ha:=⟨⟨_,_,rfl,⟨⟨0,rfl,rfl⟩,trivial⟩,trivial⟩,.inl rfl,trivial⟩))<|.bT<|AY h fun x4 U h=>AQ<|.a 1<|.p (x:=.fn (.func 228) [.ptr 1 0] []) (PV (fi:=[.ptr 1 0]) (ca:=[]) rfl rfl rfl)<|.a 2<|.p (Ei am7 nP [EC bH.State] rfl)<|.f (x:=.eF []) (Ef [.ent 1] [.fn (.func 228) [.ptr 1 0] [],.d ((BM EC) [bH.State])] (agA x3 [bH.State] x4 U) rfl (ha:=⟨⟨_,_,rfl,⟨⟨0,rfl,rfl⟩,trivial⟩,trivial⟩,.inl rfl,trivial⟩))<|.bT<|AY h fun x5 Y h=>AQ<|.a 1<|.p (x:=.fn (.func 226) [.ptr 1 0] []) (PV (fi:=[.ptr 1 0]) (ca:=[]) rfl rfl rfl)<|.a 2<|.p (Ei dc zero9 [Dw bH.Key] rfl)<|.f (x:=.eF []) (Ef [.ent 1] [.fn (.func 226) [.ptr 1 0] [],J9 [bH.Key]] (aDK x4 [bH.Key] x5 Y) rfl (ha:=⟨⟨_,_,rfl,⟨⟨0,rfl,rfl⟩,trivial⟩,trivial⟩,.inl rfl,trivial⟩))<|.bT<|AY h fun x6 Z h=>AQ<|.a 1<|.p (x:=.fn (.func 224) [.ptr 1 0] []) (PV (fi:=[.ptr 1 0]) (ca:=[]) rfl rfl rfl)<|.a 4<|.p (Ei Eu zero3 [Ad bH.Time,Ad bH.Depth] rfl)<|.f (x:=.eF []) (Ef [.ent 1] [.fn (.func 224) [.ptr 1 0] [],CO [bH.Time,bH.Depth]] (yC x5 [bH.Time,bH.Depth] x6 Z) rfl (ha:=⟨⟨_,_,rfl,⟨⟨0,rfl,rfl⟩,trivial⟩,trivial⟩,.inl rfl,trivial⟩))<|.bT<|AY h fun x7 hx7 h=>AQ<|.a 1<|.p (x:=.fn (.func 230) [.ptr 1 0] []) (PV (fi:=[.ptr 1 0]) (ca:=[]) rfl rfl rfl)<|.a 4<|.p (Ei ahq aFY [(BM Ad) bH.aZ,(BM Ad) bH.bg] rfl)<|.f (x:=.eF []) (Ef [.ent 1] [.fn (.func 230) [.ptr 1 0] [],.d ((BM (BM Ad)) [bH.aZ,bH.bg])] (adx x6 [bH.aZ,bH.bg] x7 hx7) rfl (ha:=⟨⟨_,_,rfl,⟨⟨0,rfl,rfl⟩,trivial⟩,trivial⟩,.inl rfl,trivial⟩))<|.bT<|DK h fun j AU x9 Dy h=>AQ<|.a 1<|.p (x:=.fn (.func 226) [.ptr 1 0] []) (PV (fi:=[.ptr 1 0]) (ca:=[]) rfl rfl rfl)<|.a 2<|.ca (aWu bH.Content j AU)<|.p (aky (l:=j) Xc aOW MO rfl)<|.p (Ei dc zero9 [Dw (Qk j)] rfl)<|.f (x:=.eF []) (Ef [.ent 1] [.fn (.func 226) [.ptr 1 0] [],J9 [Qk j]] (aDK x7 [Qk j] x9 Dy) rfl (ha:=⟨⟨_,_,rfl,⟨⟨0,rfl,rfl⟩,trivial⟩,trivial⟩,.inl rfl,trivial⟩))<|.bT<|AY h fun q u h=>AQ<|.a 1<|.p (x:=.fn (.func 224) [.ptr 1 0] []) (PV (fi:=[.ptr 1 0]) (ca:=[]) rfl rfl rfl)<|.a 2<|.p (Ei Eu zero3 [Ad bH.Hash] rfl)<|.f (x:=.eF []) (Ef [.ent 1] [.fn (.func 224) [.ptr 1 0] [],CO [bH.Hash]] (yC x9 [bH.Hash] q u) rfl (ha:=⟨⟨_,_,rfl,⟨⟨0,rfl,rfl⟩,trivial⟩,trivial⟩,.inl rfl,trivial⟩))<|.bT<|AY h fun z I h=>AQ<|.a 1<|.p (x:=.fn (.func 226) [.ptr 1 0] []) (PV (fi:=[.ptr 1 0]) (ca:=[]) rfl rfl rfl)<|.a 3<|.p (Ei dc zero9 [Dw bH.su.Server] rfl)<|.f (x:=.eF []) (Ef [.ent 1] [.fn (.func 226) [.ptr 1 0] [],J9 [bH.su.Server]] (aDK q [bH.su.Server] z I) rfl (ha:=⟨⟨_,_,rfl,⟨⟨0,rfl,rfl⟩,trivial⟩,trivial⟩,.inl rfl,trivial⟩))<|.bT<|AY h fun x12 J h=>AQ<|.a 1<|.p (x:=.fn (.func 224) [.ptr 1 0] []) (PV (fi:=[.ptr 1 0]) (ca:=[]) rfl rfl rfl)<|.a 3<|.p (Ei Eu zero3 [Ad bH.su.Sum] rfl)<|.f (x:=.eF []) (Ef [.ent 1] [.fn (.func 224) [.ptr 1 0] [],CO [bH.su.Sum]] (yC z [bH.su.Sum] x12 J) rfl (ha:=⟨⟨_,_,rfl,⟨⟨0,rfl,rfl⟩,trivial⟩,trivial⟩,.inl rfl,trivial⟩))<|.bT<|Ac<|DF
def vW (j:AB):Option Int:=(aGH j).bind fun q=>(qU ({ { q with Id:=0 }with su:=bZ })).bind fun u=>(tN u).bind fun z=>some z
def aYd (bH r) (h:vW bH=some r):BI 77 [DY bH] [] (AZ r) []:=Aq.aO Tryz.func77 rfl<|Ac<|AY h fun I j h=>AQ<|.a 1<|.ca (aou bH I j)<|.aW<|Ac<|DK h fun z q J u h=>AQ<|.a 1<|.ca (ajS _ z q)<|.ca (aah z J u)<|.aW<|DF
def aFC (q:AB) (j:ByteArray):Option AB:=(qO q).bind fun u=>(vW ({ q with Hash:=u })).bind fun z=>some ({ { { q with Hash:=u }with Id:=z }with su:=(⟨j,({ { q with Hash:=u }with Id:=z }).Id⟩:PW) })
def ac5 (bH abf r) (h:aFC bH abf=some r):BI 35 [DY bH,D7 abf] [] (DY r) []:=Aq.aO Tryz.func35 rfl<|Ac<|AY h fun j u h=>AQ<|.a 1<|.ca (aYM bH j u)<|.aW<|AY h fun q z h=>AQ<|.a 1<|.ca (aYd _ q z)<|.aW<|Ac<|Ac<|AV.ret<|by rw[←D9 h];exact⟨[DY ({ { { bH with Hash:=j }with Id:=q }with su:=(⟨abf,({ { bH with Hash:=j }with Id:=q }).Id⟩:PW) })],[],⟨⟨1,BG (Au ({ { { bH with Hash:=j }with Id:=q }with su:=(⟨abf,({ { bH with Hash:=j }with Id:=q }).Id⟩:PW) })),true,29,A8,A8,A8,DU,Eo A8,sI,A8⟩,trivial⟩,A8,A8,A8⟩
def aOQ (j:AX) (q:(AB→Option Bool)) (k2:(Int→Option Int)):Int→Option Int:=fun u=>(bif decide (u<(j.length:Int))then(Ag j u).bind fun z=>(q z).bind fun I=>(bif I then some u else k2 (Ai (u+1)))else some (-1))
def aam (j:AX) (q:(AB→Option Bool)):Int→Option Int:=bI (aOQ j q) Aj
def kn (j:AX) (q:(AB→Option Bool)):Option Int:=aam j q 0
def aJD (q:(List AB)) (u:(AB→Option Bool)) (j:D) (z:U0 Tryz.prog Au EC j u) (r:Int) (h:kn q u=some r):BI 125 [BO q,.d j] [] (AZ r) []:=Aq.aO Tryz.func125 rfl<|Ac<|Ae<|AQ<|.a 1<|.p (BP Au q CV rfl)<|.aW<|AV.block<|Fl (fun M=>⟨BL 19 [(0,BO q),(1,.d j),(7,AZ (q.length:Int)),(8,AZ M)],[],0⟩) _ _ _ (Af 19 387 []) h<|fun O k2 I M h=>Ac<|Ae<|CM h (fun h=>Ae<|AV.block<|Ac<|DK h fun U J Y L h=>AQ<|.a 3<|.p (Bc Au J CV DU rfl)<|.a 1<|.p (qh (d:=j) (z:U0 Tryz.prog Au EC j u) L rfl)<|.bT<|BQ h DJ fun h=>BH<|.a 2<|.nil<|I _ _ (Af 19 387 []) h) fun h=>I4
def xY (j:AB) (q:Int):Option Bool:=some (j.Id==q)
def anP (bH c0 r) (h:xY bH c0=some r):BI 126 [DY bH,.d (.ref (Ad c0).cells 0)] [] (BF r) []:=Aq.aO Tryz.func126 rfl<|aB
def gX (q:AX) (j:Int):Option Int:=(kn q (fun a0=>xY a0 j)).bind fun u=>some u
def aRC (aA y8 r) (h:gX aA y8=some r):BI 64 [BO aA,AZ y8] [] (AZ r) []:=Aq.aO Tryz.func64 rfl<|Ac<|AY h fun q j h=>AQ<|.a 1<|.conv _ (UF (cs:=BG (Ad y8)) 0 A8 A8)<|.p (x:=.d (.fn (.func 126) [] [(.ref (Ad y8).cells 0)])) (XD [(.ref (Ad y8).cells 0)] rfl rfl)<|.ca (aJD aA (fun a0=>xY a0 y8) (.fn (.func 126) [] [(.ref (Ad y8).cells 0)]) ⟨126,[(.ref (Ad y8).cells 0)],rfl,ad5,fun a0 b u=>anP a0 y8 b u⟩ q j)<|.aW<|DF
def yB (j:AX):Option AX:=(Bo 376 [] j).bind fun q=>some q
def aiV (fQ r) (h:yB fQ=some r):BI 79 [BO fQ] [] (.aY 0) [(G7 r)]:=by
 refine Aq.aO Tryz.func79 rfl ?_;unfold yB at h;refine AQ<|.f (Cj 39 29 rfl)<|.bT<|Ae<|vk (x:=.tmp 3) (t':=22) (d:=4) (es:=List.map Au fQ) 1 rfl (.a 1<|.nil _) A8 A8 A8 CV A8 ?_;intro b j;cases b
 ·clear j;refine QD A8<|AV.skip ?_;obtain⟨u,q,h⟩:=Dx h;refine AQ<|.f (Ti J5 MZ [] rfl)<|.a 1<|.f (EU (k:=1) Au q J5 A8 (fun _=>rfl) BJ rfl)<|.aM 1 ?_;rw[←D9 h];exact .ret (GK [(2,true)])
 replace j:=mW j;replace h:some []=some r:=uy
 refine Ut A8<|AQ<|.f (Cj 39 29 rfl)<|.bT ?_;rw[←D9 h];exact .ret (GK [(1,true)])
def Uz (j:AB):Option Bool:=(qO j).bind fun q=>some (q==j.Hash)
def aDH (bH r) (h:Uz bH=some r):BI 74 [DY bH] [] (BF r) []:=Aq.aO Tryz.func74 rfl<|Ac<|AY h fun q j h=>H9 A8 A8 A8 (.a 1<|.ca (aYM bH q j)<|.a 4<|.nil _)<|DF
def aFN (j:List AB) (q:Int) (u:List AB):Option AX:=aEN j q u
def ahu (j:List AB) (q:Int) (u r:List AB) (h:aFN j q u=some r):BI 80 [.aY 0,AZ q,.aY 1] [(G7 j),(G7 u)] (.aY 2) [.dead,.dead,(G7 r)]:=
 auK (fun _=>rfl) j q u r h
def aF3 (j:AX):Option (AX×Int):=some (j,0)
def yL (u:(Int→Option (AX×Int))) (j:Int) (z:AX) (q:AB) (I:Bool):Option (AX×Int):=(bif I then u (Ai (j+1))else(aFN z j [q]).bind fun J=>some (J,0))
def aN9 (u:AX) (z:AX) (j:AB) (I:(Int→Option (AX×Int))):Int→Option (AX×Int):=fun q=>(bif decide (q<(u.length:Int))then(Ag u q).bind fun J=>yL I q z j (decide (J.Id<j.Id))else yL I q z j false)
def aNY (j:AX) (u:AX) (q:AB):Int→Option (AX×Int):=bI (aN9 j u q) Aj
def aHi (j:AX) (q:AB) (k2:(Int→Option (AX×Int))):Int→Option (AX×Int):=fun I=>(bif decide (I<(j.length:Int))then(Ag j I).bind fun U=>(bif (!(U.Room.toList==q.Room.toList))then some ([],13)else k2 (Ai (I+1)))else(gX j q.Id).bind fun z=>(bif decide (z<0)then some (decide ((j.length:Int)≥2000))else some false).bind fun Y=>(bif Y then some ([],29)else(yB j).bind fun u=>(bif decide (z≥0)then(Uz q).bind fun J=>(bif J then(Ag j z).bind fun L=>(Uz L).bind fun M=>some (!M)else some false).bind fun O=>(bif O then(Ag u z).bind fun Z=>aF3 (u.set (z).toNat q)else aF3 u)else aNY j u q 0)))
def aUt (j:AX) (q:AB):Int→Option (AX×Int):=bI (aHi j q) Aj
def jk (j:AX) (q:AB):Option (AX×Int):=aUt j q 0
def acD (aA gu r) (h:jk aA gu=some r):BI 31 [BO aA,DY gu] [] (.eF [.aY 0,AZ r.2]) [(G7 r.1)]:=Aq.aO Tryz.func31 rfl<|AQ<|.a 1<|.f (Cj 39 29 rfl)<|.aW<|Ae<|AQ<|.a 1<|.p (BP Au aA CV rfl)<|.aW<|AV.block<|Fl (fun v1=>⟨BL 73 [(0,BO aA),(3,.ptr 0 0),(10,BO aA),(11,AZ (aA.length:Int)),(12,AZ v1)],[.box (BG (Au gu))],0⟩) _ _ _ (Af 73 7177 [(0,true)]) h<|fun J30 k2 hk2 v1 h=>Ac<|Ae<|CM h (fun h=>Ae<|AV.block<|AY h fun x4 hx4 h=>AQ<|.p (Bc Au hx4 CV DU rfl)<|.aW<|Ac<|BQ h (fun h=>AQ<|.f (Cj 39 29 rfl)<|.aW<|MB) fun h=>BH<|.a 2<|.nil<|hk2 _ _ (Af 73 7177 [(0,true)]) h) fun h=>AV.exit<|AY h fun x6 hx6 h=>AQ<|.a 3<|.ca (aRC aA gu.Id x6 hx6)<|.aW<|Ae<|AQ<|.a 2<|AY h fun x7 hx7 h=>.mg 28 4 (BF x7) (.bi hx7 (fun h=>.a 1<|.p (BP Au aA CV rfl)<|.aW<|Ez))<|.bT<|BQ h (fun h=>AQ<|.f (Cj 39 29 rfl)<|.aW<|U9) fun h=>AY h fun j L h=>AQ<|.a 1<|.f (x:=.aY 1) (Pj [BO aA] (aiV aA j L) rfl)<|.aW<|Ae<|Ac<|BQ h (fun h=>Dt (fun s=>∃(I:(List AB)),CW s ⟨BL 73 [(9,.aY 0)],[(G7 I)],0⟩∧aF3 I=some r) (by rintro s ⟨I,hs,h⟩;exact DR hs<|Ac<|Yx)<|fun M=>AY h fun x14 O h=>AQ<|.a 1<|.ca (aDH gu x14 O)<|.a 1<|AY h fun x15 U h=>.mg 40 6 (BF x15) (G8 U (fun e i=>by subst e;have h:=i;exact DK h fun x17 Y x18 Z h=>.a 2<|.p (Bc Au Y CV DU rfl)<|.a 1<|.ca (aDH x17 x18 Z)<|.aW<|Ez))<|.bT<|BQ h (fun h=>AY h fun Xd z h=>BH<|.a 3<|.p (OG (e':=39) (kd:=.i64) Au z (k:=1) A8 CV DU rfl)<|.f (ah (e:=39) (size:=29) (v:=(DY gu)) (k:=1) (i:=(x6).toNat) (off:=0) (a':=gu) Au A8 (JW z).2 A8 (DU).size A8 (Eo A8) A8 (fun _=>rfl) rfl)<|.nil<|M _ ⟨(j.set (x6).toNat gu),Af 73 512 [(1,true)],h⟩) fun h=>M _ ⟨j,Af 73 512 [(1,true)],h⟩) fun h=>Ac<|Ae<|AV.block<|Fl (fun q=>⟨BL 73 [(0,BO aA),(3,.ptr 0 0),(8,AZ q),(9,.aY 1)],[.box (BG (Au gu)),(G7 j)],0⟩) _ _ _ (Af 73 777 [(0,true),(1,true)]) h<|fun J29 k22 aGQ q h=>Ae<|Dt (fun s=>∃(J:Bool),CW s ⟨BL 73 [(0,BO aA),(3,.ptr 0 0),(8,AZ q),(9,.aY 1),(65,BF J)],[.box (BG (Au gu)),(G7 j)],0⟩∧yL k22 q j gu J=some r) (by rintro s ⟨J,hs,h⟩;exact DR hs<|CM h (fun h=>AV.block<|BH<|.a 3<|.nil<|aGQ _ _ (Af 73 777 [(0,true),(1,true)]) h) fun h=>AV.exit<|AY h fun x25 hx25 h=>AQ<|.a 3<|.f (Ti J5 MZ [Au gu] rfl)<|.f (x:=.aY 3) (Ef [.ent 1,.ent 2] [.aY 1,AZ q,.aY 2] (ahu j q [gu] x25 hx25) rfl (hE:=(P6 A8<|P6 A8<|trivial)))<|.aW<|mJ)<|fun K26=>Fp h (fun u h=>AY h fun x28 hx28 h=>AV.draw A8 A8 A8 (.a 2<|.p (BP Au aA CV rfl)<|.a 1<|.c (Ap some u)<|.a 2<|.p (Bc Au hx28 CV DU rfl)<|.a 6<|.nil _)<|K26 _ ⟨(decide (x28.Id<gu.Id)),Af 73 36893488147419104009 [(0,true),(1,true)],h⟩) fun u h=>AV.draw A8 A8 A8 (.a 2<|.p (BP Au aA CV rfl)<|.a 1<|.c (Ap some u)<|.a 9<|.nil _)<|K26 _ ⟨false,Af 73 36893488147419104009 [(0,true),(1,true)],h⟩
def Z4 (j:Int):Option Bool:=(bif decide (j≥1)then some (decide (j≤10))else some false).bind fun q=>some q
def Zf (iZ r) (h:Z4 iZ=some r):BI 98 [AZ iZ] [] (BF r) []:=Aq.aO Tryz.func98 rfl<|Ac<|AQ<|.a 2<|AY h fun q j h=>.mg 5 3 (BF q) (.bi j)<|.aW<|DF
def aJv (j:ByteArray) (q:ByteArray):Option (ByteArray×ByteArray×Bool):=(aFZ j q).bind fun u=>(bif decide (u≥0)then(NU j 0 u).bind fun z=>(NU j (Ai (u+(q.size:Int))) ((j).size)).bind fun I=>some (z,I,true)else some (j,BK,false))
def agk (fQ Zc r) (h:aJv fQ Zc=some r):BI 232 [D7 fQ,D7 Zc] [] (.eF [D7 r.1,D7 r.2.1,BF r.2.2]) []:=Aq.aO Tryz.func232 rfl<|Ac<|Ae<|AY h fun I j h=>AQ<|.a 2<|.ca (afM fQ Zc I j)<|.aW<|Ac<|BQ h (fun h=>DK h fun J q L u h=>H9 A8 A8 A8 (.a 2<|.p (aPH q (fun _=>rfl) (by intro z;cases z) MO rfl)<|.a 5<|.p (aPH u (by intro z;cases z) (fun _=>rfl) MO rfl)<|.a 3<|.nil _)<|DF) fun h=>Ac<|DF
def strings_Cut (q:ByteArray) (j:ByteArray):Option (ByteArray×ByteArray×Bool):=(aJv q j).bind fun u=>some (u.1,u.2.1,u.2.2)
def aed (fQ Zc r) (h:strings_Cut fQ Zc=some r):BI 141 [D7 fQ,D7 Zc] [] (.eF [D7 r.1,D7 r.2.1,BF r.2.2]) []:=Aq.aO Tryz.func141 rfl<|Ac<|AY h fun q j h=>AQ<|.a 2<|.ca (agk fQ Zc q j)<|.aW<|DF
def vF (j:Int):Option Bool:=(bif (j==95)then some true else some (j==46)).bind fun q=>(bif q then some true else some (j==45)).bind fun u=>(bif u then some true else some (j==61)).bind fun z=>some z
def anC (eP r) (h:vF eP=some r):BI 234 [.d (Cc eP)] [] (BF r) []:=Aq.aO Tryz.func234 rfl<|Ac<|AQ<|.a 2<|AY h fun z j h=>.mg 5 3 (BF z) (.bi j)<|.a 1<|AY h fun I q h=>.mg 10 2 (BF I) (G8 q)<|.a 1<|AY h fun J u h=>.mg 14 2 (BF J) (G8 u)<|.aW<|DF
def ji (j:Int):Option Bool:=(bif decide (j≥97)then some (decide (j≤122))else some false).bind fun q=>(bif q then some true else(bif decide (j≥48)then some (decide (j≤57))else some false).bind fun u=>some u).bind fun z=>some z
def aIm (eP r) (h:ji eP=some r):BI 236 [.d (Cc eP)] [] (BF r) []:=Aq.aO Tryz.func236 rfl<|Ac<|AQ<|.a 2<|AY h fun z j h=>.mg 5 3 (BF z) (.bi j)<|.a 1<|AY h fun I q h=>.mg 10 6 (BF I) (G8 q (k2:=fun e i=>by subst e;have h:=i;exact .a 2<|AY h fun J u h=>.mg 12 3 (BF J) (.bi u)<|.aW<|Ez))<|.aW<|DF
def aKL (q:ByteArray) (j:(Int→Option Bool)) (J:(Int→Option Bool)):Int→Option Bool:=fun u=>(bif decide (u<(q.size:Int))then(Hf q u).bind fun L=>(ji L).bind fun M=>(bif (!M)then(Hf q u).bind fun z=>(j z).bind fun I=>some (!I)else some false).bind fun O=>(bif O then some false else J (Ai (u+1)))else some true)
def aKM (q:ByteArray) (j:(Int→Option Bool)):Int→Option Bool:=bI (aKL q j) Aj
def cG (q:ByteArray) (j:(Int→Option Bool)):Option Bool:=(bif decide ((q.size:Int)<1)then some true else some (decide ((q.size:Int)>32))).bind fun u=>(bif u then some false else aKM q j 0)
def aYA (z:ByteArray) (q:(Int→Option Bool)) (j:D) (u:U0 Tryz.prog Cc EC j q) (r:Bool) (h:cG z q=some r):BI 233 [D7 z,.d j] [] (BF r) []:=Aq.aO Tryz.func233 rfl<|Ac<|Ae<|AQ<|.a 3<|AY h fun x1 L h=>.mg 9 4 (BF x1) (.bi L)<|.bT<|BQ h DJ fun h=>Ae<|Ac<|AV.block<|Fl (fun Z=>⟨BL 33 [(0,D7 z),(1,.d j),(15,AZ (z.size:Int)),(16,AZ Z)],[],0⟩) _ _ _ (Af 33 98307 []) h<|fun J14 k5 M Z h=>Ac<|Ae<|CM h (fun h=>Ae<|AV.block<|Ac<|DK h fun x7 O x8 U h=>AQ<|.a 2<|.p (WY (k:=.i64) O MO rfl)<|.ca (aIm x7 x8 U)<|.a 1<|AY h fun x9 Y h=>.mg 24 7 (BF x9) (.bi Y (fun h=>DK h fun x11 I x12 J h=>.a 3<|.p (WY (k:=.i64) I MO rfl)<|.p (qh (d:=j) (u:U0 Tryz.prog Cc EC j q) J rfl)<|.aW<|Ez))<|.bT<|BQ h DJ fun h=>BH<|.a 2<|.nil<|M _ _ (Af 33 98307 []) h) fun h=>I4
def aA5 (j:ByteArray):Option Bool:=(cG j (fun a0=>vF a0)).bind fun q=>some q
def akZ (fQ r) (h:aA5 fQ=some r):BI 142 [D7 fQ] [] (BF r) []:=Aq.aO Tryz.func142 rfl<|Ac<|AY h fun q j h=>AQ<|.a 1<|.ca (aYA fQ (fun a0=>vF a0) (.fn (.func 234) [] []) ⟨234,[],rfl,amS,fun a0 b u=>anC a0 b u⟩ q j)<|.aW<|DF
def vC (j:Int):Option Bool:=(bif (j==46)then some true else some (j==45)).bind fun q=>some q
def adD (eP r) (h:vC eP=some r):BI 235 [.d (Cc eP)] [] (BF r) []:=Aq.aO Tryz.func235 rfl<|Ac<|AQ<|.a 2<|AY h fun q j h=>.mg 5 3 (BF q) (.bi j)<|.aW<|DF
def aDI (j:ByteArray):Option Bool:=(cG j (fun a0=>vC a0)).bind fun q=>(bif q then(Hf j 0).bind fun u=>(ji u).bind fun z=>some z else some false).bind fun I=>(bif I then(Hf j (Ai ((j.size:Int)-1))).bind fun J=>(ji J).bind fun L=>some L else some false).bind fun M=>some M
def aoQ (fQ r) (h:aDI fQ=some r):BI 143 [D7 fQ] [] (BF r) []:=Aq.aO Tryz.func143 rfl<|Ac<|AY h fun M j h=>AQ<|.a 1<|.ca (aYA fQ (fun a0=>vC a0) (.fn (.func 235) [] []) ⟨235,[],rfl,ap0,fun a0 b O=>adD a0 b O⟩ M j)<|.a 1<|AY h fun U q h=>.mg 6 3 (BF U) (G8 q (fun e i=>by subst e;have h:=i;exact DK h fun Y u Z z h=>.a 1<|.p (WY (k:=.i64) u MO rfl)<|.ca (aIm Y Z z)<|.aW<|Ez))<|.a 1<|AY h fun x6 I h=>.mg 11 6 (BF x6) (G8 I (fun e i=>by subst e;have h:=i;exact DK h fun x8 J x9 L h=>.a 4<|.p (WY (k:=.i64) J MO rfl)<|.ca (aIm x8 x9 L)<|.aW<|Ez))<|.aW<|DF
def gQ (j:ByteArray) (q:ByteArray):Option (ByteArray×ByteArray×Bool):=(bif (j.toList==BK.toList)then some true else(Hf j 0).bind fun L=>(strings_IndexByte q L).bind fun M=>some (decide (M<0))).bind fun O=>(bif O then some (BK,BK,false)else(NU j 1 ((j).size)).bind fun U=>(strings_Cut U lQ).bind fun u=>(bif (!u.2.2)then some true else(aA5 u.1).bind fun z=>some (!z)).bind fun Y=>(bif Y then some true else(aDI u.2.1).bind fun I=>some (!I)).bind fun J=>(bif J then some (BK,BK,false)else some (u.1,u.2.1,true)))
def aXC (PN alC r) (h:gQ PN alC=some r):BI 78 [D7 PN,D7 alC] [] (.eF [D7 r.1,D7 r.2.1,BF r.2.2]) []:=Aq.aO Tryz.func78 rfl<|Ac<|Ae<|AQ<|.a 2<|AY h fun x1 z h=>.mg 12 6 (BF x1) (.bi z (k2:=fun h=>DK h fun x3 I x4 J h=>.a 2<|.p (WY (k:=.i64) I MO rfl)<|.ca (ajp alC x3 x4 J)<|.aW<|Ez))<|.bT<|BQ h DJ fun h=>DK h fun x6 L M O h=>AQ<|.a 1<|.p (aPH L TB (fun _=>rfl) MO rfl)<|.ca (aed x6 lQ M O)<|.aW<|Ae<|AQ<|.a 2<|AY h fun x8 U h=>.mg 28 4 (BF x8) (.bi U (k2:=fun h=>AY h fun Y j h=>.a 1<|.ca (akZ M.1 Y j)<|.aW<|Ez))<|.a 1<|AY h fun Z q h=>.mg 34 3 (BF Z) (G8 q (k2:=fun e i=>by subst e;have h:=i;exact AY h fun OH u h=>.a 1<|.ca (aoQ M.2.1 OH u)<|.aW<|Ez))<|.bT<|RH
def uV (q:ByteArray) (j:ByteArray):Option Int:=(gQ q j).bind fun u=>(bif (!u.2.2)then some 3 else some 0)
def aWL (fQ aoG r) (h:uV fQ aoG=some r):BI 272 [D7 fQ,D7 aoG] [] (AZ r) []:=Aq.aO Tryz.func272 rfl<|Ac<|Ae<|AY h fun q j h=>AQ<|.a 2<|.ca (aXC fQ aoG q j)<|.aW<|Ac<|RH
def uI (j:ByteArray):Option Int:=(uV j sV).bind fun q=>some q
def aaB (fQ r) (h:uI fQ=some r):BI 169 [D7 fQ] [] (AZ r) []:=Aq.aO Tryz.func169 rfl<|Ac<|AY h fun q j h=>AQ<|.a 1<|.ca (aWL fQ sV q j)<|.aW<|DF
def Ze (j:ByteArray):Option Int:=(uV j wR).bind fun q=>some q
def aD4 (fQ r) (h:Ze fQ=some r):BI 170 [D7 fQ] [] (AZ r) []:=Aq.aO Tryz.func170 rfl<|Ac<|AY h fun q j h=>AQ<|.a 1<|.ca (aWL fQ wR q j)<|.aW<|DF
def aOj (j:ByteArray) (k2:(Int→Option Bool)):Int→Option Bool:=fun q=>(bif decide (q<(j.size:Int))then(Hf j q).bind fun u=>(bif decide (u<33)then some true else(Hf j q).bind fun z=>some (decide (z>126))).bind fun I=>(bif I then some false else k2 (Ai (q+1)))else(bif decide ((j.size:Int)≥1)then some (decide ((j.size:Int)≤32))else some false).bind fun J=>some J)
def aTL (j:ByteArray):Int→Option Bool:=bI (aOj j) Aj
def aBj (j:ByteArray):Option Bool:=aTL j 0
def aeR (am4 r) (h:aBj am4=some r):BI 171 [D7 am4] [] (BF r) []:=Aq.aO Tryz.func171 rfl<|Ac<|Ae<|Ac<|AV.block<|Fl (fun J=>⟨BL 28 [(0,D7 am4),(5,AZ (am4.size:Int)),(6,AZ J)],[],0⟩) _ _ _ (Af 28 97 []) h<|fun L k2 j J h=>Ac<|Ae<|CM h (fun h=>Ae<|AV.block<|Ac<|AY h fun U q h=>AQ<|.a 2<|.p (WY (k:=.i64) q MO rfl)<|.a 1<|AY h fun M u h=>.mg 13 5 (BF M) (.bi u (k2:=fun h=>AY h fun Y z h=>.a 2<|.p (WY (k:=.i64) z MO rfl)<|.aW<|Ez))<|.bT<|BQ h DJ fun h=>BH<|.a 2<|.nil<|j _ _ (Af 28 97 []) h) fun h=>AV.exit<|AQ<|.a 3<|AY h fun O I h=>.mg 23 4 (BF O) (.bi I)<|.aW<|DF
def aDr (j:AB):Option Bool:=(uI j.Room).bind fun q=>(bif (q != 0)then some true else(Ze j.aU).bind fun u=>some (u != 0)).bind fun z=>(bif z then some false else(bif (j.Kind==2)then(Ze j.Key).bind fun I=>some (I==0)else(bif (j.Kind==9)then(aBj j.Key).bind fun J=>some J else some true)))
def abY (bH r) (h:aDr bH=some r):BI 101 [DY bH] [] (BF r) []:=Aq.aO Tryz.func101 rfl<|Ac<|Ae<|AY h fun J j h=>AQ<|.a 2<|.ca (aaB bH.Room J j)<|.a 1<|AY h fun L q h=>.mg 7 5 (BF L) (.bi q (k2:=fun h=>AY h fun M u h=>.a 2<|.ca (aD4 bH.aU M u)<|.aW<|Ez))<|.bT<|BQ h DJ fun h=>Ae<|Ac<|AV.block<|Ac<|EH h (fun h=>AY h fun O z h=>AQ<|.a 2<|.ca (aD4 bH.Key O z)<|.aW<|DF) fun h=>Ac<|BQ h (fun h=>AY h fun U I h=>AQ<|.a 2<|.ca (aeR bH.Key U I)<|.aW<|DF) fun h=>Ac<|DF
def aJ1 (j:AL) (k2:(Int→Option Bool)):Int→Option Bool:=fun q=>(bif decide (q<(j.length:Int))then(Ag j q).bind fun u=>(bif decide (u<0)then some true else(bif decide (q>0)then(Ag j (Ai (q-1))).bind fun z=>some (decide (z≥u))else some false).bind fun I=>some I).bind fun J=>(bif J then some false else k2 (Ai (q+1)))else some true)
def aUb (j:AL):Int→Option Bool:=bI (aJ1 j) Aj
def qc (j:AL):Option Bool:=aUb j 0
def aSM (aA r) (h:qc aA=some r):BI 102 [CO aA] [] (BF r) []:=Aq.aO Tryz.func102 rfl<|Ac<|Ae<|AQ<|.a 1<|.p (BP Ad aA CQ rfl)<|.aW<|AV.block<|Fl (fun J=>⟨BL 28 [(0,CO aA),(5,CO aA),(6,AZ (aA.length:Int)),(7,AZ J)],[],0⟩) _ _ _ (Af 28 225 []) h<|fun L k2 j J h=>Ac<|Ae<|CM h (fun h=>Ae<|AV.block<|AY h fun U q h=>AQ<|.a 1<|.p (Bc Ad q CQ Dv rfl)<|.aW<|AQ<|.a 2<|AY h fun M u h=>.mg 14 12 (BF M) (.bi u (k2:=fun h=>.a 2<|AY h fun O z h=>.mg 17 8 (BF O) (.bi z (fun h=>AY h fun Y I h=>.a 3<|.p (Bc Ad I CQ Dv rfl)<|.aW<|Ez))<|.aW<|Ez))<|.bT<|BQ h DJ fun h=>BH<|.a 2<|.nil<|j _ _ (Af 28 225 []) h) fun h=>I4
def xJ (j:Int):Option Bool:=(bif decide (j≥1)then some (decide (j≤14))else some false).bind fun q=>some q
def aaY (iZ r) (h:xJ iZ=some r):BI 173 [AZ iZ] [] (BF r) []:=Aq.aO Tryz.func173 rfl<|Ac<|AQ<|.a 2<|AY h fun q j h=>.mg 5 3 (BF q) (.bi j)<|.aW<|DF
def aCB (j:Ba):Option Bool:=(bif ((j.Users.length:Int)==0)then some ((j.Kinds.length:Int)==0)else some false).bind fun I=>(bif I then some (j.User==0)else some false).bind fun J=>(bif J then some (j.Message==0)else some false).bind fun L=>(bif L then some (j.State==0)else some false).bind fun M=>(bif M then some (j.gJ==0)else some false).bind fun O=>(bif O then some (j.kP==0)else some false).bind fun q=>(bif q then some (j.oD==0)else some false).bind fun u=>(bif u then some (j.iw==0)else some false).bind fun z=>some z
def ak2 (aA r) (h:aCB aA=some r):BI 273 [OV aA] [] (BF r) []:=Aq.aO Tryz.func273 rfl<|Ac<|AQ<|.a 2<|.p (BP Gw aA.Users Jv rfl)<|.a 1<|AY h fun Z z h=>.mg 7 5 (BF Z) (.bi z (fun h=>.a 2<|.p (BP H6 aA.Kinds KD rfl)<|.aW<|Ez))<|.a 1<|AY h fun x3 I h=>.mg 14 3 (BF x3) (G8 I)<|.a 1<|AY h fun x5 J h=>.mg 19 3 (BF x5) (G8 J)<|.a 1<|AY h fun x7 L h=>.mg 24 3 (BF x7) (G8 L)<|.a 1<|AY h fun x9 M h=>.mg 29 3 (BF x9) (G8 M)<|.a 1<|AY h fun O j h=>.mg 34 3 (BF O) (G8 j)<|.a 1<|AY h fun U q h=>.mg 39 3 (BF U) (G8 q)<|.a 1<|AY h fun Y u h=>.mg 44 3 (BF Y) (G8 u)<|.aW<|DF
def aCP (j:Int):Option Int:=some j
def aEh (j:Bf) (u:Int):Option Int:=(aCB j.Levels).bind fun q=>(bif (!q)then aCP (ER .or .i64 u 128)else aCP u)
def aAz (j:Bf) (q:Int):Option Int:=(bif decide ((j.jd.length:Int)>0)then aEh j (ER .or .i64 q 64)else aEh j q)
def aDk (j:Bf) (q:Int):Option Int:=(bif decide ((j.Allow.length:Int)>0)then aAz j (ER .or .i64 q 32)else aAz j q)
def aEa (j:Bf) (q:Int):Option Int:=(bif (!(j.Via.toList==BK.toList))then aDk j (ER .or .i64 q 16)else aDk j q)
def aFO (j:Bf) (q:Int):Option Int:=(bif j.Thread then aEa j (ER .or .i64 q 8)else aEa j q)
def aDj (j:Bf) (q:Int):Option Int:=(bif (j.Target != 0)then aFO j (ER .or .i64 q 4)else aFO j q)
def aBU (j:Bf) (q:Int):Option Int:=(bif (j.N != 0)then aDj j (ER .or .i64 q 2)else aDj j q)
def qH (j:Bf):Option Int:=(bif (!(j.Text.toList==BK.toList))then aBU j (ER .or .i64 0 1)else aBU j 0)
def aau (eP r) (h:qH eP=some r):BI 174 [MW eP] [] (AZ r) []:=Aq.aO Tryz.func174 rfl<|Ac<|Ac<|Dt (fun s=>∃(j:Int),CW s ⟨BL 47 [(1,.ptr 0 0),(3,AZ j)],[.box (BG (H7 eP))],0⟩∧aBU eP j=some r) (by rintro s ⟨j,hs,h⟩;exact DR hs<|Dt (fun s=>∃(q:Int),CW s ⟨BL 47 [(1,.ptr 0 0),(3,AZ q)],[.box (BG (H7 eP))],0⟩∧aDj eP q=some r) (by rintro s ⟨q,hs,h⟩;exact DR hs<|Dt (fun s=>∃(z:Int),CW s ⟨BL 47 [(1,.ptr 0 0),(3,AZ z)],[.box (BG (H7 eP))],0⟩∧aFO eP z=some r) (by rintro s ⟨z,hs,h⟩;exact DR hs<|Dt (fun s=>∃(I:Int),CW s ⟨BL 47 [(1,.ptr 0 0),(3,AZ I)],[.box (BG (H7 eP))],0⟩∧aEa eP I=some r) (by rintro s ⟨I,hs,h⟩;exact DR hs<|Dt (fun s=>∃(J:Int),CW s ⟨BL 47 [(1,.ptr 0 0),(3,AZ J)],[.box (BG (H7 eP))],0⟩∧aDk eP J=some r) (by rintro s ⟨J,hs,h⟩;exact DR hs<|Dt (fun s=>∃(L:Int),CW s ⟨BL 47 [(1,.ptr 0 0),(3,AZ L)],[.box (BG (H7 eP))],0⟩∧aAz eP L=some r) (by rintro s ⟨L,hs,h⟩;exact DR hs<|Dt (fun s=>∃(M:Int),CW s ⟨BL 47 [(1,.ptr 0 0),(3,AZ M)],[.box (BG (H7 eP))],0⟩∧aEh eP M=some r) (by rintro s ⟨M,hs,h⟩;exact DR hs<|Dt (fun s=>∃(v8:Int),CW s ⟨BL 47 [(3,AZ v8)],[],0⟩∧aCP v8=some r) (by rintro s ⟨v8,hs,h⟩;exact DR hs<|Ac<|DF)<|fun K9=>AY h fun x10 O h=>AQ<|.a 2<|.ca (ak2 eP.Levels x10 O)<|.aW<|BQ h (fun h=>BH<|.a 1<|.p (Vp (k:=.i64) (u:=M) (v:=128) rfl)<|.a 1<|.nil<|K9 _ ⟨(ER .or .i64 M 128),Af 47 8 [],h⟩) fun h=>K9 _ ⟨M,Af 47 8 [],h⟩)<|fun U=>AQ<|.a 2<|.p (BP Dw eP.jd Jb rfl)<|.aW<|BQ h (fun h=>BH<|.a 1<|.p (Vp (k:=.i64) (u:=L) (v:=64) rfl)<|.a 1<|.nil<|U _ ⟨(ER .or .i64 L 64),Af 47 10 [(0,true)],h⟩) fun h=>U _ ⟨L,Af 47 10 [(0,true)],h⟩)<|fun Y=>AQ<|.a 2<|.p (BP Dw eP.Allow Jb rfl)<|.aW<|BQ h (fun h=>BH<|.a 1<|.p (Vp (k:=.i64) (u:=J) (v:=32) rfl)<|.a 1<|.nil<|Y _ ⟨(ER .or .i64 J 32),Af 47 10 [(0,true)],h⟩) fun h=>Y _ ⟨J,Af 47 10 [(0,true)],h⟩)<|fun Z=>Ac<|BQ h (fun h=>BH<|.a 1<|.p (Vp (k:=.i64) (u:=I) (v:=16) rfl)<|.a 1<|.nil<|Z _ ⟨(ER .or .i64 I 16),Af 47 10 [(0,true)],h⟩) fun h=>Z _ ⟨I,Af 47 10 [(0,true)],h⟩)<|fun K18=>Ac<|BQ h (fun h=>BH<|.a 1<|.p (Vp (k:=.i64) (u:=z) (v:=8) rfl)<|.a 1<|.nil<|K18 _ ⟨(ER .or .i64 z 8),Af 47 10 [(0,true)],h⟩) fun h=>K18 _ ⟨z,Af 47 10 [(0,true)],h⟩)<|fun K20=>Ac<|BQ h (fun h=>BH<|.a 1<|.p (Vp (k:=.i64) (u:=q) (v:=4) rfl)<|.a 1<|.nil<|K20 _ ⟨(ER .or .i64 q 4),Af 47 10 [(0,true)],h⟩) fun h=>K20 _ ⟨q,Af 47 10 [(0,true)],h⟩)<|fun K22=>Ac<|BQ h (fun h=>BH<|.a 1<|.p (Vp (k:=.i64) (u:=j) (v:=2) rfl)<|.a 1<|.nil<|K22 _ ⟨(ER .or .i64 j 2),Af 47 10 [(0,true)],h⟩) fun h=>K22 _ ⟨j,Af 47 10 [(0,true)],h⟩)<|fun K24=>Ac<|BQ h (fun h=>BH<|.a 1<|.p (Vp (k:=.i64) (u:=0) (v:=1) rfl)<|.a 1<|.nil<|K24 _ ⟨(ER .or .i64 0 1),Af 47 10 [(0,true)],h⟩) fun h=>K24 _ ⟨0,Af 47 10 [(0,true)],h⟩
def aLb (j:ByteArray) (u:(Int→Option Int)):Int→Option Int:=fun q=>(bif decide (q<(j.size:Int))then(Hf j q).bind fun z=>(bif decide (z<33)then some true else(Hf j q).bind fun I=>some (decide (I>126))).bind fun J=>(bif J then some 3 else u (Ai (q+1)))else some 0)
def aL5 (j:ByteArray):Int→Option Int:=bI (aLb j) Aj
def sS (j:ByteArray):Option Int:=(bif (j.toList==BK.toList)then some 9 else(bif decide ((j.size:Int)>64)then some 7 else aL5 j 0))
def aQV (alD r) (h:sS alD=some r):BI 274 [D7 alD] [] (AZ r) []:=Aq.aO Tryz.func274 rfl<|Ac<|Ae<|AV.block<|Ac<|EH h DJ fun h=>Ac<|BQ h DJ fun h=>Ae<|Ac<|AV.block<|Fl (fun I=>⟨BL 27 [(0,D7 alD),(12,AZ (alD.size:Int)),(13,AZ I)],[],0⟩) _ _ _ (Af 27 12289 []) h<|fun J M j I h=>Ac<|Ae<|CM h (fun h=>Ae<|AV.block<|Ac<|AY h fun O q h=>AQ<|.a 2<|.p (WY (k:=.i64) q MO rfl)<|.a 1<|AY h fun L u h=>.mg 20 5 (BF L) (.bi u (k2:=fun h=>AY h fun U z h=>.a 2<|.p (WY (k:=.i64) z MO rfl)<|.aW<|Ez))<|.bT<|BQ h DJ fun h=>BH<|.a 2<|.nil<|j _ _ (Af 27 12289 []) h) fun h=>I4
def aIN (j:FY) (z:(Int→Option Int)):Int→Option Int:=fun q=>(bif decide (q<(j.length:Int))then(Ag j q).bind fun I=>(sS I).bind fun u=>(bif (u != 0)then some u else z (Ai (q+1)))else some 0)
def aXN (j:FY):Int→Option Int:=bI (aIN j) Aj
def WA (j:FY):Option Int:=(bif decide ((j.length:Int)>100)then some 7 else aXN j 0)
def aVS (aA r) (h:WA aA=some r):BI 181 [J9 aA] [] (AZ r) []:=Aq.aO Tryz.func181 rfl<|Ac<|Ae<|AQ<|.a 1<|.p (BP Dw aA Jb rfl)<|.aW<|BQ h DJ fun h=>Ae<|AQ<|.a 1<|.p (BP Dw aA Jb rfl)<|.aW<|AV.block<|Fl (fun z=>⟨BL 21 [(9,J9 aA),(10,AZ (aA.length:Int)),(11,AZ z)],[],0⟩) _ _ _ (Af 21 3584 []) h<|fun L M j z h=>Ac<|Ae<|CM h (fun h=>Ae<|AV.block<|AY h fun I q h=>AQ<|.p (Bc Dw q Jb QB rfl)<|.aW<|AY h fun J u h=>AQ<|.a 1<|.ca (aQV I J u)<|.aW<|Ac<|BQ h DJ fun h=>BH<|.a 2<|.nil<|j _ _ (Af 21 3584 []) h) fun h=>I4
def fM (j:Int):Option Bool:=(bif decide (j<(-1000))then some true else some (decide (j>1000))).bind fun q=>some q
def aMA (asY r) (h:fM asY=some r):BI 277 [AZ asY] [] (BF r) []:=Aq.aO Tryz.func277 rfl<|Ac<|AQ<|.a 2<|AY h fun q j h=>.mg 5 3 (BF q) (.bi j)<|.aW<|DF
def aF9 (q:IX) (u:(Int→Option Int)) (z:Int) (I:Bool):Option Int:=(bif I then some 8 else(fM q.N).bind fun j=>(bif j then some 2 else u (Ai (z+1))))
abbrev MJ:=List IX
def aKJ (j:MJ) (I:(Int→Option Int)):Int→Option Int:=fun q=>(bif decide (q<(j.length:Int))then(Ag j q).bind fun u=>(Ze u.User).bind fun J=>(bif (J != 0)then some 3 else(bif decide (q>0)then(Ag j (Ai (q-1))).bind fun z=>aF9 u I q (Op.bytesLess (u.User.toList) (z.User.toList)||u.User.toList==z.User.toList)else aF9 u I q false))else some 0)
def aaT (j:MJ):Int→Option Int:=bI (aKJ j) Aj
def zG (j:MJ):Option Int:=(bif decide ((j.length:Int)>100)then some 7 else aaT j 0)
def ahT (aA r) (h:zG aA=some r):BI 275 [Qv aA] [] (AZ r) []:=Aq.aO Tryz.func275 rfl<|Ac<|Ae<|AQ<|.a 1<|.p (BP Gw aA Jv rfl)<|.aW<|BQ h DJ fun h=>Ae<|AQ<|.a 1<|.p (BP Gw aA Jv rfl)<|.aW<|AV.block<|Fl (fun L=>⟨BL 39 [(0,Qv aA),(8,Qv aA),(9,AZ (aA.length:Int)),(10,AZ L)],[],0⟩) _ _ _ (Af 39 1793 []) h<|fun J15 k3 M L h=>Ac<|Ae<|CM h (fun h=>Ae<|AV.block<|AY h fun q O h=>AQ<|.a 1<|.p (Bc Gw O Jv Uh rfl)<|.aW<|AV.block<|AY h fun x6 U h=>AQ<|.a 2<|.ca (aD4 q.User x6 U)<|.aW<|EH h DJ fun h=>Dt (fun s=>∃(Y:Bool),CW s ⟨BL 39 [(0,Qv aA),(4,.ptr 0 0),(8,Qv aA),(9,AZ (aA.length:Int)),(10,AZ L),(20,BF Y)],[.box (BG (Gw q))],0⟩∧aF9 q k3 L Y=some r) (by rintro s ⟨Y,hs,h⟩;exact DR hs<|EH h DJ fun h=>AY h fun Z u h=>AQ<|.a 2<|.ca (aMA q.N Z u)<|.aW<|BQ h DJ fun h=>BH<|.a 2<|.nil<|M _ _ (Af 39 1793 []) h)<|fun z=>Fp h (fun j h=>AY h fun I J h=>AV.draw A8 A8 A8 (.a 2<|.c (Ap some j)<|.a 5<|.p (Bc Gw J Jv Uh rfl)<|.a 5<|.nil _)<|z _ ⟨(Op.bytesLess (q.User.toList) (I.User.toList)||q.User.toList==I.User.toList),Af 39 1050385 [(0,true)],h⟩) fun j h=>AV.draw A8 A8 A8 (.a 2<|.c (Ap some j)<|.a 11<|.nil _)<|z _ ⟨false,Af 39 1050385 [(0,true)],h⟩) fun h=>I4
def aC1 (q:Jc) (u:(Int→Option Int)) (z:Int) (I:Bool):Option Int:=(bif I then some 8 else(fM q.N).bind fun j=>(bif j then some 2 else u (Ai (z+1))))
abbrev MI:=List Jc
def aLE (j:MI) (I:(Int→Option Int)):Int→Option Int:=fun q=>(bif decide (q<(j.length:Int))then(Ag j q).bind fun u=>(xJ u.Kind).bind fun J=>(bif (!J)then some 1 else(bif decide (q>0)then(Ag j (Ai (q-1))).bind fun z=>aC1 u I q (decide (u.Kind≤z.Kind))else aC1 u I q false))else some 0)
def aSr (j:MI):Int→Option Int:=bI (aLE j) Aj
def aFT (j:MI):Option Int:=(bif decide ((j.length:Int)>100)then some 7 else aSr j 0)
def amr (aA r) (h:aFT aA=some r):BI 276 [Qj aA] [] (AZ r) []:=Aq.aO Tryz.func276 rfl<|Ac<|Ae<|AQ<|.a 1<|.p (BP H6 aA KD rfl)<|.aW<|BQ h DJ fun h=>Ae<|AQ<|.a 1<|.p (BP H6 aA KD rfl)<|.aW<|AV.block<|Fl (fun J=>⟨BL 39 [(0,Qj aA),(8,Qj aA),(9,AZ (aA.length:Int)),(10,AZ J)],[],0⟩) _ _ _ (Af 39 1793 []) h<|fun J15 k3 L J h=>Ac<|Ae<|CM h (fun h=>Ae<|AV.block<|AY h fun q M h=>AQ<|.a 1<|.p (Bc H6 M KD V5 rfl)<|.aW<|AV.block<|AY h fun x6 O h=>AQ<|.a 2<|.ca (aaY q.Kind x6 O)<|.aW<|EH h DJ fun h=>Dt (fun s=>∃(U:Bool),CW s ⟨BL 39 [(0,Qj aA),(4,.ptr 0 0),(8,Qj aA),(9,AZ (aA.length:Int)),(10,AZ J),(20,BF U)],[.box (BG (H6 q))],0⟩∧aC1 q k3 J U=some r) (by rintro s ⟨U,hs,h⟩;exact DR hs<|EH h DJ fun h=>AY h fun Y u h=>AQ<|.a 2<|.ca (aMA q.N Y u)<|.aW<|BQ h DJ fun h=>BH<|.a 2<|.nil<|L _ _ (Af 39 1793 []) h)<|fun z=>Fp h (fun j h=>AY h fun Z I h=>AV.draw A8 A8 A8 (.a 2<|.c (Ap some j)<|.a 5<|.p (Bc H6 I KD V5 rfl)<|.a 5<|.nil _)<|z _ ⟨(decide (q.Kind≤Z.Kind)),Af 39 1050385 [(0,true)],h⟩) fun j h=>AV.draw A8 A8 A8 (.a 2<|.c (Ap some j)<|.a 11<|.nil _)<|z _ ⟨false,Af 39 1050385 [(0,true)],h⟩) fun h=>I4
def aQj (j:Ba) (u:(Int→Option Int)):Int→Option Int:=fun q=>(bif decide (q<7)then(Ag ([j.User,j.Message,j.State,j.gJ,j.kP,j.oD,j.iw]:AL) q).bind fun z=>(fM z).bind fun I=>(bif I then some 2 else u (Ai (q+1)))else some 0)
def aPk (j:Ba):Int→Option Int:=bI (aQj j) Aj
def bW (j:Ba):Option Int:=(zG j.Users).bind fun q=>(bif (q != 0)then some q else(aFT j.Kinds).bind fun u=>(bif (u != 0)then some u else aPk j 0))
def ajU (aA r) (h:bW aA=some r):BI 182 [OV aA] [] (AZ r) []:=Aq.aO Tryz.func182 rfl<|Ac<|Ae<|AY h fun L j h=>AQ<|.a 2<|.ca (ahT aA.Users L j)<|.aW<|Ac<|BQ h DJ fun h=>Ae<|AY h fun M q h=>AQ<|.a 2<|.ca (amr aA.Kinds M q)<|.aW<|Ac<|BQ h DJ fun h=>Ae<|Ac<|AV.block<|Fl (fun J=>⟨BL 40 [(33,.d ((MP Ad) ([aA.User,aA.Message,aA.State,aA.gJ,aA.kP,aA.oD,aA.iw]:(List Int)))),(34,AZ J)],[],0⟩) _ _ _ (Af 40 25769803776 []) h<|fun O Z u J h=>Ac<|Ae<|CM h (fun h=>Ae<|AV.block<|AY h fun U z h=>AQ<|.p (aBC (k:=.i64) Ad z aAF Dv A8 rfl)<|.aW<|AY h fun Y I h=>AQ<|.a 1<|.ca (aMA U Y I)<|.bT<|BQ h DJ fun h=>BH<|.a 2<|.nil<|u _ _ (Af 40 25769803776 []) h) fun h=>I4
def aFB (j:Bool):Option Int:=(bif j then some 7 else some 0)
def QO (q:Int) (j:Bf):Option Int:=(bif (q==9)then some (!(j.Text.toList==BK.toList))else some false).bind fun z=>(bif z then(sS j.Text).bind fun I=>some I else(bif (q==12)then some (j.Text.toList==BK.toList)else some false).bind fun J=>(bif J then some 9 else(bif (q==12)then some (decide ((j.Text.size:Int)>32))else some false).bind fun u=>(bif u then aFB u else aFB (decide ((j.Text.size:Int)>400)))))
def ade (iZ jD r) (h:QO iZ jD=some r):BI 175 [AZ iZ,MW jD] [] (AZ r) []:=Aq.aO Tryz.func175 rfl<|Ac<|Ae<|AV.block<|AQ<|.a 2<|AY h fun L u h=>.mg 8 4 (BF L) (.bi u)<|.aW<|EH h (fun h=>AY h fun M z h=>AQ<|.a 2<|.ca (aQV jD.Text M z)<|.aW<|DF) fun h=>AQ<|.a 2<|AY h fun O I h=>.mg 19 4 (BF O) (.bi I)<|.aW<|EH h DJ fun h=>Dt (fun s=>∃(J:Bool),CW s ⟨BL 37 [(24,BF J)],[],0⟩∧aFB J=some r) (by rintro s ⟨J,hs,h⟩;exact DR hs<|RH)<|fun K10=>AQ<|.a 2<|AY h fun j q h=>.mg 27 5 (BF j) (.bi q)<|.aW<|CM h (fun h=>K10 _ ⟨j,Af 37 16777216 [],h⟩) fun h=>BH<|.a 5<|.nil<|K10 _ ⟨(decide ((jD.Text.size:Int)>400)),Af 37 16777216 [],h⟩
def oV (j:Bf) (q:Int) (u:Int):Option Int:=(bif decide (j.N<q)then some true else some (decide (j.N>u))).bind fun z=>(bif z then some 2 else some 0)
def OJ (q:Int) (j:Bf):Option Int:=(bif (q==2)then oV j 0 4 else(bif (q==8)then oV j 0 1000000000 else(bif (q==10)then oV j 1 10000 else(bif (q==9)then(bif (j.N==1)then some true else some (j.N==2)).bind fun u=>(bif u then some true else some (j.N==6)).bind fun z=>(bif z then some 0 else some 2)else oV j 0 3))))
def ams (iZ jD r) (h:OJ iZ jD=some r):BI 176 [AZ iZ,MW jD] [] (AZ r) []:=Aq.aO Tryz.func176 rfl<|Ac<|Ac<|Dt (fun s=>∃(u:Int) (z:Int),CW s ⟨BL 39 [(3,.ptr 0 0),(5,AZ u),(6,AZ z)],[.box (BG (H7 jD))],0⟩∧oV jD u z=some r) (by rintro s ⟨u,z,hs,h⟩;exact DR hs<|Ae<|AQ<|.a 4<|AY h fun M I h=>.mg 33 5 (BF M) (.bi I)<|.bT<|RH)<|fun K6=>Ac<|AV.block<|Ac<|EH h (fun h=>BH<|.a 1<|.nil<|K6 _ ⟨0,4,Af 39 104 [(0,true)],h⟩) fun h=>Ac<|EH h (fun h=>BH<|.a 1<|.nil<|K6 _ ⟨0,1000000000,Af 39 104 [(0,true)],h⟩) fun h=>Ac<|EH h (fun h=>BH<|.a 2<|.nil<|K6 _ ⟨1,10000,Af 39 104 [(0,true)],h⟩) fun h=>Ac<|BQ h (fun h=>Ae<|Ac<|AQ<|.a 2<|AY h fun J j h=>.mg 21 3 (BF J) (.bi j)<|.a 1<|AY h fun L q h=>.mg 26 2 (BF L) (G8 q)<|.bT<|RH) fun h=>K6 _ ⟨0,3,Af 39 104 [(0,true)],h⟩
def Ro (q:Int) (j:Bf):Option Int:=(bif decide (j.Target<0)then some true else(bif (j.Target==0)then some (q != 11)else some false).bind fun u=>some u).bind fun z=>(bif z then some 2 else some 0)
def adQ (iZ jD r) (h:Ro iZ jD=some r):BI 177 [AZ iZ,MW jD] [] (AZ r) []:=Aq.aO Tryz.func177 rfl<|Ac<|Ae<|AQ<|.a 3<|AY h fun u j h=>.mg 8 8 (BF u) (.bi j (k2:=fun h=>.a 3<|AY h fun z q h=>.mg 12 3 (BF z) (.bi q)<|.aW<|Ez))<|.bT<|RH
def ak (q:Int) (j:Bf):Option Int:=(bif j.Thread then some (j.Target==0)else some false).bind fun u=>(bif u then some 1 else some 0)
def aot (iZ jD r) (h:ak iZ jD=some r):BI 178 [AZ iZ,MW jD] [] (AZ r) []:=Aq.aO Tryz.func178 rfl<|Ac<|Ae<|AQ<|.a 2<|AY h fun q j h=>.mg 7 4 (BF q) (.bi j)<|.bT<|RH
def bF (q:Int) (j:Bf):Option Int:=(bif (j.Via.toList==BK.toList)then some 0 else(bif (j.N != 3)then some 1 else(Ze j.Via).bind fun u=>some u))
def acs (iZ jD r) (h:bF iZ jD=some r):BI 179 [AZ iZ,MW jD] [] (AZ r) []:=Aq.aO Tryz.func179 rfl<|Ac<|Ae<|AV.block<|Ac<|EH h DJ fun h=>Ac<|BQ h DJ fun h=>AY h fun q j h=>AQ<|.a 2<|.ca (aD4 jD.Via q j)<|.aW<|DF
def aN7 (j:Bf) (L:(Int→Option Int)):Int→Option Int:=fun u=>(bif decide (u<(j.Allow.length:Int))then(Ag j.Allow u).bind fun q=>(uI q).bind fun I=>(bif (I != 0)then some 3 else(bif decide (u>0)then(Ag j.Allow (Ai (u-1))).bind fun z=>some (Op.bytesLess (q.toList) (z.toList)||q.toList==z.toList)else some false).bind fun J=>(bif J then some 8 else L (Ai (u+1))))else some 0)
def aa5 (j:Bf):Int→Option Int:=bI (aN7 j) Aj
def XC (q:Int) (j:Bf):Option Int:=(bif (q==6)then(WA j.Allow).bind fun u=>some u else(bif decide ((j.Allow.length:Int)>0)then some (j.N != 3)else some false).bind fun z=>(bif z then some 1 else(bif decide ((j.Allow.length:Int)>100)then some 7 else aa5 j 0)))
def acg (iZ jD r) (h:XC iZ jD=some r):BI 180 [AZ iZ,MW jD] [] (AZ r) []:=Aq.aO Tryz.func180 rfl<|Ac<|Ae<|AV.block<|Ac<|EH h (fun h=>AY h fun Z I h=>AQ<|.a 2<|.ca (aVS jD.Allow Z I)<|.aW<|DF) fun h=>AQ<|.a 2<|.p (BP Dw jD.Allow Jb rfl)<|.a 1<|AY h fun x3 J h=>.mg 18 4 (BF x3) (.bi J)<|.aW<|EH h DJ fun h=>AQ<|.a 2<|.p (BP Dw jD.Allow Jb rfl)<|.aW<|BQ h DJ fun h=>Ae<|AQ<|.a 2<|.p (BP Dw jD.Allow Jb rfl)<|.aW<|AV.block<|Fl (fun Y=>⟨BL 52 [(3,.ptr 0 0),(29,J9 jD.Allow),(30,AZ (jD.Allow.length:Int)),(31,AZ Y)],[.box (BG (H7 jD))],0⟩) _ _ _ (Af 52 3758096392 [(0,true)]) h<|fun J17 k8 L Y h=>Ac<|Ae<|CM h (fun h=>Ae<|AV.block<|AY h fun M j h=>AQ<|.a 1<|.p (Bc Dw j Jb QB rfl)<|.aW<|Ae<|AY h fun O q h=>AQ<|.a 1<|.ca (aaB M O q)<|.aW<|BQ h DJ fun h=>AQ<|.a 2<|AY h fun U u h=>.mg 41 9 (BF U) (.bi u (fun h=>AY h fun x15 z h=>.a 5<|.p (Bc Dw z Jb QB rfl)<|.aW<|Ez))<|.bT<|BQ h DJ fun h=>BH<|.a 2<|.nil<|L _ _ (Af 52 3758096392 [(0,true)]) h) fun h=>I4
def aDD (n:Nat) (a0:Int) (j:Bf):Option Int:=bif n==175 then QO a0 j else bif n==176 then OJ a0 j else bif n==177 then Ro a0 j else bif n==178 then ak a0 j else bif n==179 then bF a0 j else bif n==180 then XC a0 j else none
def apX (n a0 j r) (h:aDD n a0 j=some r):X3 Tryz.prog Ad H7 Ad (aSa n) (aDD n):=by
 by_cases u:n=175
 ·subst u;exact⟨175,[],rfl,aeW,fun a0 j c q=>ade a0 j c q⟩
 by_cases z:n=176
 ·subst z;exact⟨176,[],rfl,apM,fun a0 j c q=>ams a0 j c q⟩
 by_cases I:n=177
 ·subst I;exact⟨177,[],rfl,acp,fun a0 j c q=>adQ a0 j c q⟩
 by_cases J:n=178
 ·subst J;exact⟨178,[],rfl,alP,fun a0 j c q=>aot a0 j c q⟩
 by_cases L:n=179
 ·subst L;exact⟨179,[],rfl,abN,fun a0 j c q=>acs a0 j c q⟩
 by_cases M:n=180
 ·subst M;exact⟨180,[],rfl,anG,fun a0 j c q=>acg a0 j c q⟩
 rw[aDD,kQ u,kQ z,kQ I,kQ J,kQ L,kQ M]at h;have h:(none:Option Int)=some r:=h;cases h
def Zx :(List OB):=[(⟨1,175⟩:OB),(⟨2,176⟩:OB),(⟨4,177⟩:OB),(⟨8,178⟩:OB),(⟨16,179⟩:OB),(⟨32,180⟩:OB)]
def aPG (j:(Int→Bf→Option Int)) (q:Int) (u:Bf):Option Int:=j (Ai (q+1)) u
def Xa (L:Int) (u:Int) (z:(Int→Bf→Option Int)):Int→Bf→Option Int:=fun q j=>(bif decide (q<(Zx.length:Int))then(Ag Zx q).bind fun I=>(bif ((ER .and .i64 L I.aAM)==0)then aPG z q j else(aDD I.asF u j).bind fun J=>(bif (J != 0)then some J else aPG z q j))else(bif ((ER .and .i64 L 64) != 0)then(WA j.jd).bind fun M=>some M else(bif ((ER .and .i64 L 128) != 0)then(bW j.Levels).bind fun O=>some O else some 0)))
def LY (q:Int) (j:Int):Int→Bf→Option Int:=aT (Xa q j) Aj
def Ky (j:Int) (q:Bf):Option Int:=(lD j).bind fun z=>(xJ j).bind fun I=>(bif (!I)then some true else(qH q).bind fun J=>some ((ER .andNot .i64 J z) != 0)).bind fun L=>(bif L then some 1 else(qH q).bind fun M=>(bif (M==0)then(iT j).bind fun u=>some (u==0)else some false).bind fun O=>(bif O then some 0 else LY z j 0 q))
def afT (iZ jD r) (h:Ky iZ jD=some r):BI 103 [AZ iZ,MW jD] [] (AZ r) []:=Aq.aO Tryz.func103 rfl<|Ac<|AY h fun I hx1 h=>AQ<|.a 1<|.ca (aVi iZ I hx1)<|.aW<|Ae<|AY h fun x2 hx2 h=>AQ<|.a 1<|.ca (aaY iZ x2 hx2)<|.a 1<|AY h fun x3 hx3 h=>.mg 15 6 (BF x3) (.bi hx3 (k2:=fun h=>AY h fun x5 hx5 h=>.a 1<|.ca (aau jD x5 hx5)<|.a 1<|.p (akR (k:=.i64) (u:=x5) (v:=I) rfl)<|.aW<|Ez))<|.bT<|BQ h DJ fun h=>Ae<|AY h fun x7 hx7 h=>AQ<|.a 1<|.ca (aau jD x7 hx7)<|.a 1<|AY h fun x8 AU h=>.mg 25 4 (BF x8) (.bi AU (fun h=>AY h fun x10 J h=>.a 1<|.ca (aWN iZ x10 J)<|.aW<|Ez))<|.bT<|BQ h DJ fun h=>AQ<|.a 6<|.p (Ei ait aJK [V3 (⟨1,175⟩:OB),V3 (⟨2,176⟩:OB),V3 (⟨4,177⟩:OB),V3 (⟨8,178⟩:OB),V3 (⟨16,179⟩:OB),V3 (⟨32,180⟩:OB)] rfl)<|.aW<|Ae<|AQ<|.a 1<|.p (BP V3 Zx aVO rfl)<|.aW<|AV.block<|ET (fun q j=>⟨BL 69 [(0,AZ iZ),(3,.ptr 0 0),(5,AZ I),(37,.d ((BM V3) Zx)),(38,AZ (Zx.length:Int)),(39,AZ q)],[.box (BG (H7 j))],0⟩) _ _ _ _ (Af 69 962072674345 [(0,true)]) h<|fun J25 k14 L q j h=>Ac<|Ae<|CM h (fun h=>Dt (fun s=>CW s ⟨BL 69 [(0,AZ iZ),(3,.ptr 0 0),(5,AZ I),(37,.d ((BM V3) Zx)),(38,AZ (Zx.length:Int)),(39,AZ q)],[.box (BG (H7 j))],0⟩∧aPG k14 q j=some r) (by rintro s ⟨hs,h⟩;exact DR hs<|BH<|.a 2<|.nil<|L _ _ _ (Af 69 962072674345 [(0,true)]) h)<|fun M=>AV.block<|AY h fun O U h=>AQ<|.p (Bc V3 U aVO aR6 rfl)<|.aW<|Ae<|AQ<|.a 3<|.p (Qz (k:=.i64) (u:=I) (v:=O.aAM) rfl)<|.aW<|BQ h (fun h=>AV.exit<|M _ ⟨Af 69 962072674345 [(0,true)],h⟩) fun h=>AY h fun x19 z h=>AQ<|.a 4<|.p (YJ (apX O.asF iZ j x19 z) z rfl)<|.aW<|Ac<|BQ h DJ fun h=>M _ ⟨Af 69 962072674345 [(0,true)],h⟩) fun h=>AV.exit<|Ae<|AQ<|.a 1<|.p (Qz (k:=.i64) (u:=I) (v:=64) rfl)<|.aW<|BQ h (fun h=>AY h fun PE Y h=>AQ<|.a 2<|.ca (aVS j.jd PE Y)<|.aW<|DF) fun h=>Ae<|AQ<|.a 1<|.p (Qz (k:=.i64) (u:=I) (v:=128) rfl)<|.aW<|BQ h (fun h=>AY h fun x24 Z h=>AQ<|.a 2<|.ca (ajU j.Levels x24 Z)<|.aW<|DF) fun h=>Ac<|DF
def XT (j:AB) (U:Bool):Option Int:=(bif U then some 1 else(aDr j).bind fun Y=>(bif (!Y)then some 3 else(bif decide (j.Time<0)then some true else some (decide (j.Time>1000000000))).bind fun Z=>(bif Z then some true else some (decide (j.Depth<1))).bind fun x9=>(bif x9 then some true else some (decide (j.Depth>100000))).bind fun q=>(bif q then some 2 else(bif decide ((j.aZ.length:Int)>10)then some true else some (decide ((j.bg.length:Int)>8))).bind fun u=>(bif u then some 7 else(qc j.aZ).bind fun z=>(bif (!z)then some true else(qc j.bg).bind fun I=>some (!I)).bind fun J=>(bif J then some 8 else(bif ((j.aZ.length:Int)==0)then some (j.Kind != 1)else some false).bind fun L=>(bif L then some 9 else(bif (j.Kind==1)then some (decide ((Ai ((j.aZ.length:Int)+(j.bg.length:Int)))>0))else some false).bind fun M=>(bif M then some 6 else(Ky j.Kind j.Content).bind fun O=>some O)))))))
def St (j:AB):Option Int:=(bif (j.Kind==2)then some true else some (j.Kind==9)).bind fun u=>(bif decide (j.Kind<1)then XT j true else(bif decide (j.Kind>14)then XT j true else(Z4 j.Kind).bind fun q=>(bif (!(j.State==q))then XT j true else(bif (!(j.Key.toList==BK.toList))then XT j (!u)else XT j false))))
def aLC (bH r) (h:St bH=some r):BI 46 [DY bH] [] (AZ r) []:=Aq.aO Tryz.func46 rfl<|Ac<|AQ<|.a 3<|AY h fun x1 hx1 h=>.mg 7 4 (BF x1) (.bi hx1)<|.aW<|Ae<|AV.block<|Dt (fun s=>∃(v3:Bool),CW s ⟨BL 112 [(1,.ptr 0 0),(12,BF v3)],[.box (BG (Au bH))],0⟩∧XT bH v3=some r) (by rintro s ⟨v3,hs,h⟩;exact DR hs<|EH h DJ fun h=>AY h fun x5 hx5 h=>AQ<|.a 1<|.ca (abY bH x5 hx5)<|.aW<|EH h DJ fun h=>AQ<|.a 3<|AY h fun x7 hx7 h=>.mg 46 4 (BF x7) (.bi hx7)<|.a 1<|AY h fun x9 Dy h=>.mg 52 3 (BF x9) (G8 Dy)<|.a 1<|AY h fun x11 M h=>.mg 57 3 (BF x11) (G8 M)<|.aW<|EH h DJ fun h=>AQ<|.a 2<|.p (BP Ad bH.aZ CQ rfl)<|.a 1<|AY h fun x14 O h=>.mg 66 5 (BF x14) (.bi O (k2:=fun h=>.a 2<|.p (BP Ad bH.bg CQ rfl)<|.aW<|Ez))<|.aW<|EH h DJ fun h=>AY h fun x17 U h=>AQ<|.a 2<|.ca (aSM bH.aZ x17 U)<|.a 1<|AY h fun x18 Y h=>.mg 77 5 (BF x18) (.bi Y (k2:=fun h=>AY h fun Xd Z h=>.a 2<|.ca (aSM bH.bg Xd Z)<|.aW<|Ez))<|.aW<|EH h DJ fun h=>AQ<|.a 2<|.p (BP Ad bH.aZ CQ rfl)<|.a 1<|AY h fun PE Y2 h=>.mg 88 4 (BF PE) (.bi Y2)<|.aW<|EH h DJ fun h=>AQ<|.a 3<|AY h fun x25 hx25 h=>.mg 97 9 (BF x25) (.bi hx25 (fun h=>.a 2<|.p (BP Ad bH.aZ CQ rfl)<|.a 2<|.p (BP Ad bH.bg CQ rfl)<|.aW<|Ez))<|.aW<|BQ h DJ fun h=>AY h fun x28 hx28 h=>AQ<|.a 4<|.ca (afT bH.Kind bH.Content x28 hx28)<|.aW<|DF)<|fun z=>Fp h (fun j h=>AV.draw A8 A8 A8 (.a 3<|.c (Ap some j)<|.a 22<|.nil _)<|z _ ⟨true,Af 112 4098 [(0,true)],h⟩) fun j h=>Fp h (fun q h=>AV.draw A8 A8 A8 (.a 3<|.c (Ap some j)<|.a 4<|.c (Ap some q)<|.a 17<|.nil _)<|z _ ⟨true,Af 112 4098 [(0,true)],h⟩) fun q h=>AY h fun L I h=>Fp h (fun u h=>AV.draw A8 A8 A8 (.a 3<|.c (Ap some j)<|.a 4<|.c (Ap some q)<|.a 4<|.ca (Zf bH.Kind L I)<|.a 2<|.c (Ap some u)<|.a 9<|.nil _)<|z _ ⟨true,Af 112 4098 [(0,true)],h⟩) fun u h=>Fp h (fun J h=>AV.draw A8 A8 A8 (.a 3<|.c (Ap some j)<|.a 4<|.c (Ap some q)<|.a 4<|.ca (Zf bH.Kind L I)<|.a 2<|.c (Ap some u)<|.a 3<|.c (Ap some J)<|.a 5<|.nil _)<|z _ ⟨(!x1),Af 112 4098 [(0,true)],h⟩) fun J h=>AV.draw A8 A8 A8 (.a 3<|.c (Ap some j)<|.a 4<|.c (Ap some q)<|.a 4<|.ca (Zf bH.Kind L I)<|.a 2<|.c (Ap some u)<|.a 3<|.c (Ap some J)<|.a 5<|.nil _)<|z _ ⟨false,Af 112 4098 [(0,true)],h⟩
def aOy (j:FY) (q:FY) (z:(Int→Option Bool)):Int→Option Bool:=fun u=>(bif decide (u<(j.length:Int))then(Ag j u).bind fun I=>(Ag q u).bind fun J=>(bif (!(I.toList==J.toList))then some false else z (Ai (u+1)))else some true)
def aaX (j:FY) (q:FY):Int→Option Bool:=bI (aOy j q) Aj
def oU (j:FY) (q:FY):Option Bool:=(bif ((j.length:Int) != (q.length:Int))then some false else aaX j q 0)
def aYD (oL mG r) (h:oU oL mG=some r):BI 132 [J9 oL,J9 mG] [] (BF r) []:=Aq.aO Tryz.func132 rfl<|Ac<|Ae<|AQ<|.a 1<|.p (BP Dw oL Jb rfl)<|.a 1<|.p (BP Dw mG Jb rfl)<|.aW<|BQ h DJ fun h=>Ae<|AQ<|.a 1<|.p (BP Dw oL Jb rfl)<|.aW<|AV.block<|Fl (fun z=>⟨BL 26 [(0,J9 oL),(1,J9 mG),(12,AZ (oL.length:Int)),(13,AZ z)],[],0⟩) _ _ _ (Af 26 12291 []) h<|fun I J j z h=>Ac<|Ae<|CM h (fun h=>Ae<|AV.block<|Ac<|DK h fun L q M u h=>H9 A8 A8 A8 (.a 2<|.p (Bc Dw q Jb QB rfl)<|.a 3<|.p (Bc Dw u Jb QB rfl)<|.a 2<|.nil _)<|BQ h DJ fun h=>BH<|.a 2<|.nil<|j _ _ (Af 26 12291 []) h) fun h=>I4
def aHl (j:MJ) (q:MJ) (z:(Int→Option Bool)):Int→Option Bool:=fun u=>(bif decide (u<(j.length:Int))then(Ag j u).bind fun I=>(Ag q u).bind fun J=>(bif (!aAO I J)then some false else z (Ai (u+1)))else some true)
def aUL (j:MJ) (q:MJ):Int→Option Bool:=bI (aHl j q) Aj
def aGM (j:MJ) (q:MJ):Option Bool:=(bif ((j.length:Int) != (q.length:Int))then some false else aUL j q 0)
def akM (oL mG r) (h:aGM oL mG=some r):BI 133 [Qv oL,Qv mG] [] (BF r) []:=Aq.aO Tryz.func133 rfl<|Ac<|Ae<|AQ<|.a 1<|.p (BP Gw oL Jv rfl)<|.a 1<|.p (BP Gw mG Jv rfl)<|.aW<|BQ h DJ fun h=>Ae<|AQ<|.a 1<|.p (BP Gw oL Jv rfl)<|.aW<|AV.block<|Fl (fun J=>⟨BL 26 [(0,Qv oL),(1,Qv mG),(12,AZ (oL.length:Int)),(13,AZ J)],[],0⟩) _ _ _ (Af 26 12291 []) h<|fun L M u J h=>Ac<|Ae<|CM h (fun h=>Ae<|AV.block<|Ac<|DK h fun j z q I h=>H9 A8 A8 A8 (.a 2<|.p (Bc Gw z Jv Uh rfl)<|.a 3<|.p (Bc Gw I Jv Uh rfl)<|.a 1<|.p (x:=(BF (!aAO j q))) (aLf [.string j.User,.int .i64 j.N] [.string q.User,.int .i64 q.N] (afY j q) BJ ahA rfl)<|.nil _)<|BQ h DJ fun h=>BH<|.a 2<|.nil<|u _ _ (Af 26 12291 []) h) fun h=>I4
def aK1 (j:MI) (q:MI) (z:(Int→Option Bool)):Int→Option Bool:=fun u=>(bif decide (u<(j.length:Int))then(Ag j u).bind fun I=>(Ag q u).bind fun J=>(bif (!aDe I J)then some false else z (Ai (u+1)))else some true)
def aTU (j:MI) (q:MI):Int→Option Bool:=bI (aK1 j q) Aj
def Sub (j:MI) (q:MI):Option Bool:=(bif ((j.length:Int) != (q.length:Int))then some false else aTU j q 0)
def aeG (oL mG r) (h:Sub oL mG=some r):BI 134 [Qj oL,Qj mG] [] (BF r) []:=Aq.aO Tryz.func134 rfl<|Ac<|Ae<|AQ<|.a 1<|.p (BP H6 oL KD rfl)<|.a 1<|.p (BP H6 mG KD rfl)<|.aW<|BQ h DJ fun h=>Ae<|AQ<|.a 1<|.p (BP H6 oL KD rfl)<|.aW<|AV.block<|Fl (fun J=>⟨BL 26 [(0,Qj oL),(1,Qj mG),(12,AZ (oL.length:Int)),(13,AZ J)],[],0⟩) _ _ _ (Af 26 12291 []) h<|fun L M u J h=>Ac<|Ae<|CM h (fun h=>Ae<|AV.block<|Ac<|DK h fun j z q I h=>H9 A8 A8 A8 (.a 2<|.p (Bc H6 z KD V5 rfl)<|.a 3<|.p (Bc H6 I KD V5 rfl)<|.a 1<|.p (x:=(BF (!aDe j q))) (aLf [.int .i64 j.Kind,.int .i64 j.N] [.int .i64 q.Kind,.int .i64 q.N] (acd j q) BJ ac2 rfl)<|.nil _)<|BQ h DJ fun h=>BH<|.a 2<|.nil<|u _ _ (Af 26 12291 []) h) fun h=>I4
def aEg (j:Bf) (q:Bf):Option Bool:=(bif (!(j.Text.toList==q.Text.toList))then some true else some (j.N != q.N)).bind fun x1=>(bif x1 then some true else some (j.Target != q.Target)).bind fun x3=>(bif x3 then some true else some (!(j.Thread==q.Thread))).bind fun x5=>(bif x5 then some true else some (!(j.Via.toList==q.Via.toList))).bind fun x7=>(bif x7 then some true else(oU j.Allow q.Allow).bind fun u=>some (!u)).bind fun x9=>(bif x9 then some true else(oU j.jd q.jd).bind fun z=>some (!z)).bind fun I=>(bif I then some false else(aGM j.Levels.Users q.Levels.Users).bind fun J=>(bif J then(Sub j.Levels.Kinds q.Levels.Kinds).bind fun L=>some L else some false).bind fun M=>(bif M then some (j.Levels.User==q.Levels.User)else some false).bind fun O=>(bif O then some (j.Levels.Message==q.Levels.Message)else some false).bind fun U=>(bif U then some (j.Levels.State==q.Levels.State)else some false).bind fun Y=>(bif Y then some (j.Levels.gJ==q.Levels.gJ)else some false).bind fun Z=>(bif Z then some (j.Levels.kP==q.Levels.kP)else some false).bind fun x28=>(bif x28 then some (j.Levels.oD==q.Levels.oD)else some false).bind fun Zm=>(bif Zm then some (j.Levels.iw==q.Levels.iw)else some false).bind fun x32=>some x32)
def adp (oL mG r) (h:aEg oL mG=some r):BI 75 [MW oL,MW mG] [] (BF r) []:=Aq.aO Tryz.func75 rfl<|Ac<|AV.asD [] 108 0x68383206638310641830062182f064302e062302d05c082c05a082b060102a05e1029060302805c182805e302705a182705c202605a28250580024056002305818220500822056182104e0821058202004c0820056281f04a081f054301e050101e052301d04e101d050201c04c181c04e281b04a181b04c281a04a201a048181904400190461818042001804820170400017046281603e0016044101503c0815042101403a0814044201304018130380813042281203e18120360812040281103e2011034081103c2010038101003a280f036100f038280e036200e034180e032100d02a000d030100c028000c032200b02e180b026000b030280a02c180a024000a02e280902c2009022000902a2008026100802008080282807024100701e080702628060242006022180601c0806020280501e200501c100501a2004016100401000040182803014100300e000301628020142002012180200c0002010280100e200100c100100a08010082800006200000410000020000 [51,52] ⟨BL 121 [(2,.ptr 0 0),(3,.ptr 1 0),(5,.ptr 2 0),(6,.ptr 3 0)],[.box (BG (H7 oL)),.box (BG (H7 mG)),.box (BG (Ic oL.Levels)),.box (BG (Ic mG.Levels))],0⟩ ⟨jI (Af 121 108 [(0,true),(1,true),(2,true),(3,true)]),jI (Af 121 108 [(0,true),(1,true),(3,true),(2,true)]),trivial⟩<|Ae<|AQ<|.a 5<|AY h fun x1 hx1 h=>.mg 16 6 (BF x1) (.bi hx1)<|.a 1<|AY h fun x3 hx3 h=>.mg 24 5 (BF x3) (G8 hx3)<|.a 1<|AY h fun x5 hx5 h=>.mg 31 5 (BF x5) (G8 hx5)<|.a 1<|AY h fun x7 hx7 h=>.mg 38 5 (BF x7) (G8 hx7)<|.a 1<|AY h fun x9 Dy h=>.mg 45 6 (BF x9) (G8 Dy (k2:=fun e i=>by subst e;have h:=i;exact AY h fun x11 j h=>.a 4<|.ca (aYD oL.Allow mG.Allow x11 j)<|.aW<|Ez))<|.a 1<|AY h fun x12 q h=>.mg 53 6 (BF x12) (G8 q (k2:=fun e i=>by subst e;have h:=i;exact AY h fun x14 u h=>.a 4<|.ca (aYD oL.jd mG.jd x14 u)<|.aW<|Ez))<|.bT<|BQ h DJ fun h=>AY h fun x16 z h=>AQ<|.a 4<|.ca (akM oL.Levels.Users mG.Levels.Users x16 z)<|.a 1<|AY h fun x17 I h=>.mg 66 5 (BF x17) (G8 I (fun e i=>by subst e;have h:=i;exact AY h fun x19 J h=>.a 4<|.ca (aeG oL.Levels.Kinds mG.Levels.Kinds x19 J)<|.aW<|Ez))<|.a 1<|AY h fun Xd L h=>.mg 73 5 (BF Xd) (G8 L)<|.a 1<|AY h fun PE M h=>.mg 80 5 (BF PE) (G8 M)<|.a 1<|AY h fun x24 O h=>.mg 87 5 (BF x24) (G8 O)<|.a 1<|AY h fun x26 U h=>.mg 94 5 (BF x26) (G8 U)<|.a 1<|AY h fun x28 Y h=>.mg 101 5 (BF x28) (G8 Y)<|.a 1<|AY h fun Zm Z h=>.mg 108 5 (BF Zm) (G8 Z)<|.a 1<|AY h fun x32 hx32 h=>.mg 115 5 (BF x32) (G8 hx32)<|.aW<|DF
def WO (j:ByteArray):Option ByteArray:=(gQ j vY).bind fun q=>some q.2.1
def ZG (PN r) (h:WO PN=some r):BI 30 [D7 PN] [] (D7 r) []:=Aq.aO Tryz.func30 rfl<|Ac<|AY h fun q j h=>AQ<|.a 1<|.ca (aXC PN vY q j)<|.aW<|Ac<|DF
def Zy (j:AB) (q:Bool):Option Int:=(bif q then some 6 else(vW j).bind fun u=>(bif (u != j.Id)then some 11 else(WO j.aU).bind fun z=>(bif (!aF7 j.su (⟨z,j.Id⟩:PW))then some 12 else some 0)))
def uH (j:AB):Option Int:=(St j).bind fun I=>(bif (I != 0)then some I else(Uz j).bind fun q=>(bif (!q)then(tH j.Kind j.Content).bind fun u=>(aEg j.Content u).bind fun z=>Zy j (!z)else Zy j false))
def UW (bH r) (h:uH bH=some r):BI 29 [DY bH] [] (AZ r) []:=Aq.aO Tryz.func29 rfl<|Ac<|Ae<|AY h fun x1 O h=>AQ<|.a 1<|.ca (aLC bH x1 O)<|.aW<|Ac<|BQ h DJ fun h=>Ae<|AV.block<|Dt (fun s=>∃(U:Bool),CW s ⟨BL 40 [(1,.ptr 0 0),(9,BF U)],[.box (BG (Au bH))],0⟩∧Zy bH U=some r) (by rintro s ⟨U,hs,h⟩;exact DR hs<|EH h DJ fun h=>AY h fun x5 Y h=>H9 A8 A8 A8 (.a 1<|.ca (aYd bH x5 Y)<|.a 4<|.nil _)<|EH h DJ fun h=>AY h fun u Z h=>H9 A8 A8 A8 (.a 4<|.ca (ZG bH.aU u Z)<|.a 3<|.p (x:=(BF (!aF7 bH.su (⟨u,bH.Id⟩:PW)))) (aLf [.string bH.su.Server,.int .i64 bH.su.Sum] [.string ((⟨u,bH.Id⟩:PW).Server),.int .i64 ((⟨u,bH.Id⟩:PW).Sum)] (ak1 bH.su (⟨u,bH.Id⟩:PW)) BJ ac4 rfl)<|.a 1<|.nil _)<|RH)<|fun K9=>AY h fun z q h=>Fp h (fun j h=>DK h fun I J L M h=>AV.draw A8 A8 A8 (.a 1<|.ca (aDH bH z q)<|.a 1<|.c (Ap some j)<|.a 6<|.ca (aQu bH.Kind bH.Content I J)<|.ca (adp bH.Content I L M)<|.a 3<|.nil _)<|K9 _ ⟨(!L),Af 40 514 [(0,true)],h⟩) fun j h=>AV.draw A8 A8 A8 (.a 1<|.ca (aDH bH z q)<|.a 1<|.c (Ap some j)<|.a 11<|.nil _)<|K9 _ ⟨false,Af 40 514 [(0,true)],h⟩
def aAw (j:AX) (u:(Int→Option Int)):Int→Option Int:=fun q=>(bif decide (q<(j.length:Int))then(Ag j q).bind fun z=>(Ag j (Ai (q-1))).bind fun I=>(bif decide (z.Id≤I.Id)then some 8 else u (Ai (q+1)))else some 0)
def aEk (j:AX):Int→Option Int:=bI (aAw j) Aj
def Z7 (j:AX) (I:(Int→Option Int)):Int→Option Int:=fun q=>(bif decide (q<(j.length:Int))then(Ag j q).bind fun u=>(Ag j 0).bind fun z=>(bif (!(u.Room.toList==z.Room.toList))then some 13 else I (Ai (q+1)))else aEk j 1)
def mQ (j:AX):Int→Option Int:=bI (Z7 j) Aj
def nK (j:AX) (z:(Int→Option Int)):Int→Option Int:=fun q=>(bif decide (q<(j.length:Int))then(Ag j q).bind fun I=>(uH I).bind fun u=>(bif (u != 0)then some u else z (Ai (q+1)))else mQ j 0)
def aL0 (j:AX):Int→Option Int:=bI (nK j) Aj
def Ll (j:AX):Option Int:=(bif decide ((j.length:Int)>2000)then some 7 else aL0 j 0)
def Vq (aA r) (h:Ll aA=some r):BI 42 [BO aA] [] (AZ r) []:=Aq.aO Tryz.func42 rfl<|Ac<|Ae<|AQ<|.a 1<|.p (BP Au aA CV rfl)<|.aW<|BQ h DJ fun h=>Ae<|AQ<|.a 1<|.p (BP Au aA CV rfl)<|.aW<|AV.block<|Fl (fun Y=>⟨BL 56 [(0,BO aA),(12,BO aA),(13,AZ (aA.length:Int)),(14,AZ Y)],[],0⟩) _ _ _ (Af 56 28673 []) h<|fun J22 k3 L Y h=>Ac<|Ae<|CM h (fun h=>Ae<|AV.block<|AY h fun x5 M h=>AQ<|.p (Bc Au M CV DU rfl)<|.aW<|AY h fun x6 O h=>AQ<|.a 1<|.ca (UW x5 x6 O)<|.aW<|Ac<|BQ h DJ fun h=>BH<|.a 2<|.nil<|L _ _ (Af 56 28673 []) h) fun h=>AV.exit<|Ae<|AQ<|.a 1<|.p (BP Au aA CV rfl)<|.aW<|AV.block<|Fl (fun Z=>⟨BL 56 [(0,BO aA),(24,BO aA),(25,AZ (aA.length:Int)),(26,AZ Z)],[],0⟩) _ _ _ (Af 56 117440513 []) h<|fun J21 k9 U Z h=>Ac<|Ae<|CM h (fun h=>Ae<|AV.block<|AY h fun x11 j h=>AQ<|.p (Bc Au j CV DU rfl)<|.aW<|AY h fun x12 q h=>H9 A8 A8 A8 (.a 3<|.p (Bc Au q CV DU rfl)<|.a 3<|.nil _)<|BQ h DJ fun h=>BH<|.a 2<|.nil<|U _ _ (Af 56 117440513 []) h) fun h=>AV.exit<|Ae<|Ac<|AV.block<|Fl (fun u=>⟨BL 56 [(0,BO aA),(8,AZ u)],[],0⟩) _ _ _ (Af 56 257 []) h<|fun J20 k15 z u h=>Ae<|AQ<|.a 2<|.p (BP Au aA CV rfl)<|.aW<|CM h (fun h=>Ae<|AV.block<|DK h fun x17 I x18 J h=>H9 A8 A8 A8 (.a 2<|.p (Bc Au I CV DU rfl)<|.a 5<|.p (Bc Au J CV DU rfl)<|.a 3<|.nil _)<|BQ h DJ fun h=>BH<|.a 3<|.nil<|z _ _ (Af 56 257 []) h) fun h=>I4
def aXK (j:AX) (z:(Int→(List (Int×Int))→Option (List (Int×Int)))):Int→(List (Int×Int))→Option (List (Int×Int)):=fun q u=>(bif decide (q≥0)then(Ag j q).bind fun I=>z (Ai (q-1)) (Ea u I.Id q)else some u)
def aWn (j:AX):Int→(List (Int×Int))→Option (List (Int×Int)):=aT (aXK j) Aj
def YW (j:AX):Option (List (Int×Int)):=aWn j (Ai ((j.length:Int)-1)) []
def vw (aA r) (h:YW aA=some r):BI 153 [BO aA] [] (.mp 0) [.map (List.map (Bv CY Ad) r)]:=Aq.aO Tryz.func153 rfl<|Ac<|AQ<|.a 1<|.p (BP Au aA CV rfl)<|.f (x:=.mp 0) (afm (kd:=.i64) (n:=(aA.length:Int)) Qd rfl)<|.aW<|Ae<|AQ<|.a 1<|.p (BP Au aA CV rfl)<|.aW<|AV.block<|ET (fun j q=>⟨BL 23 [(0,BO aA),(3,.mp 0),(4,AZ j)],[.map (List.map (Bv CY Ad) q)],0⟩) _ _ _ _ (Af 23 25 [(0,true)]) h<|fun J L u j q h=>Ae<|Ac<|CM h (fun h=>Ae<|AV.block<|AY h fun I z h=>BH<|.a 3<|.p (Bc Au z CV DU rfl)<|.a 3<|.f (mX (k:=0) (key:=I.Id) (val:=j) (m:=q) Ad Qd Io A8 rfl)<|.nil<|BH<|.a 3<|.nil<|u _ _ _ (Af 23 25 [(0,true)]) h) fun h=>QN
def aPY (j:AL) (q:(List (Int×Int))) (k2:(Int→Option Bool)):Int→Option Bool:=fun u=>(bif decide (u<(j.length:Int))then(Ag j u).bind fun z=>(bif (!((CJ q z).isSome))then some false else k2 (Ai (u+1)))else some true)
def aYq (j:AL) (q:(List (Int×Int))):Int→Option Bool:=bI (aPY j q) Aj
def yh (j:AL) (q:(List (Int×Int))):Option Bool:=aYq j q 0
def aT5 (adS afn r) (h:yh adS afn=some r):BI 311 [CO adS,.ptr 0 0] [.box [.mp 1],.map (List.map (Bv CY Ad) afn)] (BF r) [.box [.mp 1],.map (List.map (Bv CY Ad) afn)]:=Aq.aO Tryz.func311 rfl<|Ac<|Ae<|AQ<|.a 1<|.p (BP Ad adS CQ rfl)<|.aW<|AV.block<|Fl (fun z=>⟨BL 23 [(1,.ptr 0 0),(8,CO adS),(9,AZ (adS.length:Int)),(10,AZ z)],[.box [.mp 1],.map (List.map (Bv CY Ad) afn)],2⟩) _ _ _ (Af 23 1794 [(0,true),(1,true)]) h<|fun I k2 j z h=>Ac<|Ae<|CM h (fun h=>Ae<|AV.block<|AY h fun q u h=>AQ<|.p (Bc Ad u CQ Dv rfl)<|.aW<|AQ<|.a 2<|.p (x:=.eF [AZ ((CJ afn q).getD 0),BF ((CJ afn q).isSome)]) (aE2 (k:=1) (key:=q) (m:=afn) Ad 0 Qd Io zero3 A8 A8 A8 rfl)<|.aW<|Ac<|BQ h (fun h=>Ac<|aVz) fun h=>BH<|.a 2<|.nil<|j _ _ (Af 23 1794 [(0,true),(1,true)]) h) fun h=>AV.exit<|Ac<|aVz
def aLj (j:AX) (J:(Int→(List (Int×Int))→Option Bool)):Int→(List (Int×Int))→Option Bool:=fun q u=>(bif decide (q<(j.length:Int))then(Ag j q).bind fun L=>(yh L.aZ u).bind fun M=>(bif (!M)then some true else(Ag j q).bind fun z=>(yh z.bg u).bind fun I=>some (!I)).bind fun O=>(bif O then some false else J (Ai (q+1)) u)else some true)
def aaO (j:AX):Int→(List (Int×Int))→Option Bool:=aT (aLj j) Aj
def aA6 (j:AX):Option Bool:=(YW j).bind fun q=>aaO j 0 q
def acJ (aA r) (h:aA6 aA=some r):BI 217 [BO aA] [] (BF r) []:=Aq.aO Tryz.func217 rfl<|Ac<|AY h fun x1 J h=>AQ<|.a 1<|.f (x:=.mp 0) (Ef [] [BO aA] (vw aA x1 J) rfl)<|.aW<|AQ<|.p (x:=.fn (.func 311) [] [.ptr 1 0]) (PV (fi:=[]) (ca:=[.ptr 1 0]) rfl rfl rfl)<|.aW<|Ae<|AQ<|.a 1<|.p (BP Au aA CV rfl)<|.aW<|AV.block<|ET (fun Y I=>⟨BL 33 [(0,BO aA),(4,.fn (.func 311) [] [.ptr 0 0]),(10,AZ (aA.length:Int)),(11,AZ Y)],[.box [.mp 1],.map (List.map (Bv CY Ad) I)],0⟩) _ _ _ _ (Af 33 3089 [(1,true),(0,true)]) h<|fun J13 k4 L Y I h=>Ac<|Ae<|CM h (fun h=>Ae<|AV.block<|Ac<|DK h fun Z M x7 O h=>AQ<|.a 3<|.p (Bc Au M CV DU rfl)<|.a 2<|.f (x:=(BF x7)) (ZV [.ent 0,.ent 1] [] [.ptr 0 0] [CO Z.aZ] (aT5 Z.aZ I x7 O) rfl (hE:=(P6 A8<|P6 A8<|trivial)))<|.a 1<|AY h fun x8 U h=>.mg 22 9 (BF x8) (.bi U (k2:=fun h=>DK h fun j q u z h=>.a 3<|.p (Bc Au q CV DU rfl)<|.a 2<|.f (x:=(BF u)) (ZV [.ent 0,.ent 1] [] [.ptr 0 0] [CO j.bg] (aT5 j.bg I u z) rfl (hE:=(P6 A8<|P6 A8<|trivial)))<|.aW<|Ez))<|.bT<|BQ h DJ fun h=>BH<|.a 2<|.nil<|L _ _ _ (Af 33 3089 [(0,true),(1,true)]) h) fun h=>I4
def aIe (j:AB) (I:AX) (q:(List (Int×Int))) (J:(Int→Int→Option (Bool×(List (Int×Int))))):Int→Int→Option (Bool×(List (Int×Int))):=fun u z=>(bif decide (z<(j.aZ.length:Int))then(Ag j.aZ z).bind fun L=>(Ag I ((CJ q L).getD 0)).bind fun M=>J (PK u M.Depth) (Ai (z+1))else(bif decide (j.Depth>u)then some ((Ai (j.Depth-u))==1)else some false).bind fun O=>some (O,q))
def aYQ (q:AB) (u:AX) (j:(List (Int×Int))):Int→Int→Option (Bool×(List (Int×Int))):=aT (aIe q u j) Aj
def aOq (j:AB) (u:AX) (q:(List (Int×Int))) (k2:(Int→Option (Bool×(List (Int×Int))))):Int→Option (Bool×(List (Int×Int))):=fun z=>(bif decide (z<(j.bg.length:Int))then(Ag j.bg z).bind fun I=>(Ag u ((CJ q I).getD 0)).bind fun J=>(bif decide (J.Depth≥j.Depth)then some (false,q)else k2 (Ai (z+1)))else(bif ((j.aZ.length:Int)==0)then some ((j.Depth==1),q)else(Ag j.aZ 0).bind fun L=>(Ag u ((CJ q L).getD 0)).bind fun M=>aYQ j u q M.Depth 0))
def aU5 (q:AB) (u:AX) (j:(List (Int×Int))):Int→Option (Bool×(List (Int×Int))):=bI (aOq q u j) Aj
def aFG (q:AX) (j:(List (Int×Int))) (u:AB):Option (Bool×(List (Int×Int))):=aU5 u q j 0
def aiw (aA Uk jK r) (h:aFG aA Uk jK=some r):BI 218 [BO aA,.mp 0,DY jK] [.map (List.map (Bv CY Ad) Uk)] (BF r.1) [.map (List.map (Bv CY Ad) r.2)]:=Aq.aO Tryz.func218 rfl<|Ac<|Ae<|AQ<|.a 2<|.p (BP Ad jK.bg CQ rfl)<|.aW<|AV.block<|Fl (fun v1=>⟨BL 75 [(0,BO aA),(1,.mp 0),(5,.ptr 1 0),(13,CO jK.bg),(14,AZ (jK.bg.length:Int)),(15,AZ v1)],[.map (List.map (Bv CY Ad) Uk),.box (BG (Au jK))],1⟩) _ _ _ (Af 75 57379 [(0,true),(1,true)]) h<|fun J19 k2 M v1 h=>Ac<|Ae<|CM h (fun h=>Ae<|AV.block<|AY h fun x4 O h=>AQ<|.p (Bc Ad O CQ Dv rfl)<|.aW<|AY h fun x5 U h=>H9 A8 A8 A8 (.a 3<|.p (x:=(AZ ((CJ Uk x4).getD 0))) (aP (k:=0) (key:=x4) (m:=Uk) Ad 0 Qd Io zero3 A8 A8 A8 rfl)<|.p (Bc Au U CV DU rfl)<|.a 5<|.nil _)<|BQ h (fun h=>Ac<|Yx) fun h=>BH<|.a 2<|.nil<|M _ _ (Af 75 57379 [(0,true),(1,true)]) h) fun h=>AV.exit<|Ae<|AQ<|.a 2<|.p (BP Ad jK.aZ CQ rfl)<|.aW<|BQ h (fun h=>Ac<|Yx) fun h=>DK h fun x8 Y x9 Z h=>AQ<|.a 4<|.p (Bc Ad Y CQ Dv rfl)<|.a 1<|.p (x:=(AZ ((CJ Uk x8).getD 0))) (aP (k:=0) (key:=x8) (m:=Uk) Ad 0 Qd Io zero3 A8 A8 A8 rfl)<|.p (Bc Au Z CV DU rfl)<|.aW<|Ae<|AQ<|.a 2<|.p (BP Ad jK.aZ CQ rfl)<|.aW<|AV.block<|ET (fun j q=>⟨BL 75 [(0,BO aA),(1,.mp 0),(5,.ptr 1 0),(9,AZ j),(48,CO jK.aZ),(49,AZ (jK.aZ.length:Int)),(50,AZ q)],[.map (List.map (Bv CY Ad) Uk),.box (BG (Au jK))],1⟩) _ _ _ _ (Af 75 1970324836975139 [(0,true),(1,true)]) h<|fun J18 k12 u j q h=>Ac<|Ae<|CM h (fun h=>Ae<|AV.block<|AY h fun z I h=>AQ<|.p (Bc Ad I CQ Dv rfl)<|.aW<|AY h fun x15 J h=>BH<|.a 4<|.p (x:=(AZ ((CJ Uk z).getD 0))) (aP (k:=0) (key:=z) (m:=Uk) Ad 0 Qd Io zero3 A8 A8 A8 rfl)<|.p (Bc Au J CV DU rfl)<|.a 2<|.p (x:=(AZ (PK j x15.Depth))) (aU3 rfl)<|.a 1<|.nil<|BH<|.a 2<|.nil<|u _ _ _ (Af 75 1970324836975139 [(0,true),(1,true)]) h) fun h=>AV.exit<|AQ<|.a 4<|AY h fun x16 L h=>.mg 68 6 (BF x16) (.bi L)<|.aW<|Yx
def aIu (j:AX) (z:(Int→(List (Int×Int))→Option Int)):Int→(List (Int×Int))→Option Int:=fun q I=>(bif decide (q<(j.length:Int))then(Ag j q).bind fun J=>(aFG j I J).bind fun u=>(bif (!u.1)then some 15 else z (Ai (q+1)) u.2)else some 0)
def aXW (j:AX):Int→(List (Int×Int))→Option Int:=aT (aIu j) Aj
def aAk (j:AX):Option Int:=(aA6 j).bind fun q=>(bif (!q)then some 14 else(YW j).bind fun u=>aXW j 0 u)
def aip (aA r) (h:aAk aA=some r):BI 127 [BO aA] [] (AZ r) []:=Aq.aO Tryz.func127 rfl<|Ac<|Ae<|AY h fun U j h=>AQ<|.a 1<|.ca (acJ aA U j)<|.aW<|BQ h DJ fun h=>AY h fun Y q h=>AQ<|.a 1<|.f (x:=.mp 0) (Ef [] [BO aA] (vw aA Y q) rfl)<|.aW<|Ae<|AQ<|.a 1<|.p (BP Au aA CV rfl)<|.aW<|AV.block<|ET (fun L u=>⟨BL 24 [(0,BO aA),(3,.mp 0),(11,AZ (aA.length:Int)),(12,AZ L)],[.map (List.map (Bv CY Ad) u)],0⟩) _ _ _ _ (Af 24 6153 [(0,true)]) h<|fun Z k6 z L u h=>Ac<|Ae<|CM h (fun h=>Ae<|AV.block<|Ac<|DK h fun M I O J h=>AQ<|.a 4<|.p (Bc Au I CV DU rfl)<|.a 1<|.f (x:=(BF O.1)) (Ef [.ent 0] [BO aA,.mp 0,DY M] (aiw aA u M O J) rfl)<|.aW<|BQ h DJ fun h=>BH<|.a 2<|.nil<|z _ _ _ (Af 24 6153 [(0,true)]) h) fun h=>I4
end Go.Proofs.YtkkdimcnpacjhaaGreat
end
