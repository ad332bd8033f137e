/- Part 3 of what the laws' proofs lean on: states of the walk, typed functions of the program and their laws (short forms written by wip/shrink.py; no condition). -/
import Derived.Test.YtkkdimcnpacjhaaGreatRd2
set_option linter.defProp false
set_option linter.unnecessarySimpa false
set_option linter.unusedVariables false
set_option linter.unusedSimpArgs false
section
namespace Go.Proofs.YtkkdimcnpacjhaaGreat
open Go.RowKit
def Ch.freeze {C:ES} {ok:Nat→Prop} {H:List BO} {es:List BA} {w:World} (hm:Ch C ok H es w) {k:Nat} {e:BA} {hd:BO} (hk:es[k]? =some e) (hl:e.live=true) (O:H[k]? =some hd):Ch C (fun b=>ok b∨Cx hd.v=some b) H (es.set k .dead) w:=by
 have z:k<es.length:=(FP.1 hk).1;have L:=fun b q=>hm.blk k _ hd b hk hl O q;have hg:ER ok w (fun b=>ok b∨Cx hd.v=some b) w:=fun b q=>⟨.inl q,rfl⟩
 refine⟨hm.fr,fun b q=>.inl (hm.yR b q),?_,?_,hm.names,dI,?_,?_,?_⟩
 ·rintro b (q|q)
  ·exact hm.yS b q
  exact .inr (L b q).2.2
 ·rintro b (q|q)
  ·exact hm.kP b q
  exact(L b q).2.1
 ·intro j e' h' he I;rcases LH z he with⟨rfl,rfl⟩|⟨_,J⟩
  ·trivial
  exact(hm.ent j e' h' J I).mono hg (.refl _) (fun _ _ _=>rfl)
 ·intro j e' h' b he M I q;rcases LH z he with⟨rfl,rfl⟩|⟨hne,J⟩
  ·cases M
  have h3:=hm.blk j e' h' b J M I q;refine⟨fun u=>?_,h3.2⟩;rcases u with u|u
  ·exact h3.1 u
  exact hne (hm.DU j k e' _ h' hd b J hk M hl I O q u)
 intro i j e1 e2 h1 h2 b he1 he2 U Y hh1 hh2 hb1 hb2;rcases LH z he1 with⟨rfl,rfl⟩|⟨_,Z⟩
 ·cases U
 rcases LH z he2 with⟨rfl,rfl⟩|⟨_,aly⟩
 ·cases Y
 exact hm.DU i j e1 e2 h1 h2 b Z aly U Y hh1 hh2 hb1 hb2
section
variable {P : Program} {o : Oper} {es : List BA}
def afY {t L M:TypeId} {x:Operand} {k:Nat} {m:List (Value×D)} (ht:P.underlying t=some (.map L M)) (O:es[k]? =some (.map m)) (ho:o.op=.range t x):BU P o [(x,.mp k)] es (.ptr es.length 0) (es.set k .dead++[.iter m []]):=
 .eff fun C ok H a w hm hn=>by
  obtain⟨hd,U,u⟩:=GR hm.ent hm.hlen O;obtain⟨b,ms,clock,Y,z,h3⟩:=u;have Z:=UK (hn (x,.mp k) BF) U;simp only at Z;have hb:b<w.heap.size:=(GX.1 z).1;have m0:=hm.freeze O rfl U;have g0:ER ok w (fun c=>ok c∨Cx hd.v=some c) w:=fun c q=>⟨.inl q,rfl⟩
  have I:Cx hd.v=some b:=by rw[Y];rfl
  have g1:ER (fun c=>ok c∨Cx hd.v=some c) w (fun c=>ok c∨Cx hd.v=some c) (w.alloc (.mapIter (some b) clock #[] clock)):=fun c q=>⟨q,Js _ _ _ (m0.kP c q)⟩
  have J:Eo (fun c=>ok c∨Cx hd.v=some c) (w.alloc (.mapIter (some b) clock #[] clock)) (H++[⟨.pointer (some ⟨w.heap.size,0,none⟩),0⟩]) ⟨.pointer (some ⟨w.heap.size,0,none⟩),0⟩ (.iter m []):=
   ⟨w.heap.size,b,ms,clock, #[],rfl,kn _ _,.inr I,(Js _ _ _ hb).trans z,(h3.mono g0).mono g1,rfl,fun j i hj=>by simp at hj⟩
  obtain⟨m1,g2⟩:=m0.push (.mapIter (some b) clock #[] clock) ⟨.pointer (some ⟨w.heap.size,0,none⟩),0⟩ _ (aBS w) J;refine⟨.pointer (some ⟨w.heap.size,0,none⟩),_,_,_,.inl ?_,g0.trans g2,Names.push _ _,m1,.ptr _ _ w.heap.size 0 QC⟩;have hr:=run_range_map (P:=P) w t L M b ms clock ht z;simp[execOp,ho,Z,Y,hr]
def born_inj {ok:Nat→Prop} {w:World} {es:List (Value×D)} {ms:Array MapEntry} {clock:Nat} (h:KE ok w es ms clock) {i j:Nat} {m n:MapEntry} (hi:ms[i]? =some m) (u:ms[j]? =some n) (z:m.born=n.born):i=j:=by
 rcases jH i j with q|q|q
 ·have :=h.inc i j m n q hi u;omega
 ·exact q
 have :=h.inc j i n m q u hi;omega
def am8 {ok:Nat→Prop} {w:World} {es:List (Value×D)} {ms:Array MapEntry} {clock:Nat} (h:KE ok w es ms clock):(ms.toList.map (·.born)).Nodup:=by
 unfold List.Nodup;rw[IW];intro i j hi q u;simp only[CG,Td]at hi q;have z:ms[i]? =some ms[i]:=Tf
 have I:ms[j]? =some ms[j]:=ZM
 simp only[Og,Array.getElem_toList];intro e;have :=born_inj h z I e;omega
def ale {K V:Type} {x:Operand} {n i:Nat} {ek:K→Value} {ev:V→D} {m:List (K×V)} {vis:List Nat} {p:K×V} (hp:m[i]? =some p) (he:es[n]? =some (.iter (m.map (Bl ek ev)) (vis++[i]))) (ho:o.op=.entry x):
 BU P o [(x,.ptr n 0)] es (.eu [.d (.lit (ek p.1)),.d (ev p.2)]) es:=
 .pure fun ok H a w u hl hn=>by
  obtain⟨hd,hh,I⟩:=GR u hl he;obtain⟨bi,M,ms,clock,seen,O,h2,h3,h4,U,h6,h7⟩:=I;have J:=hn (x,.ptr n 0) BF;simp only at J;generalize hv:a.eval x=v at J;cases J with
  |ptr _ _ b' s Y=>
   rw[hh]at Y;obtain rfl:=CV Y;simp only[Value.pointer.injEq,LQ,Addr.mk.injEq]at O;obtain⟨rfl,_⟩:=O;obtain⟨e,Z,q2⟩:=h7 vis.length i BF;have L:(m.map (Bl ek ev))[i]? =some (Bl ek ev p):=by rw[JG,hp];rfl
   obtain⟨r1,r2,_⟩:=U.ent i _ e L Z;refine⟨.tuple #[e.key,e.val],?_,.eu _ _ rfl fun j hj=>?_⟩
   ·have q:seen.back?=some e.born:=by
     rw[Array.back?_eq_getElem?,h6];simpa using q2
    have z:e∈ms.toList:=by
     rw[Array.mem_toList_iff];exact Array.mem_of_getElem? Z
    have hf:ms.find? (·.born==e.born)=some e:=by rw[←Array.find?_toList];exact find_born e ms.toList (am8 U) z
    have g1:(getObj b').run P w=.ok (.mapIter (some M) clock seen clock) w:=by simp[getObj,Sem.run,h2]
    have g2:(getObj M).run P w=.ok (.map ms clock) w:=RI h4;simp[execOp,ho,hv,Instr.entry,g1,g2,q,hf]
   match j,hj with
   |0,_=>rw[show([AV.d (.lit (ek p.1)),.d (ev p.2)]:List AV).getD 0 .junk=.d (.lit (ek p.1))from rfl,show(#[e.key,e.val]:Array Value).getD 0 undef=e.key from rfl,r1];exact .d _ _ (.lit _)
   |1,_=>exact .d _ _ r2
end
def aes {P:Program} {w:World} {ok:Nat→Prop} {ty:TypeId} {bi Y clock:Nat} {seen:Array Nat} {ms:Array MapEntry} {es:List (Value×D)} (hi:w.heap[bi]? =some (.mapIter (some Y) clock seen clock)) (hb:w.heap[Y]? =some (.map ms clock)) (hM:KE ok w es ms clock):
 ((leftOf ms seen).size=0∧(Instr.next (.pointer (some ⟨bi,0,none⟩)) false ty).run P w=.ok (.tuple #[.bool false]) w)∨
 ∃e∈(leftOf ms seen).toList,∃q:World,(q=w∨q=w.drew)∧(Instr.next (.pointer (some ⟨bi,0,none⟩)) false ty).run P w=.ok (.tuple #[.bool true,e.key,e.val]) (q.putObj bi (.mapIter (some Y) clock (seen.push e.born) clock)):=by
 have z:∀x∈ms.toList,x.born<clock:=fun x I=>by
  obtain⟨i,hi,rfl⟩:=Fv I;have J:i<ms.size:=G9
  have Z:i<es.length:=by rw[←hM.len];exact J
  have :=(hM.ent i es[i] ms[i] (by simp[Z]) (by simp[J])).2.2;simpa using this
 simp only[Instr.next,getObj,FT,Sem.run,hi,hb,Result.andThen,next_test_false seen ms clock clock z (Dq _),Qm,Jh];unfold leftOf;have u:∀x∈(Array.filter (fun e=> !seen.contains e.born) ms).toList,x.born<clock:=fun x I=>z x (by simp at I ⊢;exact I.1);generalize Array.filter (fun e=> !seen.contains e.born) ms=L at u ⊢;have e1:L.filter (fun x=>decide (x.born<clock))=L:=Array.filter_eq_self.2 (fun x I=>by simpa using u x SV)
 have e2:L.filter (fun x=>decide (x.born≥clock))= #[]:=by
  rw[Array.filter_eq_empty_iff];intro x I;have :=u x SV;simp;omega
 simp only[e1,e2,Array.append_empty];by_cases h0:L.size=0
 ·left;have :L= #[]:=WX h0;subst this;refine⟨rfl,?_⟩;simp[choose,Sem.run,Question.forced]
 right;have hne:L.isEmpty=false:=by simp[Array.isEmpty,h0]
 simp only[hne,Qm,Jh,Array.empty_append,Array.size_map]
 have hch:∃(j:Nat) (q:World),j<L.size∧(q=w∨q=w.drew)∧(choose (Question.mapNext L.size)).run P w=.ok j q:=by
  by_cases hf:L.size≤1
  ·exact⟨0,w,AA,.inl rfl,by simp[choose,Sem.run,Question.forced,hf]⟩
  exact⟨_,w.drew,jv _ AA,.inr rfl,by
   simp only[choose,Sem.run,Question.forced,Gg,hf,Jh,Question.cut]
   rfl⟩
 obtain⟨j,q,hj,M,O⟩:=hch;refine⟨L[j],BF,q,M,?_⟩;have hi1:q.heap[bi]? =some (.mapIter (some Y) clock seen clock):=by rcases M with rfl|rfl<;>exact hi
 have U:∀(o':Obj),(setObj bi o').run P q=.ok () (q.putObj bi o'):=fun o'=>by simp[setObj,Sem.run,hi1,World.putObj]
 simp only[O,Array.getElem?_map,xW hj,Ii,FT,U,Result.andThen];rfl
section
variable {P : Program} {ops : Array Oper} {o : Oper} {rest l : List Oper} {σ : Am} {Q : Exit → Am → Prop} {K V : Type}
def agt {ms:Array MapEntry} {seen:Array Nat} {e:MapEntry} (h:e∈(leftOf ms seen).toList):e∈ms.toList∧e.born∉seen:=by
 unfold leftOf at h;simp at h;exact⟨by simpa using h.1,h.2⟩
def Ci.next {ek:K→Value} {ev:V→D} {x:Operand} {ty:Bool} (n:Nat) (m:List (K×V)) (vis:List Nat) (hn:σ.ents[n]? =some (.iter (m.map (Bl ek ev)) vis)) (ho:o.op=.next x false) (hx:σ.get x=.ptr n 0) (hg:Ja ops σ o.guard=some true)
 (h0:(∀i,i<m.length→i∈vis)→Ci P ops rest (σ.rZ o.dst (.eu [.d (Dx false)])) Q)
 (h1:∀i p,m[i]? =some p→i∉vis→Ci P ops rest (σ.put o.dst (.eu [.d (Dx true),.d (.lit (ek p.1)),.d (ev p.2)]) (σ.ents.set n (.iter (m.map (Bl ek ev)) (vis++[i])))) Q):Ci P ops (o::rest) σ Q:=by
 refine⟨fun ro l2 Q' C ok H a w z hk=>?_⟩;show wpListIn (J3 ro) 0 P ops Q' (o::(rest++l2)) a w;unfold wpListIn;rw[CS (Pe z (MO hg))];have hv:=hx▸z.get x;obtain⟨hd,Z,hent⟩:=GR z.mem.ent z.mem.hlen hn;obtain⟨bi,L,ms,clock,seen,q1,q2,q3,q4,q5,q6,q7⟩:=hent
 have J:a.eval x=.pointer (some ⟨bi,0,none⟩):=by
  generalize a.eval x=v at hv;cases hv with
  |ptr _ _ b' s hH=>
   rw[Z]at hH;obtain rfl:=CV hH;simp only[Value.pointer.injEq,LQ,Addr.mk.injEq]at q1;obtain⟨rfl,_⟩:=q1;rfl
 have hlen:ms.size=m.length:=by rw[q5.len,CG]
 unfold Oper.wpIn;rw[eM _ _ _ (by rw[ho];intro c h;cases h)];rcases aes (P:=P) (ty:=o.type) q2 q4 q5 with⟨hs,hr⟩|⟨e,M,w1,hw1,hr⟩
 ·have he:(execOp a.eval o).run P w=.ok (.value (.tuple #[.bool false])) w:=by simp[execOp,ho,J,hr]
  rw[he];refine⟨fun _ _=>trivial,?_⟩
  refine(h0 fun i hi=>?_).run ro l2 Q' C ok H _ w (z.put o.dst (.refl _ _) (.refl _) z.mem (.eu _ _ rfl fun j q=>by
   match j,q with
   |0,_=>exact .d _ _ (.lit _))) hk
  have O:i<ms.size:=AA
  have hnot:ms[i]∉(leftOf ms seen).toList:=by
   have :leftOf ms seen= #[]:=WX hs;rw[this];simp
  have hin:ms[i].born∈seen:=by
   apply Xa;intro hc;refine hnot ?_;unfold leftOf;simp[hc]
  obtain⟨j,q,U⟩:=Array.getElem_of_mem hin;have hjv:j<vis.length:=AA
  obtain⟨e,r1,r2⟩:=q7 j vis[j] (by simp[hjv])
  have hb:e.born=ms[i].born:=by
   have e3:seen[j]? =some seen[j]:=ZM
   rw[e3,U]at r2;exact(CV r2).symm
  have :=born_inj q5 r1 (show ms[i]? =some ms[i] by simp[O]) hb;rw[←this];simp
 have he:(execOp a.eval o).run P w=.ok (.value (.tuple #[.bool true,e.key,e.val])) (w1.putObj bi (.mapIter (some L) clock (seen.push e.born) clock)):=by simp[execOp,ho,J,hr]
 rw[he];refine⟨fun _ _=>trivial,?_⟩;obtain⟨aGq,hes⟩:=agt M;obtain⟨i,hi,hie⟩:=Fv aGq;have O:i<ms.size:=G9
 have Y:ms[i]? =some e:=by rw[←hie];simp[O]
 have him:i<m.length:=AA
 have hpe:(m.map (Bl ek ev))[i]? =some (Bl ek ev m[i]):=by simp[him]
 obtain⟨r1,r2,_⟩:=q5.ent i _ e hpe Y
 have aGr:i∉vis:=fun hc=>by
  obtain⟨j,q,U⟩:=Fv hc;obtain⟨e2,s1,s2⟩:=q7 j i (by simp[←U,q]);rw[Y]at s1;obtain rfl:=CV s1;exact hes (Array.mem_of_getElem? s2)
 have I:Ch C ok H σ.ents w1∧ER ok w ok w1:=by
  rcases hw1 with rfl|rfl
  ·exact⟨z.mem,.refl _ _⟩
  exact z.mem.drew
 have hi1:w1.heap[bi]? =some (.mapIter (some L) clock seen clock):=by rcases hw1 with rfl|rfl<;>exact q2
 have u:w1.heap[L]? =some (.map ms clock):=(I.2 L q3).2.trans q4;have hne:L≠bi:=fun e=>by rw[e,hi1]at u;cases u
 obtain⟨m2,g2⟩:=I.1.ajG (o:=.mapIter (some L) clock (seen.push e.born) clock) (e':=.iter (m.map (Bl ek ev)) (vis++[i])) hn rfl Z (by rw[q1];rfl)
  (fun g=>⟨bi,L,ms,clock,seen.push e.born,q1,X5 (GX.1 hi1).1,q3,(Xk hne).trans u,(q5.mono I.2).mono g,by simp[q6],fun j i' q=>by
   by_cases hjl:j<vis.length
   ·rw[Gq hjl]at q;obtain⟨e2,s1,s2⟩:=q7 j i' q;exact⟨e2,s1,by rw[Array.getElem?_push_lt AA];simpa[xW (show j<seen.size by omega)]using s2⟩
   have hj2:j=vis.length:=by
    have :=(FP.1 q).1;simp at this;omega
   subst hj2;simp at q;subst q
   exact⟨e,Y,by rw[←q6];simp⟩⟩)
 have g3:=I.2.trans g2
 have hp:=(h1 i m[i] (by simp[him]) aGr).run ro l2 Q' C ok H (a.put o.dst (.tuple #[.bool true,e.key,e.val])) _ (z.put o.dst (x:=.eu [.d (Dx true),.d (.lit (ek m[i].1)),.d (ev m[i].2)]) g3 (.refl _) m2 (.eu _ _ rfl fun j q=>by
  match j,q with
  |0,_=>exact .d _ _ (.lit _)
  |1,_=>
   show R ok _ H (.d (.lit (ek m[i].1))) e.key;rw[r1];exact .d _ _ (.lit _)
  |2,_=>exact .d _ _ (r2.mono g3))) hk
 exact hp
def AQ.aCH {A Rr:Type} {cd:Code} (S:List Nat→A→Am) (m:List (K×V)) (step:A→K×V→Option A) (Kf:A→Option Rr) (r:Rr) (a0:A) (hs:CX σ (S [] a0))
 (L:∀vis:List Nat,vis.Nodup→(∀i,i∈vis↔i<m.length)→((vis.filterMap fun(i:Nat)=>m[i]?).foldlM step a0).bind Kf=some r)
 (round:∀(J:Am→Prop) (vis:List Nat) (a:A),((∀i,i<m.length→i∈vis)→Kf a=some r)→(∀i p,m[i]? =some p→i∉vis→∃a',step a p=some a'∧∀s,CX s (S (vis++[i]) a')→J s)→AQ P cd (S vis a) (KZ J Q)):AQ P (.loop cd) σ Q:=by
 have U:∀vis:List Nat,vis.Nodup→(∀i∈vis,i<m.length)→∃rest,(vis++rest).Nodup∧(∀i,i∈vis++rest↔i<m.length):=fun vis q u=>by
  refine⟨(List.range m.length).filter fun i=> !vis.contains i,?_,fun i=>?_⟩
  ·refine s0.2 ⟨q,List.Pairwise.filter _ List.nodup_range,fun a ha b Y e=>?_⟩;subst e;rw[FU]at Y;simp[ha]at Y
  rw[Hd,FU];constructor
  ·rintro(h|h)
   ·exact u i h
   simpa using h.1
  intro h;by_cases hc:i∈vis
  ·exact .inl hc
  exact .inr ⟨JZ,by simp[hc]⟩
 refine AQ.loop (fun n s=>∃vis a,n=m.length-vis.length∧vis.Nodup∧(∀i∈vis,i<m.length)∧(vis.filterMap fun(i:Nat)=>m[i]?).foldlM step a0=some a∧CX s (S vis a)) (m.length) ⟨[],a0,BF,aP,fun i h=>IK,rfl,hs⟩ ?_;rintro n s ⟨vis,a,rfl,q,u,hf,M⟩;refine DI M (round _ vis a (fun hc=>?_) (fun i p hp hi=>?_))
 ·have :=L vis q (fun i=>⟨u i,hc i⟩);rw[hf]at this;exact this
 have him:i<m.length:=(FP.1 hp).1;have z:(vis++[i]).Nodup:=s0.2 ⟨q,BF,fun a ha b Y e=>by simp at Y;subst Y;subst e;exact hi ha⟩
 have I:∀j∈vis++[i],j<m.length:=fun j Z=>by
  rcases Hd.1 Z with h|h
  ·exact u j h
  simp at h;subst h;exact him
 obtain⟨rest,h1,h2⟩:=U (vis++[i]) z I;have h3:=L _ h1 h2;rw[dN,dN]at h3;simp only[MP,aG7,hp,List.foldlM_append,V3,List.foldlM_nil,hf,bind,pure,AO]at h3;cases hst:step a p with
 |none=>rw[hst]at h3;simp at h3
 |some a'=>
  refine⟨a',rfl,fun s hs=>⟨m.length-(vis++[i]).length,?_,vis++[i],a',rfl,z,I,?_,hs⟩⟩
  ·have :vis.length<m.length:=by
    have M:vis.length≤(List.range m.length).length:=by
     refine abQ q ?_;intro j Z;simpa using u j Z
    have O:(vis++[i]).length≤(List.range m.length).length:=by
     refine abQ z ?_;intro j Z;simpa using I j Z
    simp at O;omega
   simp;omega
  rw[dN,List.foldlM_append,hf];simp[hp,hst]
end
def apS {α:Type}:∀(m:List α) (vis:List Nat),vis.Nodup→(∀i,i∈vis↔i<m.length)→(vis.filterMap fun(i:Nat)=>m[i]?).Perm m:=fun m vis j q=>by
 have u:vis.Perm (List.range m.length):=by
  rw[List.perm_iff_count];intro a;rw[j.count,List.nodup_range.count];simp[q a]
 have z:((List.range m.length).filterMap fun(i:Nat)=>m[i]?)=m:=by
  apply aX;intro i
  have :∀(n:Nat),n≤m.length→((List.range n).filterMap fun(i:Nat)=>m[i]?)=m.take n:=by
   intro n
   induction n with
   |zero=>intro _;simp
   |succ n I=>
    intro L;rw[List.range_succ,dN,I AA];have hl:n<m.length:=AA
    simp[hl]
  rw[this m.length (Dq _),FV]
 have J:=u.filterMap (fun(i:Nat)=>m[i]?)
 rwa [z]at J
def aI0 {α β:Type} {c:α→Bool} {f:α→β} {b:Nat}:∀(l:List α) (v:List β),
 l.foldlM (fun v p=>bif c p then(C9 b v [f p]).bind fun x=>some x else some v) v=if(v.length+(l.filter c).length)*b≤140737488355328∨l.filter c=[]then some (v++(l.filter c).map f)else none
 | [],v=>BF
 |p::l,v=>by
  rw[V3];cases u:c p with
  |false=>
   have q:=aI0 (c:=c) (f:=f) (b:=b) l v;simp only[Aj,bind,AO,q,Ri,u,Qm,Jh]
  |true=>
   simp only[Az,Ri,u,Jg];have I:C9 b v [f p]=if(v.length+[f p].length)*b≤140737488355328 then some (v++[f p])else none:=rfl
   rw[I];by_cases j:(v.length+[f p].length)*b≤140737488355328
   ·rw[CS j];have q:=aI0 (c:=c) (f:=f) (b:=b) l (v++[f p]);simp only[AO,bind,q];have z:(v++[f p]).length+(l.filter c).length=v.length+(p::l.filter c).length:=Dh
    rw[z];by_cases hl:l.filter c=[]
    ·rw[hl]at z ⊢;simp only[G7,LY]at j ⊢;simp[j]
    simp[hl]
   rw[CY j];simp only[Option.bind_none,bind];rw[CY];rintro(h|h)
   ·refine j (Ed (Jl _ ?_) h);simp
   cases h
def al8 {α β Rr:Type} {c:α→Bool} {f:α→β} {b:Nat} {u q:List α} {v:List β} {Kf:List β→Option Rr} {r:Rr} (hp:u.Perm q) (I:∀x y,x.Perm y→Kf x=Kf y)
 (h:(q.foldlM (fun v p=>bif c p then(C9 b v [f p]).bind fun x=>some x else some v) v).bind Kf=some r):
 (u.foldlM (fun v p=>bif c p then(C9 b v [f p]).bind fun x=>some x else some v) v).bind Kf=some r:=by
 rw[aI0]at h ⊢;have j:=hp.filter c
 have e:((v.length+(u.filter c).length)*b≤140737488355328∨u.filter c=[])↔((v.length+(q.filter c).length)*b≤140737488355328∨q.filter c=[]):=by
  rw[j.length_eq];constructor
  ·rintro(h|h)
   ·exact .inl h
   exact .inr (by rw[h]at j;exact j.symm.eq_nil)
  rintro(h|h)
  ·exact .inl h
  exact .inr (by rw[h]at j;exact j.eq_nil)
 by_cases z:((v.length+(q.filter c).length)*b≤140737488355328∨q.filter c=[])
 ·rw[CS z]at h;rw[CS (e.2 z)];simp only[AO]at h ⊢;rw[←h];exact I _ _ ((j.map f).append_left v)
 rw[CY z]at h;cases h
section
variable {K V : Type} [BEq K]
def Fj :List (K×V)→K→Nat
 | [],_=>0
 |p::m,k=>bif k==p.1 then 0 else Fj m k+1
def aX5 {ek:K→Value} {kd:TypeDesc} (hs:∀a b,Instr.sameNow kd (ek a) (ek b)=some (a==b)) (k:K) (v:V):∀(m:List (K×V)) (l:List MapEntry) (i:Nat),l.map (·.key)=m.map (fun p=>ek p.1)→
 (Instr.findNow kd (ek k) l i=some none∧CB m k=none∧Ec m k v=m++[(k,v)]∧Fj m k=m.length)∨
 ∃e p,Instr.findNow kd (ek k) l i=some (some (i+Fj m k,e.val))∧l[Fj m k]? =some e∧m[Fj m k]? =some p∧CB m k=some p.2∧(k==p.1)=true∧Ec m k v=m.set (Fj m k) (k,v)
 | [],[],_,_=>.inl ⟨rfl,rfl,rfl,rfl⟩
 | [],_::_,_,h=>IK
 |_::_,[],_,h=>IK
 |p::m,e::l,i,h=>by
  simp only[Ip,aLL]at h;cases j:(k==p.1)with
  |true=>
   refine .inr ⟨e,p,?_,?_,?_,?_,j,?_⟩
   ·simp[Instr.findNow,h.1,hs,j,Fj]
   ·simp[Fj,j]
   ·simp[Fj,j]
   ·simp[CB,j]
   simp[Ec,Fj,j]
  |false=>
   rcases aX5 hs k v m l (i+1) h.2 with⟨q,u,z,I⟩|⟨e',J,q,u,z,I,L,M⟩
   ·refine .inl ⟨?_,?_,?_,?_⟩
    ·simp[Instr.findNow,h.1,hs,j,q]
    ·simp[CB,j,u]
    ·simp[Ec,j,z]
    simp[Fj,j,I]
   refine .inr ⟨e',J,?_,by simpa[Fj,j]using u,by simpa[Fj,j]using z,?_,L,?_⟩
   ·simp[Instr.findNow,h.1,hs,j,q,Fj];omega
   ·simp[CB,j,I]
   simp[Ec,j,M,Fj]
def aWb (k:K) (v:V):∀m:List (K×V),(Ec m k v)[Fj m k]? =some (k,v)
 | []=>rfl
 |p::m=>by
  cases j:(k==p.1)with
  |true=>simp[Ec,Fj,j]
  |false=>simp[Ec,Fj,j,aWb k v m]
def aVb (k:K) (v u:V):∀m:List (K×V),(Ec m k v).set (Fj m k) (k,u)=Ec m k u
 | []=>rfl
 |p::m=>by
  cases j:(k==p.1)with
  |true=>simp[Ec,Fj,j]
  |false=>simp[Ec,Fj,j,aVb k v u m]
end
section
variable {ok : Nat → Prop} {w : World} {es : List (Value × D)} {ms : Array MapEntry} {clock : Nat}
def SP.nil:SP #[] 0:=⟨rfl,fun i e h=>IK⟩
def SP.push (h:SP ms clock) {k v:Value}:SP (ms.push { key:=k,val:=v,born:=clock }) (clock+1):=by
 refine⟨by simp[h.1],fun i e j=>?_⟩;rw[aLX]at j;split at j
 ·rename_i q;obtain rfl:=CV j;rw[q];exact h.1
 exact h.2 i e j
def SP.modify (h:SP ms clock) (j:Nat) (f:MapEntry→MapEntry) (u:∀e,(f e).born=e.born):SP (ms.modify j f) clock:=by
 refine⟨by simp[h.1],fun i e q=>?_⟩;rw[Nh]at q;split at q
 ·rw[Rw]at q;obtain⟨z,I,rfl⟩:=q;rw[u];exact h.2 i z I
 exact h.2 i e q
def SP.find (h:SP ms clock) {n:Nat} (q:n<ms.size):ms.findIdx? (fun e=>(e.born:Int)==(n:Int))=some n:=by
 rw[Array.findIdx?_eq_some_iff_getElem];refine⟨q,?_,fun j u=>?_⟩
 ·have :=h.2 n ms[n] ZM;simp[this]
 have :=h.2 j ms[j] (by simp[Nat.lt_trans u q]);simp[this];omega
def ajk (ms:Array MapEntry) (j:Nat) (k v:Value) (q:∀e,ms[j]? =some e→e.key=k):(ms.modify j fun e=>{ e with val:=v })=ms.modify j fun e=>{ e with key:=k,val:=v }:=by
 apply sO;intro i;rw[Nh,Nh];split
 ·rename_i e;subst e;cases hm:ms[j]? with
  |none=>rfl
  |some e=>simp[q e hm]
 rfl
def ai8 (ms:Array MapEntry) (j:Nat) (k v:Value) (q:∀e,ms[j]? =some e→e.val=v):(ms.modify j fun e=>{ e with key:=k })=ms.modify j fun e=>{ e with key:=k,val:=v }:=by
 apply sO;intro i;rw[Nh,Nh];split
 ·rename_i e;subst e;cases hm:ms[j]? with
  |none=>rfl
  |some e=>simp[q e hm]
 rfl
end
section
variable {P : Program} {o : Oper} {es : List BA} {K V : Type} [BEq K]
def aoK {t:TypeId} {j:Array (Nat×Operand)} {q:List (Nat×Nat)} {z:Value} {cs:List AV} (u:JE P t q z) (vs:List AV) (I:Jz (fun(i:Nat)=>q[i]?) (Fb z) j.toList vs=cs) (hp:NI (fun(i:Nat)=>q[i]?) (Fb z).length j.toList vs=true) (J:o.op=.build t j):
 BU P o (NS j.toList vs) es (.ag cs) es:=I▸ahn u vs hp J
def QE (x y:Int):Int:=bif decide (y>x)then y else x
def aQ1 {x y:Operand} {ats:Array TypeId} {kd:IntKind} {a b:Int} (z:o.op=.call { callee:=.builtin .max,args:= #[x,y],argTypes:=ats }):
 BU P o [(x,.d (.lit (.int kd a))),(y,.d (.lit (.int kd b)))] es (.d (.lit (.int kd (QE a b)))) es:=
 .pure fun ok H c w _ _ j=>by
  have q:=(Ef j).1.lit;have u:=(Ef j).2.lit;simp only at q u;have e:QE a b=if b>a then b else a:=by unfold QE;by_cases h:b>a<;>simp[h]
  refine⟨.int kd (QE a b),?_,.d _ _ (.lit _)⟩;rw[e];simp[execOp,z,resolve,invoke,builtin,q,u,Go.run_max_int2]
def aHk {t:TypeId} (u:o.op=.makeMap t none):BU P o [] es (.mp es.length) (es++[.fO []]):=
 .eff fun C ok H a w hm M=>by
  have q:Eo ok (w.alloc (.map #[] 0)) (H++[⟨.map (some w.heap.size),0⟩]) ⟨.map (some w.heap.size),0⟩ (.fO []):=
   ⟨w.heap.size, #[],0,rfl,(aNc w _).1,⟨rfl,fun i e m z=>xY,fun i j m n _ hm=>by simp at hm⟩,.nil⟩
  obtain⟨I,J⟩:=hm.push (.map #[] 0) ⟨.map (some w.heap.size),0⟩ _ (fun b q=>aPt) q;refine⟨.map (some w.heap.size),_,ok,_,.inl ?_,J,Names.push _ _,I,.mp _ _ 0 rfl QC⟩;have L:(newObj (.map #[] 0)).run P w=.ok w.heap.size (w.alloc (.map #[] 0)):=rfl;simp[execOp,u,Instr.makeMap,L]
def qm {t J L:TypeId} {x y:Operand} {k:Nat} {ek:K→Value} (ev:V→D) (M:V) {z:Value} {m:List (K×V)} {key:K} (ht:P.underlying t=some (.map J L)) (Z:KeyTy P J ek) (hz:(P.info? L).bind (·.zero)=some z) (q:XP z=ev M) (u:z.cells.all (·.oneCell')=true)
 (he:es[k]? =some (.fO (m.map (Bl ek ev)))) (ho:o.op=.lookup t x y false):BU P o [(x,.mp k),(y,.d (.lit (ek key)))] es (.d (ev ((CB m key).getD M))) es:=
 .pure fun ok H a w j hl O=>by
  obtain⟨hd,hh,I⟩:=GR j hl he;obtain⟨b,ms,clock,h1,h2,h3,_⟩:=I;have U:=UK (Ef O).1 hh;have Y:=(Ef O).2.lit;simp only at U Y;obtain⟨v,hr,hv⟩:=zG (key:=key) ev ht Z hz q u h2 h3 false;refine⟨v,?_,.d _ _ hv⟩;simp[execOp,ho,U,Y,h1,hr]
def aga {t J L:TypeId} {x y:Operand} {k:Nat} {ek:K→Value} (ev:V→D) (M:V) {z:Value} {m:List (K×V)} {key:K} (ht:P.underlying t=some (.map J L)) (Z:KeyTy P J ek) (hz:(P.info? L).bind (·.zero)=some z) (q:XP z=ev M) (u:z.cells.all (·.oneCell')=true)
 (he:es[k]? =some (.fO (m.map (Bl ek ev)))) (ho:o.op=.lookup t x y true):BU P o [(x,.mp k),(y,.d (.lit (ek key)))] es (.eu [.d (ev ((CB m key).getD M)),.d (Dx (CB m key).isSome)]) es:=
 .pure fun ok H a w j hl O=>by
  obtain⟨hd,hh,I⟩:=GR j hl he;obtain⟨b,ms,clock,h1,h2,h3,_⟩:=I;have U:=UK (Ef O).1 hh;have Y:=(Ef O).2.lit;simp only at U Y;obtain⟨v,hr,hv⟩:=zG (key:=key) ev ht Z hz q u h2 h3 true;refine⟨.tuple #[v,.bool (CB m key).isSome],?_,.eu _ _ rfl fun i hi=>?_⟩
  ·simp[execOp,ho,U,Y,h1,hr]
  match i,hi with
  |0,_=>exact .d _ _ hv
  |1,_=>exact .d _ _ (.lit _)
def xR {C:ES} {ok:Nat→Prop} {H:List BO} {w:World} (hm:Ch C ok H es w) {k:Nat} {es0 u:List (Value×D)} {b clock j:Nat} {ms q:Array MapEntry} {hd:BO} (J:es[k]? =some (.fO es0)) (L:H[k]? =some hd) (z:hd.v=.map (some b)) (I:w.heap[b]? =some (.map ms clock))
 (M:KE ok w u q j) (O:SP q j):(setObj b (.map q j)).run P w=.ok () (w.putObj b (.map q j))∧Ch C ok H (es.set k (.fO u)) (w.putObj b (.map q j))∧ER ok w ok (w.putObj b (.map q j)):=by
 refine⟨by simp[setObj,Sem.run,I,World.putObj],hm.ajG J rfl L uh fun U=>⟨b,q,j,z,X5 (GX.1 I).1,M.mono U,O⟩⟩
def akt {t kt vt:TypeId} {x y u:Operand} {k:Nat} {ek:K→Value} (ev:V→D) {m:List (K×V)} {key:K} {val:V} (ht:P.underlying t=some (.map kt vt)) (J:KeyTy P kt ek) (U:es[k]? =some (.fO (m.map (Bl ek ev)))) (ho:o.op=.mapUpdate t x y u):
 BU P o [(x,.mp k),(y,.d (.lit (ek key))),(u,.d (ev val))] es .junk (es.set k (.fO ((Ec m key val).map (Bl ek ev)))):=
 .eff fun C ok H a w hm Y=>by
  obtain⟨hd,Z,hok⟩:=GR hm.ent hm.hlen U;obtain⟨b,ms,clock,L,M,O,h4⟩:=hok;have hx:=UK (Y (x,.mp k) BF) Z;have hy:=(Y (y,.d (.lit (ek key))) BF).lit;have hu:Dc ok w (ev val) (a.eval u):=by have :=Y (u,.d (ev val)) BF;cases this with |d _ _ h=>exact h
  simp only at hx hy;obtain⟨kd,q,hs⟩:=J.same;have hks:ms.toList.map (·.key)=m.map (fun p=>ek p.1):=by rw[O.keys];simp[Bl,xg]
  have z:=J.check;rcases aB6 (i:=0) hs key val m ms.toList hks with⟨q1,_,q3⟩|⟨j,e,p,q1,q2,q3,_,q5,q6⟩
  ·have hM:=O.push (k:=ek key) hu;obtain⟨r1,r2,r3⟩:=xR (P:=P) hm U Z L M hM h4.push;refine⟨undef,_,ok,H,.inr ⟨rfl,?_⟩,r3,.refl _,?_,.junk _⟩
   ·simp[execOp,ho,hx,hy,L,Instr.mapUpdate,underlying,ht,RI M,z,Instr.findKey,q,q1,r1]
   rw[q3,KL];exact r2
  have hM:=O.modify (k:=ek key) hu j;obtain⟨r1,r2,r3⟩:=xR (P:=P) hm U Z L M hM (h4.modify j _ fun _=>rfl)
  have I:e.key=ek key:=by
   have h5:(m.map (Bl ek ev))[j]? =some (Bl ek ev p):=by rw[JG,q3];rfl
   rw[(O.ent j _ e h5 qY).1,J.eq _ _ q5];rfl
  have hst:∀w,(Instr.keyThatStays (ek key) (ek key)).run P w=.ok (ek key) w:=fun w=>by simp[Instr.keyThatStays,J.bits]
  have hms:ms[j]? =some e:=qY
  refine⟨undef,_,ok,H,.inr ⟨rfl,?_⟩,r3,.refl _,?_,.junk _⟩
  ·simp[execOp,ho,hx,hy,L,Instr.mapUpdate,underlying,ht,RI M,z,Instr.findKey,q,q1,hms,I,hst,r1]
  rw[q6,yj];exact r2
def aNV {t kt vt:TypeId} {x y:Operand} {k:Nat} {ek:K→Value} (ev:V→D) (J:V) {z:Value} {m:List (K×V)} {key:K} (ht:P.underlying t=some (.map kt vt)) (hk:KeyTy P kt ek) (hz:(P.info? vt).bind (·.zero)=some z) (hzv:XP z=ev J) (hzl:z.cells.all (·.oneCell')=true)
 (he:es[k]? =some (.fO (m.map (Bl ek ev)))) (ho:o.op=.mapEntry t x y):
 BU P o [(x,.mp k),(y,.d (.lit (ek key)))] es (.eu [.d (ev ((CB m key).getD J)),.d (Ac (Fj m key:Nat))]) (es.set k (.fO ((Ec m key ((CB m key).getD J)).map (Bl ek ev)))):=
 .eff fun C ok H a w hm hn=>by
  obtain⟨hd,hh,hok⟩:=GR hm.ent hm.hlen he;obtain⟨b,ms,clock,h1,h2,L,h4⟩:=hok;have hx:=UK (Ef hn).1 hh;have hy:=(Ef hn).2.lit;simp only at hx hy;obtain⟨kd,M,hs⟩:=hk.same;have hks:ms.toList.map (·.key)=m.map (fun p=>ek p.1):=by rw[L.keys];simp[Bl,xg]
  have O:=hk.check;have hml:ms.size=m.length:=by have :=L.len;simpa using this
  obtain⟨i0,hi0,hz'⟩:=kG.1 hz;rcases aX5 (i:=0) hs key ((CB m key).getD J) m ms.toList hks with⟨q1,q2,q3,q4⟩|⟨e,p,q1,q2,q3,q4,q5,q6⟩
  ·have U:Dc ok w (ev ((CB m key).getD J)) z:=by
    rw[q2];have :=aVn (ok:=ok) (w:=w) hzl;rw[hzv]at this;exact this
   have hM:=L.push (k:=ek key) U;obtain⟨r1,r2,Y⟩:=xR (P:=P) hm he hh h1 h2 hM h4.push;refine⟨.tuple #[z,goInt clock],_,ok,H,.inl ?_,Y,.refl _,?_,.eu _ _ rfl fun i hi=>?_⟩
   ·simp[execOp,ho,hx,hy,h1,Instr.mapEntry,underlying,ht,RI h2,O,Instr.findKey,M,q1,r1,zeroValue,typeInfo,hi0,hz']
   ·rw[q3,KL];exact r2
   match i,hi with
   |0,_=>
    have u:=U.mono Y;exact .d _ _ u
   |1,_=>
    have :goInt (clock:Nat)=.int .i64 (Fj m key:Nat):=by rw[q4,←hml,←h4.1];rfl
    show R ok _ H (.d (Ac (Fj m key:Nat))) (goInt clock);rw[this];exact .d _ _ (.lit _)
  have h5:(m.map (Bl ek ev))[Fj m key]? =some (Bl ek ev p):=by rw[JG,q3];rfl
  have j:ms[Fj m key]? =some e:=qY
  have q:=L.ent _ _ e h5 j;have U:Dc ok w (ev ((CB m key).getD J)) e.val:=by rw[q4];exact q.2.1
  have hM:=L.modify (k:=ek key) U (Fj m key);have hmk:=ai8 ms (Fj m key) (ek key) e.val (fun e' Z=>by rw[j]at Z;rw[←CV Z]);rw[←hmk]at hM;have hkey:e.key=ek key:=by rw[q.1,hk.eq _ _ q5];rfl
  obtain⟨r1,r2,Y⟩:=xR (P:=P) hm he hh h1 h2 hM (h4.modify _ _ fun _=>rfl);have hst:∀w,(Instr.keyThatStays (ek key) (ek key)).run P w=.ok (ek key) w:=fun w=>by simp[Instr.keyThatStays,hk.bits]
  have I:e.born=Fj m key:=h4.2 _ e j;refine⟨.tuple #[e.val,goInt (Fj m key:Nat)],_,ok,H,.inl ?_,Y,.refl _,?_,.eu _ _ rfl fun i hi=>?_⟩
  ·simp[execOp,ho,hx,hy,h1,Instr.mapEntry,underlying,ht,RI h2,O,Instr.findKey,M,q1,j,hkey,hst,r1,I]
  ·rw[q6,yj];exact r2
  match i,hi with
  |0,_=>
   have u:=U.mono Y;exact .d _ _ u
  |1,_=>exact .d _ _ (.lit _)
def aKu {t kt:TypeId} {x s u:Operand} {k:Nat} {ek:K→Value} (ev:V→D) {m:List (K×V)} {key:K} {z0 val:V} (hk:KeyTy P kt ek) (Y:es[k]? =some (.fO ((Ec m key z0).map (Bl ek ev)))) (ho:o.op=.entryStore t x s u):
 BU P o [(x,.mp k),(s,.d (Ac (Fj m key:Nat))),(u,.d (ev val))] es .junk (es.set k (.fO ((Ec m key val).map (Bl ek ev)))):=
 .eff fun C ok H a w hm L=>by
  obtain⟨hd,Z,M⟩:=GR hm.ent hm.hlen Y;obtain⟨b,ms,clock,h1,h2,O,h4⟩:=M;have hx:=UK (L (x,.mp k) BF) Z;have hy:a.eval s=.int .i64 (Fj m key:Nat):=(L (s,.d (Ac (Fj m key:Nat))) BF).lit;have hu:Dc ok w (ev val) (a.eval u):=by have :=L (u,.d (ev val)) BF;cases this with |d _ _ h=>exact h
  simp only at hx;have j:=aWb key z0 m;have h5:((Ec m key z0).map (Bl ek ev))[Fj m key]? =some (Bl ek ev (key,z0)):=by rw[JG,j];rfl
  have q:Fj m key<ms.size:=by
   have h6:=(FP.1 j).1;have :=O.len;rw[CG]at this;omega
  have z:ms[Fj m key]? =some ms[Fj m key]:=ZM
  have I:=O.ent _ _ _ h5 z;have hM:=O.modify (k:=ek key) hu (Fj m key);have U:=ajk ms (Fj m key) (ek key) (a.eval u) (fun e' J=>by rw[z]at J;rw[←CV J];exact I.1);rw[←U]at hM;obtain⟨r1,r2,r3⟩:=xR (P:=P) hm Y Z h1 h2 hM (h4.modify _ _ fun _=>rfl);refine⟨undef,_,ok,H,.inr ⟨rfl,?_⟩,r3,.refl _,?_,.junk _⟩
  ·simp[execOp,ho,hx,hy,h1,Instr.entryStore,RI h2,asInt,asIntOf,h4.find q,r1]
  have e1:((Ec m key z0).map (Bl ek ev)).set (Fj m key) (ek key,ev val)=(Ec m key val).map (Bl ek ev):=by
   rw[←aVb key z0 val m,yj];rfl
  rw[←e1];exact r2
end
section
variable {P : Program} {σ : Am} {Q : Exit → Am → Prop} {c : Operand} {x y : Code}
def EC {A:Type} {b:Bool} {u v z:A} (h:(bif b then u else v)=z) (ht:u=z→AQ P x σ Q) (j:v=z→AQ P y σ Q) (q:σ.get c=.d (.lit (.bool b)):=by kernel_rfl):AQ P (.cond c x y) σ Q:=
 AQ.cond b q (fun e=>ht (aCE e h)) (fun e=>j (aB5 e h))
def CU {A:Type} {b:Bool} {u v z:A} (h:(bif b then u else v)=z) (ht:u=z→Q .normal σ) (j:v=z→AQ P y σ Q) (q:σ.get c=.d (.lit (.bool b)):=by kernel_rfl):AQ P (.cond c .skip y) σ Q:=EC h (fun e=>AQ.skip (ht e)) j q
def BN {A:Type} {b:Bool} {u v z:A} (h:(bif b then u else v)=z) (ht:u=z→AQ P x σ Q) (j:v=z→Q .normal σ) (q:σ.get c=.d (.lit (.bool b)):=by kernel_rfl):AQ P (.cond c x .skip) σ Q:=EC h ht (fun e=>AQ.skip (j e)) q
end
section
variable {P : Program} {ops : Array Oper} {o : Oper} {rest : List Oper} {σ σ' : Am} {K : Exit → Am → Prop} {ns : List (Operand × AV)} {x : AV} {es' : List BA}
def Ci.f (h:BU P o ns σ.ents x es') (k:Ci P ops rest (σ.put o.dst x es') K) (j:(ns.map fun n=>σ.get n.1)=ns.map (·.2):=by kernel_rfl) (q:Ja ops σ o.guard=some true:=by kernel_rfl) (ht:(Nv ns).all (tmpsOf o).contains=true:=by kernel_rfl):Ci P ops (o::rest) σ K:=Ci.e es' h k rfl j q ht
def Chain.f (h:BU P o ns σ.ents x es') (k:Chain P ops rest (σ.put o.dst x es') σ') (j:(ns.map fun n=>σ.get n.1)=ns.map (·.2):=by kernel_rfl) (q:Ja ops σ o.guard=some true:=by kernel_rfl):Chain P ops (o::rest) σ σ':=Chain.e es' h k rfl j q
def Ep.f {rs:List AV} {ess:List (List BA)} {bs:List Bool} (h:BU P o ns σ.ents x es') (k:Ep P ops rest (σ.put o.dst x es') rs ess bs σ') (j:(ns.map fun n=>σ.get n.1)=ns.map (·.2):=by kernel_rfl) (q:Ja ops σ o.guard=some true:=by kernel_rfl)
 (ht:(Nv ns).all (tmpsOf o).contains=true:=by kernel_rfl):Ep P ops (o::rest) σ (x::rs) (es'::ess) (true::bs) σ':=Ep.e es' h k rfl j q ht
end
def aUf {A:Type} {b:Bool} {u v z:A} (h:(bif b then u else v)=z):(b=true∧u=z)∨(b=false∧v=z):=by
 cases b with
 |true=>exact .inl ⟨rfl,h⟩
 |false=>exact .inr ⟨rfl,h⟩
def Cj {A:Type} {a b:A} (h:some a=some b):a=b:=CV h
def pJ {α β γ:Type} {x:Option α} {y:α→Option β} {f:α→β→Option γ} {z:γ} (h:(x.bind fun a=>(y a).bind (f a))=some z):∃a,x=some a∧∃b,y a=some b∧f a b=some z:=by
 obtain⟨a,j,h⟩:=Dn h;obtain⟨b,q,h⟩:=Dn h;exact⟨a,j,b,q,h⟩
def aF6 {α β γ δ:Type} {x:Option α} {y:α→Option β} {w:α→β→Option δ} {f:α→β→δ→Option γ} {z:γ} (h:(x.bind fun a=>(y a).bind fun b=>(w a b).bind (f a b))=some z):∃a,x=some a∧∃b,y a=some b∧∃d,w a b=some d∧f a b d=some z:=by
 obtain⟨a,j,b,q,h⟩:=pJ h;obtain⟨d,u,h⟩:=Dn h;exact⟨a,j,b,q,d,u,h⟩
def AU {α β:Type} {x:Option α} {f:α→Option β} {z:β} {G:Prop} (h:x.bind f=some z) (k:∀a,x=some a→f a=some z→G):G:=by
 obtain⟨a,j,h⟩:=Dn h;exact k a j h
def Df {α β γ:Type} {x:Option α} {y:α→Option β} {f:α→β→Option γ} {z:γ} {G:Prop} (h:(x.bind fun a=>(y a).bind (f a))=some z) (k:∀a,x=some a→∀b,y a=some b→f a b=some z→G):G:=by
 obtain⟨a,j,b,q,h⟩:=pJ h;exact k a j b q h
def iZ {α β γ δ:Type} {x:Option α} {y:α→Option β} {w:α→β→Option δ} {f:α→β→δ→Option γ} {z:γ} {G:Prop} (h:(x.bind fun a=>(y a).bind fun b=>(w a b).bind (f a b))=some z) (k:∀a,x=some a→∀b,y a=some b→∀d,w a b=some d→f a b d=some z→G):G:=by
 obtain⟨a,j,b,q,d,u,h⟩:=aF6 h;exact k a j b q d u h
section
variable {P : Program} {o : Oper} {es : List BA} {α : Type}
def Bc {x y:Operand} {t e:TypeId} {i:Int} {agg:Bool} {size:Nat} (enc:α→D) {l:List α} {a:α} (h:Af l i=some a) (ht:P.underlying t=some (.slice e)) (j:EM P e agg size) (q:o.op=.indexAddr t x y) (hs:(enc a).cells.length=size:=by kernel_rfl):
 BU P o [(x,.d (BL enc l)),(y,.d (.lit (.int .i64 i)))] es (.d (.ref (enc a).cells 0)) es:=aio enc h ht j hs q
def F6 {t e:TypeId} {size q len:Nat} {z:Value} (hE:Gw P t e size q) (J:(P.info? e).bind (·.zero)=some z) (ys:List D) {j:Array (Nat×Operand)} (L:o.op=.buildSlice t len j) (M:z.cells.all (·.oneCell')=true:=by kernel_rfl) (u:z.cells.size=size:=by kernel_rfl) (hlen:Nat.ble (len*size) 16777216=true:=by kernel_rfl)
 (hp:NI (fun i=>some (i*size,size)) (len*size) j.toList (ys.map .d)=true:=by kernel_rfl) (O:Jz (fun i=>some (i*size,size)) (RF z (len*size)) j.toList (ys.map .d)=flat ys:=by kernel_rfl) (hl:ys.length=len:=by kernel_rfl) (I:ys.all (fun y=>decide (y.cells.length=size))=true:=by kernel_rfl):
 BU P o (NS j.toList (ys.map .d)) es (.d (.sl ys)) es:=amW hE J M u (FC hlen) (ys.map .d) ys hp O hl I L
def ZW {t e:TypeId} {size q len:Nat} {z:Value} (hE:Gw P t e size q) (J:(P.info? e).bind (·.zero)=some z) (ys:List D) {j:Array (Nat×Operand)} (L:o.op=.buildSlice t len j) (M:z.cells.all (·.oneCell')=true:=by kernel_rfl) (u:z.cells.size=size:=by kernel_rfl) (hlen:Nat.ble (len*size) 16777216=true:=by kernel_rfl)
 (hp:NI (fun i=>some (i*size,size)) (len*size) j.toList (ys.map .d)=true:=by kernel_rfl) (O:Jz (fun i=>some (i*size,size)) (RF z (len*size)) j.toList (ys.map .d)=flat ys:=by kernel_rfl) (hl:ys.length=len:=by kernel_rfl) (I:ys.all (fun y=>decide (y.cells.length=size))=true:=by kernel_rfl):
 BU P o (NS j.toList (ys.map .d)) es (.bn es.length) (es++[.arr e size ys]):=aUu hE J M u (FC hlen) (ys.map .d) ys hp O hl I L
def Ci.aM {ops:Array Oper} {l:List Oper} {σ:Am} {K:Exit→Am→Prop} [T:Kn P] {M:Am→Prop} (n:Nat) (k:M (SK (I5 T ops n l σ))) (hl:l.length=n:=by kernel_rfl) (h:(I5 T ops n l σ).isSome=true:=by kernel_rfl):Ci P ops l σ (KZ M K):=
 .a n (by rw[rW (Yc hl)];exact .bU k) h
end
def G6 {A:Type} {b:Bool} {u v z:A} {G:Prop} (h:(bif b then u else v)=z) (j:b=true→u=z→G) (k2:b=false→v=z→G):G:=by
 rcases aUf h with⟨e,h⟩|⟨e,h⟩
 ·exact j e h
 exact k2 e h
def ae6 {A:Type} (o:Option A) (f:A→AV):AV:=match o with
 |none=>.d (.lit (.pointer none))
 |some a=>f a
def afQ {A:Type} (o:Option A) (f:A→List BA):List BA:=match o with
 |none=>[]
 |some a=>f a
def Xr {A B:Type} (o:Option A) (x:Option B) (f:A→Option B):Option B:=match o with
 |none=>x
 |some a=>f a
def aJI {A B:Type} {x z:Option B} {f:A→Option B} (h:Xr none x f=z):x=z:=h
def aP5 {A B:Type} {x z:Option B} {a:A} {f:A→Option B} (h:Xr (some a) x f=z):f a=z:=h
section
variable {P : Program} {o : Oper} {es : List BA}
def aHg {t t':TypeId} {x y:Operand} {k off:Nat} (ht:P.underlying t=some (.pointer (P.pointee t))) (I:o.op=.binOp .eql t x y t'):BU P o [(x,.ptr k off),(y,.d (.lit (.pointer none)))] es (.d (Dx false)) es:=
 .pure fun _ _ a w _ _ q=>⟨.bool false,by
  have j:=(Ef q).1;have z:=(Ef q).2.lit;simp only at j z;generalize J:a.eval x=u at j;cases j with
  |ptr _ _ b s M=>
   have L:(eqGuard .eql t x y (Value.pointer (some ⟨b,off,none⟩)) (.pointer none)).run P w=.ok () w:=by
    unfold eqGuard;simp[pure,Sem.run_pure']
   simp only[execOp,I,J,z,FT,L,Fh,run_eql_pointer_nil w t _ ht,Gj]
   rfl,.d _ _ (.lit _)⟩
def aIh {t t':TypeId} {x y:Operand} (ht:P.underlying t=some (.pointer (P.pointee t))) (z:o.op=.binOp .eql t x y t'):BU P o [(x,.d (.lit (.pointer none))),(y,.d (.lit (.pointer none)))] es (.d (Dx true)) es:=
 .pure fun _ _ a w _ _ j=>⟨.bool true,by
  have q:=(Ef j).1.lit;have u:=(Ef j).2.lit;simp only at q u
  have I:(eqGuard .eql t x y (Value.pointer none) (.pointer none)).run P w=.ok () w:=by
   unfold eqGuard;simp[pure,Sem.run_pure']
  simp only[execOp,z,q,u,FT,I,Fh,run_eql_pointer_nil w t _ ht,Gj]
  rfl,.d _ _ (.lit _)⟩
end
def aKN :List ResultVar→Bool
 | []=>true
 | .tmp _::rs=>aKN rs
 |_::_=>false
def aBM (σ:Am):List ResultVar→List AV
 | []=>[]
 | .tmp t::rs=>σ.slots.getD t .junk::aBM σ rs
 |_::rs=>.junk::aBM σ rs
def aat {P:Program} {σ:Am}:∀{rs:List ResultVar},aKN rs=true→Yz P σ rs (aBM σ rs)
 | [],_=>trivial
 | .tmp _::_,h=>⟨rfl,aat h⟩
def FW {P:Program} {σ:Am} {rs:List ResultVar} {j:AV} {E':List BA} (π:List (Nat×Bool)) (ha:aKN rs=true:=by kernel_rfl) (q:VH σ.base σ.ents π=true:=by kernel_rfl) (u:j=(jW (aBM σ rs)).back π:=by kernel_rfl) (z:E'=SL σ.ents π:=by kernel_rfl):
 ∃xs π,Yz P σ rs xs∧VH σ.base σ.ents π=true∧j=(jW xs).back π∧E'=SL σ.ents π:=⟨_,π,aat ha,q,u,z⟩
def YH :Nat→Nat→List (Nat×Nat×Nat)
 |0,_=>[]
 |n+1,x=>(x % 2048,x/2048 % 64,x/131072 % 2048)::YH n (x/268435456)
def aLa :List (Nat×Nat×Nat)→List (List Nat)→Nat→List (List Nat)
 | [],N,_=>N
 |t::Tr,N,n=>bif Nat.beq t.2.2 n then aLa Tr (N++[t.2.1::N.getD t.1 []]) (n+1)else aLa Tr N n
def VQ (n x:Nat):List (List Nat):=aLa (YH n x) [[]] 1
section
variable {P : Program} [T : Kn P] {id : Nat} {ops : Array Oper} {σ : Am} {Q : Exit → Am → Prop} {y : Code}
def AQ.ayU (L:List (MQ P)) (n x j:Nat) (q:AQ P y (MI T L ops σ ((VQ n x).getD j [])) Q) (hm:P.follows .mixedOrders=true:=by kernel_rfl) (u:xw ops (VQ n x) (YH n x) [j]=true:=by kernel_rfl)
 (z:((YH n x).map fun t=>Vz T L ops (MI T L ops σ ((VQ n x).getD t.1 [])) t.2.1)=(YH n x).map fun t=>some (MI T L ops σ ((VQ n x).getD t.2.2 []),XT L t.2.1):=by kernel_rfl) (I:(VQ n x).getD 0 [0]=[]:=by kernel_rfl):AQ P (.seq (.region id ops true) y) σ Q:=
 AQ.aFg L _ _ j q hm u I z
def AQ.asJ (L:List (MQ P)) (n x:Nat) (F:List Nat) (j:Am) (q:QT (fun k=>rJ (MI T L ops σ ((VQ n x).getD k [])) j) F) (u:AQ P y j Q) (hm:P.follows .mixedOrders=true:=by kernel_rfl) (z:xw ops (VQ n x) (YH n x) F=true:=by kernel_rfl)
 (I:((YH n x).map fun t=>Vz T L ops (MI T L ops σ ((VQ n x).getD t.1 [])) t.2.1)=(YH n x).map fun t=>some (MI T L ops σ ((VQ n x).getD t.2.2 []),XT L t.2.1):=by kernel_rfl) (J:(VQ n x).getD 0 [0]=[]:=by kernel_rfl):AQ P (.seq (.region id ops true) y) σ Q:=
 AQ.aFh L _ _ F j q u hm z J I
end
end Go.Proofs.YtkkdimcnpacjhaaGreat
end
section
namespace Go
open Go.Proofs.YtkkdimcnpacjhaaGreat
variable {P : Program}
def aEP (w:World) (U Y ty q:TypeId) (b o u I:Nat) (a:Addr) (z J k n:Nat) (cs:List Value)
 (Z:P.underlying U=some (.slice q)) (hs:(P.info? q).map (·.size)=some k) (hn:n=Nat.min z u) (hl:cs.length=n*k)
 (L:∀j v,cs[j]? =some v→w.cell? (a.add j)=some v) (hc:∀j,j<cs.length→(w.cell? ⟨b,o+j,none⟩).isSome=true) (hf:∀j,j<cs.length→w.frozen? ⟨b,o+j,none⟩=false) (h1:∀v∈cs,v.oneCell'=true):
 (Builtin.copy_ #[U,Y] ty #[.slice (some ⟨b,o,none⟩) u I,.slice (some a) z J]).run P w=.ok (goInt n) (w.setCells b o cs):=by
 have M:=aOC (P:=P) w a cs L;have hst:=run_storeCells_cells (P:=P) b o cs 0 w aEC (by simpa using hf) h1;rw[hl]at M;cases O:P.info? q with
 |none=>simp[O]at hs
 |some i=>
  have hi:i.size=k:=by simpa[O]using hs
  simp[Builtin.copy_,aCr Z,Builtin.lenOf,Builtin.firstCells,sizeOf,typeInfo,O,hi,←hn,M,hst]
end Go
namespace Go.Proofs.YtkkdimcnpacjhaaGreat
open Go.Shelf Go.RowKit Go.Lib
section
variable {P : Program} {o : Oper} {es : List BA}
def Ui (x y:Int):Int:=bif decide (y<x)then y else x
def adt {x y:Operand} {ats:Array TypeId} {kd:IntKind} {a b:Int} (z:o.op=.call { callee:=.builtin .min,args:= #[x,y],argTypes:=ats }):
 BU P o [(x,.d (.lit (.int kd a))),(y,.d (.lit (.int kd b)))] es (.d (.lit (.int kd (Ui a b)))) es:=
 .pure fun ok H c w _ _ j=>by
  have q:=(Ef j).1.lit;have u:=(Ef j).2.lit;simp only at q u;have e:Ui a b=if b<a then b else a:=by unfold Ui;by_cases h:b<a<;>simp[h]
  refine⟨.int kd (Ui a b),?_,.d _ _ (.lit _)⟩;rw[e];simp[execOp,z,resolve,invoke,builtin,q,u,Go.run_min_int2]
end
set_option linter.unusedVariables false
set_option linter.unusedSimpArgs false
set_option maxHeartbeats 4000000 in
set_option maxRecDepth 100000 in
def ane (b n c i vb vc:Nat) (cs vs:List Value) (w:World) (hi:i<n) (hroom:n+1≤c) (hc63:c≤9223372036854775807) (hvb:vb≠b)
 (hcl:cs.length=n*29) (hvl:vs.length=29)
 (hcs:∀j v,cs[j]? =some v→w.cell? ⟨b,j,none⟩=some v) (hsp:∀j,j<(n+1)*29→(w.cell? ⟨b,j,none⟩).isSome=true) (hfz:∀j,j<(n+1)*29→w.frozen? ⟨b,j,none⟩=false)
 (hvs:∀j v,vs[j]? =some v→w.cell? ⟨vb,j,none⟩=some v) (h1c:∀v∈cs,v.oneCell'=true) (h1v:∀v∈vs,v.oneCell'=true)
 (tA tB:TypeId) (kA kB:Nat) (hsa:w.shape? vb=some (tA,kA)) (hsb:w.shape? b=some (tB,kB)) (hkB:kB≠0) (hfa:w.frozen? ⟨vb,0,none⟩=false) (hfe:w.frozen? ⟨vb,kA,none⟩=false):
 Calls Tryz.prog 80 #[.slice (some ⟨b,0,none⟩) n c,.int .i64 i,.slice (some ⟨vb,0,none⟩) 1 vc] w fun e w'=>
  e=.returned (.slice (some ⟨b,0,none⟩) (n+1) c)∧w'=(w.drew.setCells b ((i+1)*29) (cs.drop (i*29))).setCells b (i*29) vs:=by
 have hz2:¬((i:Int)=(n:Int)):=AA
 have hw1:Ai ((i:Int)+1)=(i:Int)+1:=QH
 have hw2:Ai ((n:Int)+1)=(n:Int)+1:=QH
 have hb1:(0:Int)≤(i:Int)+1:=AA
 have hin:i≤n:=AA
 have htn:((i:Int)+1).toNat=i+1:=AA
 have aJW:((n:Int)+1).toNat=n+1:=AA
 have hb2:¬(c=i+1):=AA
 have hb3:(i:Int)≤(n:Int)+1:=AA
 have hb4:¬(c=i):=AA
 have hb5:¬((c:Int)<(n:Int)+1):=AA
 have z:(Tryz.prog.info? 39).map (·.size)=some 29:=A8
 have U:∀w,(Go.sizeOf 39).run Tryz.prog w=.ok 29 w:=fun w=>by
  cases Y:Tryz.prog.info? 39 with
  |none=>simp[Y]at z
  |some i=>
   have h0:i.size=29:=by simpa[Y]using z
   simp[sizeOf,typeInfo,Y,h0]
 have Z:∀lb cb,(callFunc 144 #[.slice (some ⟨vb,0,none⟩) 1 vc,.slice (some ⟨b,(i+1)*29,none⟩) lb cb]).run Tryz.prog w=.ok (.value (.bool false)) w:=fun lb cb=>by
  rw[run_callFunc_extern Tryz.func144 A8 A8 A8 (e:=Extern.SlicesOverlaps.overlaps #[22,22] #[4]) A8,
   Lib.run_overlaps_apart w 22 4 39 Xf 29 U ⟨vb,0,none⟩ ⟨b,(i+1)*29,none⟩ 1 vc lb cb hvb tA tB kA kB hsa hsb hkB hfa hfe]
  rfl
 have I:(cs.drop (i*29)).length=(n-i)*29:=by rw[IV,hcl,Nat.sub_mul]
 have J:∀ty BG sc,(Builtin.copy_ #[22,22] ty #[.slice (some ⟨b,(i+1)*29,none⟩) (n-i) BG,.slice (some ⟨b,i*29,none⟩) (n+1-i) sc]).run Tryz.prog w.drew=.ok (goInt (n-i:Nat)) (w.drew.setCells b ((i+1)*29) (cs.drop (i*29))):=fun ty BG sc=>
  aEP w.drew _ _ ty 39 b ((i+1)*29) (n-i) BG ⟨b,i*29,none⟩ (n+1-i) sc 29 (n-i) (cs.drop (i*29)) Xf z aAg I
   (fun j v q=>by rw[kD];exact hcs (i*29+j) v (by rwa [QA]at q))
   (fun j q=>hsp _ aM3) (fun j q=>hfz _ aM3) (fun v hv=>h1c v (dh hv))
 obtain⟨W1,u⟩:∃W1,W1=w.drew.setCells b ((i+1)*29) (cs.drop (i*29)):=⟨_,rfl⟩
 have L:∀k,k<(n+1)*29→(W1.cell? ⟨b,k,none⟩).isSome=true:=fun k hk=>by
  rw[u];exact isSome_setCells b (cs.drop (i*29)) ((i+1)*29) w.drew (fun j q=>hsp _ aM3) _ (hsp k hk)
 have M:∀(W:World),(∀x,W.cell? x=W1.cell? x)→(∀x,W.frozen? x=W1.frozen? x)→∀ty BG,(Builtin.copy_ #[22,22] ty #[.slice (some ⟨b,i*29,none⟩) (n+1-i) BG,.slice (some ⟨vb,0,none⟩) 1 vc]).run Tryz.prog W=.ok (goInt (1:Nat)) (W.setCells b (i*29) vs):=fun W O hWf ty BG=>
  aEP W _ _ ty 39 b (i*29) (n+1-i) BG ⟨vb,0,none⟩ 1 vc 29 1 vs Xf z aAg (by rw[hvl])
   (fun j v q=>by
    rw[kD,O,u,World.cell?_setCells_out b _ _ _ _ (fun h _=>absurd h hvb),JJ]
    exact hvs j v q)
   (fun j q=>by rw[O];exact L _ AA) (fun j q=>by rw[hWf,u,World.frozen?_setCells];exact hfz _ AA) h1v
 rw[←u]at J;have mixed:Tryz.prog.follows .mixedOrders=true:=A8
 go_enter Tryz.func80,Tryz.ntmps80
 go_wp2_with (simp only[Z])
 go_region_law_o (refine step_copy_runI rfl _ _ 22 22 rfl _ _ aDR aDR (J _ _ _) ?_)
 go_wp2_with (at_builtin;refine wpList_copy_runI _ rfl _ _ 22 22 rfl _ _ rfl rfl (M _ (fun _=>rfl) (fun _=>rfl) _ _) ?_)
 go_ret
 first|exact⟨rfl,rfl⟩|exact⟨rfl,by rw[u]⟩
set_option maxHeartbeats 4000000 in
set_option maxRecDepth 100000 in
def acB (b n c i vb vc:Nat) (cs vs:List Value) (w:World) (hi:i<n) (hnc:n≤c) (hroom:c<n+1) (hbig:(n+1)*376≤140737488355328)
 (hcl:cs.length=n*29) (hvl:vs.length=29)
 (hcs:∀j v,cs[j]? =some v→w.cell? ⟨b,j,none⟩=some v) (hvs:∀j v,vs[j]? =some v→w.cell? ⟨vb,j,none⟩=some v) (h1c:∀v∈cs,v.oneCell'=true) (h1v:∀v∈vs,v.oneCell'=true):
 Calls Tryz.prog 80 #[.slice (some ⟨b,0,none⟩) n c,.int .i64 i,.slice (some ⟨vb,0,none⟩) 1 vc] w fun e w'=>∃G ROW,e=.returned (.slice (some ⟨w.heap.size,0,none⟩) (n+1) G)∧n+1≤G∧G≤maxLen∧G*29≤ROW.size∧ROW.toList.take (i*29)=cs.take (i*29)∧
  w'=(((w.alloc (.cells ROW 39)).drew.setCells w.heap.size (i*29) vs).drew).setCells w.heap.size ((i+1)*29) (cs.drop (i*29)):=by
 have hE:Gw Tryz.prog 22 39 29 376:=NM A8;obtain⟨i0,z0,hi0,hz0,hzs,hzb,hzc⟩:=hE.info;have hsz:(Tryz.prog.info? 39).map (·.size)=some 29:=by rw[hi0];simp[hzs]
 have mixed:Tryz.prog.follows .mixedOrders=true:=A8
 have hz2:¬((i:Int)=(n:Int)):=AA
 have hz3:(c:Int)<(n:Int)+1:=AA
 have hil:i*29<cs.length:=AA
 have hbw:b<w.heap.size:=block_lt_of_cell (hcs 0 _ (D8 AA));have hvw:vb<w.heap.size:=block_lt_of_cell (hvs 0 _ (D8 AA));have hkk:(n:Int)+1-(i:Int)=((n+1-i:Nat):Int):=AA
 have O:i+(n+1-i)=n+1:=AA
 have U:(cs.take (i*29)).length=i*29:=aKt
 have L:(Builtin.firstCells i0.size i (.slice (some ⟨b,0,none⟩) i c)).run Tryz.prog w.drew=.ok (cs.take (i*29)).toArray w.drew:=by
  rw[hzs]
  exact run_firstCells_some w.drew 29 i ⟨b,0,none⟩ i c (cs.take (i*29)) (by rw[U]) (fun j v q=>by
   rw[kD,JJ];rw[wM]at q;split at q
   ·exact hcs j v q
   cases q)
 have J:∀ty,(Builtin.append_ #[22,3] ty #[.slice (some ⟨b,0,none⟩) i c,.int .i64 ((n:Int)+1-(i:Int))]).run Tryz.prog w=
  .ok (.slice (some ⟨w.heap.size,0,none⟩) (n+1) (grownCap w (n+1) c 39)) (w.drew.alloc (.cells ((cs.take (i*29)).toArray++Builtin.zeroCells z0.cells (n+1-i)++Builtin.zeroCells z0.cells (grownCap w (n+1) c 39-(n+1))) 39)):=fun ty=>by
  have h:=Lib.run_append_grow_zeros w 22 3 ty 39 i0 z0 .i64 .i64 hE.und A8 hi0 hz0 (some ⟨b,0,none⟩) i c (cs.take (i*29)) L (n+1-i) AA AA AA AA (by rw[hzb];omega) (by rw[hzb,O];exact growslice_fits AA AA);rw[O]at h;rw[hkk];exact h
 have hGn:n+1≤grownCap w (n+1) c 39:=grownCap_ge w _ _ _;have Y:=grownCap_le_maxLen w (n+1) c 39 aDM;obtain⟨G,hG⟩:∃G,G=grownCap w (n+1) c 39:=⟨_,rfl⟩
 obtain⟨ROW,u⟩:∃ROW:Array Value,ROW=(cs.take (i*29)).toArray++Builtin.zeroCells z0.cells (n+1-i)++Builtin.zeroCells z0.cells (G-(n+1)):=⟨_,rfl⟩
 rw[←hG]at J hGn Y;rw[←u]at J
 have hRl:ROW.size=G*29:=by
  rw[u];simp[Builtin.zeroCells,hzc];omega
 have hRt:ROW.toList.take (i*29)=cs.take (i*29):=by
  rw[u];simp[Hw];rw[vW U]
 obtain⟨W1,z⟩:∃W1,W1=w.drew.alloc (.cells ROW 39):=⟨_,rfl⟩
 rw[←z]at J
 have hN:∀j,j<(n+1)*29→(W1.cell? ⟨w.heap.size,j,none⟩).isSome=true:=fun j q=>by
  rw[z,World.cell?_alloc_at (w:=w.drew) ROW _ w.heap.size j rfl,xW AA];rfl
 have hNf:∀j,W1.frozen? ⟨w.heap.size,j,none⟩=false:=fun j=>by rw[z];exact World.frozen?_alloc_at (w:=w.drew) ROW _ w.heap.size j rfl
 have hOb:∀j v,w.cell? ⟨b,j,none⟩=some v→W1.cell? ⟨b,j,none⟩=some v:=fun j v h=>by rw[z,aMR (w:=w.drew) _ b j hbw];exact h
 have hOv:∀j v,w.cell? ⟨vb,j,none⟩=some v→W1.cell? ⟨vb,j,none⟩=some v:=fun j v h=>by rw[z,aMR (w:=w.drew) _ vb j hvw];exact h
 have hcpA:∀(W:World),(∀x,W.cell? x=W1.cell? x)→(∀x,W.frozen? x=W1.frozen? x)→∀ty BG,(Builtin.copy_ #[22,22] ty #[.slice (some ⟨w.heap.size,i*29,none⟩) (n+1-i) BG,.slice (some ⟨vb,0,none⟩) 1 vc]).run Tryz.prog W=.ok (goInt (1:Nat)) (W.setCells w.heap.size (i*29) vs):=fun W I Z ty BG=>
  aEP W _ _ ty 39 w.heap.size (i*29) (n+1-i) BG ⟨vb,0,none⟩ 1 vc 29 1 vs hE.und hsz aAg (by rw[hvl])
   (fun j v q=>by rw[kD,I,JJ];exact hOv _ v (hvs j v q))
   (fun j q=>by rw[I];exact hN _ AA) (fun j q=>by rw[Z];exact hNf _) h1v
 have hG63:G≤9223372036854775807:=by unfold maxLen at Y;omega
 have hGi:¬(G=i):=AA
 have hGim:¬(G=i+1):=AA
 have hci:¬(c=i):=AA
 have hbN:b≠w.heap.size:=AA
 have hdl:(cs.drop (i*29)).length=(n-i)*29:=by rw[IV,hcl,Nat.sub_mul]
 have M:∀(W:World),(∀x,W.cell? x=(W1.setCells w.heap.size (i*29) vs).cell? x)→(∀x,W.frozen? x=(W1.setCells w.heap.size (i*29) vs).frozen? x)→∀ty BG sc,(Builtin.copy_ #[22,22] ty #[.slice (some ⟨w.heap.size,(i+1)*29,none⟩) (n-i) BG,.slice (some ⟨b,i*29,none⟩) (n-i) sc]).run Tryz.prog W=.ok (goInt (n-i:Nat)) (W.setCells w.heap.size ((i+1)*29) (cs.drop (i*29))):=fun W I Z ty BG sc=>
  aEP W _ _ ty 39 w.heap.size ((i+1)*29) (n-i) BG ⟨b,i*29,none⟩ (n-i) sc 29 (n-i) (cs.drop (i*29)) hE.und hsz aAg hdl
   (fun j v q=>by
    rw[kD,I,World.cell?_setCells_out _ _ _ _ _ (fun h _=>absurd h hbN)]
    exact hOb _ v (hcs (i*29+j) v (by rwa [QA]at q)))
   (fun j q=>by rw[I];exact isSome_setCells _ vs (i*29) W1 (fun t ht=>hN _ AA) _ (hN _ (by rw[hdl]at q;omega)))
   (fun j q=>by rw[Z,World.frozen?_setCells];exact hNf _) (fun v hv=>h1c v (dh hv))
 subst z;have hE1:∀x,((w.alloc (.cells ROW 39)).drew).cell? x=(w.drew.alloc (.cells ROW 39)).cell? x:=fun x=>rfl;have hE2:∀x,((w.alloc (.cells ROW 39)).drew).frozen? x=(w.drew.alloc (.cells ROW 39)).frozen? x:=fun x=>rfl;have hF1:∀x,(((w.alloc (.cells ROW 39)).drew.setCells w.heap.size (i*29) vs).drew).cell? x=((w.drew.alloc (.cells ROW 39)).setCells w.heap.size (i*29) vs).cell? x:=fun x=>rfl;have hF2:∀x,(((w.alloc (.cells ROW 39)).drew.setCells w.heap.size (i*29) vs).drew).frozen? x=((w.drew.alloc (.cells ROW 39)).setCells w.heap.size (i*29) vs).frozen? x:=fun x=>rfl;have hw1:Ai ((i:Int)+1)=(i:Int)+1:=QH
 have hw2:Ai ((n:Int)+1)=(n:Int)+1:=QH
 have hw3:Ai ((n:Int)+1-(i:Int))=(n:Int)+1-(i:Int):=QH
 have hb1:(0:Int)≤(i:Int)+1:=AA
 have hin:i≤n:=AA
 have htn:((i:Int)+1).toNat=i+1:=AA
 have hb3:(i:Int)≤(n:Int):=AA
 clear hkk O L u hG hil U
 go_enter Tryz.func80,Tryz.ntmps80
 go_wp2_with (first
  |(at_builtin;refine aHA _ rfl _ _ _ _ rfl _ _ rfl rfl _ _ (J _) ?_)
  |(at_builtin;refine wpList_copy_runI _ rfl _ _ 22 22 rfl _ _ rfl rfl (hcpA _ hE1 hE2 _ _) ?_)
  |(at_builtin;refine wpList_copy_runI _ rfl _ _ 22 22 rfl _ _ rfl rfl (M _ (fun _=>rfl) (fun _=>rfl) _ _ _) ?_))
 go_region_law_o (refine step_copy_runI rfl _ _ 22 22 rfl (.slice (some ⟨w.heap.size,(i+1)*29,none⟩) (n-i) (G-(i+1))) (.slice (some ⟨b,i*29,none⟩) (n-i) (c-i)) aDR aDR (M _ hF1 hF2 3 (G-(i+1)) (c-i)) ?_)
 go_wp2
 go_ret
 exact⟨G,ROW,rfl,hGn,Y,Yc hRl.symm,hRt,rfl⟩
def putAt (cur:Array Value):Nat→List Value→Array Value
 |_,[]=>cur
 |o,v::r=>putAt (cur.setIfInBounds o v) (o+1) r
def ak :∀(vs:List Value) (o:Nat) (cur:Array Value),(putAt cur o vs).size=cur.size
 | [],_,_=>rfl
 |v::r,o,cur=>by rw[putAt,ak r];simp
def wX :∀(vs:List Value) (o:Nat) (cur:Array Value),o+vs.length≤cur.size→(putAt cur o vs).toList=cur.toList.take o++vs++cur.toList.drop (o+vs.length)
 | [],o,cur,_=>by simp[putAt]
 |v::r,o,cur,h=>by
  simp only[G7]at h;rw[putAt,wX r (o+1) _ Dh,aOR];refine aX fun j=>?_;simp only[Hw,List.getElem?_append,FD,dY,Td,wM,List.getElem?_set,QA,G7,Yj,aVK]
  grind
def wJ (b:Nat):∀(vs:List Value) (o:Nat) (w:World) (cur:Array Value) (e:TypeId) (fr:Nat×Nat),w.heap[b]? =some (.cells cur e fr)→(w.setCells b o vs).heap[b]? =some (.cells (putAt cur o vs) e fr)
 | [],_,_,_,_,_,h=>h
 |v::r,o,w,cur,e,fr,h=>by
  rw[World.setCells,putAt];refine wJ b r (o+1) _ _ e fr ?_;simp[World.setCell,Nh,h]
set_option maxHeartbeats 4000000 in
set_option maxRecDepth 100000 in
def aiM {v:Value} {n vb vc:Nat} {xs news:List Value} {w:World} (hown:lM w 39 29 v n xs) (hsrc:WY w (.slice (some ⟨vb,0,none⟩) 1 vc) 1 29 news) (hb:(n+1)*376≤140737488355328):
 Calls Tryz.prog 80 #[v,.int .i64 n,.slice (some ⟨vb,0,none⟩) 1 vc] w fun e w'=>∃v',e=.returned v'∧lM w' 39 29 v' (n+1) (xs++news)∧w.grownBy w' v.ownBlock∧∀g,Cx v'=some g→Cx v=some g∨w.heap.size≤g:=by
 have hE:Gw Tryz.prog 22 39 29 376:=NM A8;obtain⟨v',w',u,z,I,J⟩:=aN1 (ty:=22) hE hown hsrc hb aDM;have mixed:Tryz.prog.follows .mixedOrders=true:=A8
 rcases hown.2 with⟨rfl,M⟩|⟨g,cap,cur,rfl,_,Y,O,j,U,q⟩
 ·subst M
  go_enter Tryz.func80,Tryz.ntmps80
  go_wp2_with (at_builtin;refine aHA _ rfl _ _ _ _ rfl _ _ rfl rfl _ _ u ?_)
  go_ret
  exact⟨v',rfl,z,I,J⟩
 have L:cap≤9223372036854775807:=by unfold maxLen at j;omega
 go_enter Tryz.func80,Tryz.ntmps80
 go_wp2_with (at_builtin;refine aHA _ rfl _ _ _ _ rfl _ _ rfl rfl _ _ u ?_)
 all_goals (go_ret;exact⟨v',rfl,z,I,J⟩)
def rV (b:Nat):∀(vs:List Value) (o:Nat) (w:World),(w.setCells b o vs).os=w.os∧(w.setCells b o vs).tape=w.tape∧(w.setCells b o vs).output=w.output∧(w.setCells b o vs).heap.size=w.heap.size∧∀i,i≠b→(w.setCells b o vs).heap[i]? =w.heap[i]?
 | [],_,_=>⟨rfl,rfl,rfl,rfl,fun _ _=>rfl⟩
 |v::r,o,w=>by
  obtain⟨j,q,u,z,I⟩:=rV b r (o+1) (w.setCell ⟨b,o,none⟩ v);rw[World.setCells];refine⟨j,q,u,by rw[z];simp[World.setCell],fun i hi=>?_⟩;rw[I i hi];simp[World.setCell,Nh,Ne.symm hi]
def aiC {cur:Array Value} {xs vs:List Value} {a N k:Nat} (q:cur.toList.take N=xs) (hl:xs.length=N) (j:vs.length=k) (ha:a≤N) (hs:N+k≤cur.size):
 (putAt (putAt cur (a+k) (xs.drop a)) a vs).toList.take (N+k)=xs.take a++vs++xs.drop a:=by
 have hd:(xs.drop a).length=N-a:=by rw[IV,hl]
 rw[wX vs a _ (by rw[ak];omega),wX (xs.drop a) (a+k) cur AA,j,hd]
 have u:(cur.toList.take (a+k)++xs.drop a++cur.toList.drop (a+k+(N-a))).take a=xs.take a:=by
  rw[Hw,List.take_append_of_le_length Dh,aM5,←q,aM5,vO AA,vO ha]
 have z:(cur.toList.take (a+k)++xs.drop a++cur.toList.drop (a+k+(N-a))).drop (a+k)=xs.drop a++cur.toList.drop (a+k+(N-a)):=by
  rw[Hw,List.drop_left' Dh]
 rw[u,z,←Hw,vW (by simp[hd,j,hl];omega)]
def aon {cur:Array Value} {xs vs:List Value} {a N k:Nat} (q:cur.toList.take a=xs.take a) (hl:xs.length=N) (j:vs.length=k) (ha:a≤N) (hs:N+k≤cur.size):
 (putAt (putAt cur a vs) (a+k) (xs.drop a)).toList.take (N+k)=xs.take a++vs++xs.drop a:=by
 have hd:(xs.drop a).length=N-a:=by rw[IV,hl]
 rw[wX (xs.drop a) (a+k) _ (by rw[ak];omega),wX vs a cur AA,j,hd,q];have u:(xs.take a++vs++cur.toList.drop (a+k)).take (a+k)=xs.take a++vs:=vW (by simp[j,hl];omega);rw[u,vW (by simp[hd,j,hl];omega)]
def pU {w:World} {g n:Nat} {cur:Array Value} {xs:List Value} {T:TypeId} {fr:Nat×Nat} (q:w.heap[g]? =some (.cells cur T fr)) (ht:cur.toList.take n=xs) (j:Nat) (v:Value) (h:xs[j]? =some v):w.cell? ⟨g,j,none⟩=some v:=by
 unfold World.cell?;simp only[q];rw[←ht,wM]at h;split at h
 ·simpa using h
 cases h
def amr {w:World} {g:Nat} {cur:Array Value} {T:TypeId} {fr:Nat×Nat} (q:w.heap[g]? =some (.cells cur T fr)) (j:Nat) (h:j<cur.size):(w.cell? ⟨g,j,none⟩).isSome=true:=by
 unfold World.cell?;simp[q,h]
def aNJ {w:World} {g:Nat} {cur:Array Value} {T:TypeId} (q:w.heap[g]? =some (.cells cur T (0,0))) (j:Nat):w.frozen? ⟨g,j,none⟩=false:=by
 unfold World.frozen?;simp[q]
def adB {v:Value} {n vb vc i:Nat} {xs q:List Value} {w:World} (hi:i≤n) (J:lM w 39 29 v n xs) (h1:∀u∈xs,u.oneCell'=true) (hx:lM w 39 29 (.slice (some ⟨vb,0,none⟩) 1 vc) 1 q) (Y:∀u∈q,u.oneCell'=true) (hne:Cx v≠some vb) (hb:(n+1)*376≤140737488355328):
 Calls Tryz.prog 80 #[v,.int .i64 i,.slice (some ⟨vb,0,none⟩) 1 vc] w fun e w'=>∃v',e=.returned v'∧lM w' 39 29 v' (n+1) (xs.take (i*29)++q++xs.drop (i*29))∧Turns v w w'∧∀g,Cx v'=some g→Cx v=some g∨w.heap.size≤g:=by
 have L:=J.1;have M:q.length=29:=by have :=hx.1;omega
 rcases hx.2 with⟨e0,_⟩|⟨vb',aJX,aGs,e0,_,O,hvn,_,hvs,Z⟩
 ·cases e0
 injection e0 with e1 _ e3
 injection e1 with e1
 injection e1 with e1
 subst e1 e3;rcases XV i n with hin|hin
 ·rcases J.2 with⟨_,h0⟩|⟨g,cap,cur,rfl,_,hg,hnc,hcm,hcs,I⟩
  ·omega
  have hgv:vb≠g:=fun e=>hne lV;have hil:i*29≤n*29:=Jl _ hi;rcases XV n cap with z|z
  ·have hfit:(n+1)*29≤cur.size:=Ed (Jl _ z) hcs;refine(ane g n cap i vb vc xs q w hin z (by unfold maxLen at hcm;omega) hgv L M (pU hg I) (fun j hj=>amr hg j AA) (fun j _=>aNJ hg j) (pU O Z) h1 Y 39 39 aGs.size cur.size (by simp[World.shape?,O]) (by simp[World.shape?,hg]) AA (aNJ O 0) (aNJ O _)).mono ?_;rintro e w' ⟨rfl,rfl⟩;have hh:=wJ g q (i*29) _ _ _ _ (wJ g (xs.drop (i*29)) ((i+1)*29) w.drew cur 39 (0,0) hg);obtain⟨a1,a2,a3,a4,a5⟩:=rV g (xs.drop (i*29)) ((i+1)*29) w.drew;obtain⟨b1,b2,b3,b4,b5⟩:=rV g q (i*29) (w.drew.setCells g ((i+1)*29) (xs.drop (i*29)));refine⟨_,rfl,⟨?_,.inr ⟨g,cap,_,rfl,Du _,hh,z,hcm,by rw[ak,ak];exact hcs,?_⟩⟩,⟨b1.trans a1,b2.trans a2,b3.trans a3,by rw[b4,a4];exact Dq _,fun c hc hcb=>?_⟩,fun g' hg'=>.inl hg'⟩
   ·simp[M,L];omega
   ·have :=aiC (a:=i*29) (k:=29) I L M hil AA;rw[show(i+1)*29=i*29+29 by omega,show(n+1)*29=n*29+29 by omega];exact this
   have U:c≠g:=fun e=>hcb lV;rw[b5 c U,a5 c U];rfl
  refine(acB g n cap i vb vc xs q w hin hnc AA hb L M (pU hg I) (pU O Z) h1 Y).mono ?_;rintro e w' ⟨G,ROW,rfl,hGn,hGm,hGs,hRt,rfl⟩
  have hal:((w.alloc (.cells ROW 39)).drew).heap[w.heap.size]? =some (.cells ROW 39 (0,0)):=by
   show(w.heap.push (.cells ROW 39 (0,0)))[w.heap.size]? =_;simp
  have hh:=wJ w.heap.size (xs.drop (i*29)) ((i+1)*29) _ _ _ _ (show(((w.alloc (.cells ROW 39)).drew.setCells w.heap.size (i*29) q).drew).heap[w.heap.size]? =_ from wJ w.heap.size q (i*29) _ ROW 39 (0,0) hal);obtain⟨a1,a2,a3,a4,a5⟩:=rV w.heap.size q (i*29) (w.alloc (.cells ROW 39)).drew;obtain⟨b1,b2,b3,b4,b5⟩:=rV w.heap.size (xs.drop (i*29)) ((i+1)*29) ((w.alloc (.cells ROW 39)).drew.setCells w.heap.size (i*29) q).drew;refine⟨_,rfl,⟨?_,.inr ⟨w.heap.size,G,_,rfl,Du _,hh,hGn,hGm,by rw[ak,ak];exact hGs,?_⟩⟩,⟨b1.trans a1,b2.trans a2,b3.trans a3,?_,fun c hc hcb=>?_⟩,fun g' hg'=>.inr (by simp[Cx]at hg';omega)⟩
  ·simp[M,L];omega
  ·have :=aon (a:=i*29) (k:=29) hRt L M hil (by have :=Jl 29 hGn;omega);rw[show(i+1)*29=i*29+29 by omega,show(n+1)*29=n*29+29 by omega];exact this
  ·rw[b4];show w.heap.size≤((w.alloc (.cells ROW 39)).drew.setCells w.heap.size (i*29) q).heap.size;rw[a4];show w.heap.size≤(w.heap.push (.cells ROW 39 (0,0))).size;simp
  have U:c≠w.heap.size:=AA
  rw[b5 c U];show((w.alloc (.cells ROW 39)).drew.setCells w.heap.size (i*29) q).heap[c]? =_;rw[a5 c U];show(w.heap.push (.cells ROW 39 (0,0)))[c]? =_;simp[aLX,U]
 have hni:i=n:=AA
 subst hni;refine(aiM J ⟨AA,Y,.inl ⟨_,_,rfl,fun j u hj=>by rw[kD,JJ];exact pU O Z j u hj⟩⟩ hb).mono ?_;rintro e w' ⟨v',rfl,h2,h3,h4⟩;refine⟨v',rfl,?_,⟨h3.os,h3.tape,h3.output,h3.size,fun k hk hne'=>h3.block k hk ?_⟩,h4⟩
 ·rw[QB AA,rW AA,Oe];exact h2
 rcases J.2 with⟨rfl,_⟩|⟨g,cap,cur,rfl,_⟩
 ·simp[Value.ownBlock]
 intro e;exact hne' e.symm
def ajK {j:Array Value} (hs:j.size=3):j= #[j.getD 0 undef,j.getD 1 undef,j.getD 2 undef]:=by
 refine Zm (by simp[hs]) fun i u q=>?_;simp at q;have :i=0∨i=1∨i=2:=AA
 rcases this with rfl|rfl|rfl<;>simp[Array.getD,hs]
def aR9 {ok:Nat→Prop} {w:World} {H:List BO} {xs:List AV} {vs:List Value} (h:Ez ok w H xs vs) (n:Nat):Ez ok w H (xs.take n) (vs.take n):=by
 refine⟨by rw[FD,FD,h.1],fun i hi=>?_⟩;rw[FD]at hi;have :=h.2 i AA;rw[mV,mV]at this ⊢;rw[MB AA,MB AA];exact this
def aWo {ok:Nat→Prop} {w:World} {H:List BO} {xs:List AV} {vs:List Value} (h:Ez ok w H xs vs) (n:Nat):Ez ok w H (xs.drop n) (vs.drop n):=by
 refine⟨by rw[IV,IV,h.1],fun i hi=>?_⟩;rw[IV]at hi;have :=h.2 (n+i) AA;rw[mV,mV]at this ⊢;rw[QA,QA];exact this
def aH2 {ok:Nat→Prop} {w:World} {H:List BO} {xs:List AV} {vs:List Value} (h:Ez ok w H xs vs):∀u∈vs,u.oneCell'=true:=fun u q=>by
 obtain⟨i,hi,rfl⟩:=Fv q;have j:=h.2 i (by rw[←h.1];exact hi);have :=j.2.leaf j.1
 rwa [mV,D8 hi]at this
def aUD {size:Nat}:∀{es:List D} (i:Nat),(∀x∈es,x.cells.length=size)→flat (es.take i)=(flat es).take (i*size)
 | [],i,_=>UQ
 |x::l,0,_=>UQ
 |x::l,i+1,h=>by
  have j:(x.cells.map AV.d).length=size:=by rw[CG];exact h x (EU ..)
  rw[List.take_succ_cons,UN,UN,aUD i fun y q=>h y (FB _ q),XU,aBP,VO,←j,List.take_length_add_append]
def aQ2 {size:Nat}:∀{es:List D} (i:Nat),(∀x∈es,x.cells.length=size)→flat (es.drop i)=(flat es).drop (i*size)
 | [],i,_=>UQ
 |x::l,0,_=>UQ
 |x::l,i+1,h=>by
  have j:(x.cells.map AV.d).length=size:=by rw[CG];exact h x (EU ..)
  rw[List.drop_succ_cons,UN,aQ2 i fun y q=>h y (FB _ q),XU,aBP,VO,←j,List.drop_length_add_append]
def Ch.kill {C:ES} {ok:Nat→Prop} {H:List BO} {es:List BA} {w:World} (hm:Ch C ok H es w) (k:Nat):Ch C ok H (es.set k .dead) w:=
 (hm.change (ok':=ok) (H':=H) (w':=w) (es':=es.set k .dead) (fun _=>False) rfl rfl rfl (Dq _) (fun _ _ _=>rfl) (fun _ h=>h.elim) (fun _ h=>h) (fun _ h=>.inl h) (.refl _) (by simpa using hm.hlen) (by
  intro j e' h' q u;by_cases z:k=j
  ·subst z;rw[List.getElem?_set]at q;simp only[Jg]at q;split at q
   ·cases q;exact .inr ⟨trivial,fun h=>Gy⟩
   cases q
  rw[Y7 z]at q
  exact .inl ⟨q,u,fun _ _ _ h=>h⟩)).1
def aFU {α:Type} (l:List α) (i:Int) (m:List α):Option (List α):=match m with
 | [x]=>if(0≤i∧i≤(l.length:Int))∧l.length≤34359738368 then some (l.take i.toNat++x::l.drop i.toNat)else none
 |_=>none
def auH {α:Type} {e:α→D} (hk:∀x,(e x).cells.length=29) (l:List α) (q:Int) (m r:List α) (h:aFU l q m=some r):
 BI 80 [.bn 0,.d (Ac q),.bn 1] [.arr 39 29 (l.map e),.arr 39 29 (m.map e)] (.bn 2) [.dead,.dead,.arr 39 29 (r.map e)]:=by
 unfold aFU at h;split at h
 case h_2=>cases h
 rename_i x;split at h
 case isFalse=>cases h
 rename_i hc;obtain⟨⟨hq0,hql⟩,hb⟩:=hc;obtain rfl:=CV h;obtain⟨i,rfl⟩:∃i:Nat,q=i:=⟨q.toNat,AA⟩
 have hi:i≤l.length:=AA
 rw[Us];intro ok X H w L hm hs ha;have h0:=ha 0 BF;have hq:=ha 1 BF;have h2:=ha 2 BF;rw[ajK hs];obtain⟨hd,hh,hok⟩:=GR hm.ent hm.hlen (k:=0) rfl;obtain⟨M,O,U⟩:=GR hm.ent hm.hlen (k:=1) rfl;obtain hv:=O5 h0 hh;obtain hv1:=O5 h2 O
 have hq':L.getD 1 undef=.int .i64 i:=by
  simp only[List.getD,qc,aDC,MK]at hq;cases hq with |d _ _ hq=>exact Dc.ado hq
 rw[hv,hv1,hq'];obtain⟨hz,Y,xs,Z,J⟩:=hok;obtain⟨hz1,aJY,news,u,I⟩:=U;rw[CG]at Z
 obtain⟨g1,c1,hg1⟩:∃g1 c1,M.v=.slice (some ⟨g1,0,none⟩) 1 c1:=by
  rcases u.2 with⟨_,h⟩|⟨g,cap,cur,h,_⟩
  ·cases h
  exact⟨g,cap,h⟩
 have hne:Cx hd.v≠some g1:=fun hb=>by
  have :=hm.DU 0 1 _ _ hd M g1 rfl rfl rfl rfl hh O hb (by rw[hg1];rfl);cases this
 rw[hg1]at u ⊢;refine(adB hi Z (aH2 J) u (aH2 I) hne AA).mono ?_;rintro y w' ⟨v',rfl,j,ht,hblk⟩;have hlen:l.length+1=((l.take i++x::l.drop i).map e).length:=Dh
 rw[hlen]at j
 have hfl:flat ((l.take i++x::l.drop i).map e)=(flat (l.map e)).take (i*29)++flat ([x].map e)++(flat (l.map e)).drop (i*29):=by
  rw[←aUD i Y,←aQ2 i Y,←iD,←iD,KL,Ip,ZA,aF,Hw];rfl
 have hg:=hm.turn (e:=.arr 39 29 ((l.take i++x::l.drop i).map e)) (h':=⟨v',29⟩) (w':=w') (k:=0) rfl rfl hh ht.os ht.tape ht.output ht.size ht.block (fun g hg=>⟨wR j hg,hblk g hg⟩) (fun hgr=>⟨rfl,fun y hy=>by
  obtain⟨z,_,rfl⟩:=E5.1 hy
  exact hk z,_,j,by rw[hfl];exact(wz (wz (aR9 J _) I) (aWo J _)).mono hgr (.push _ _)⟩)
 refine⟨v',ok,H++[⟨v',29⟩],rfl,hg.1.kill 1,?_⟩;have hl:H.length=2:=hm.hlen;have hr:(H++[(⟨v',29⟩:BO)])[2]? =some ⟨v',29⟩:=by rw[←hl];simp
 rcases j.2 with⟨rfl,_⟩|⟨g,cap,cur,rfl,_⟩
 ·exact .bn 2 _ _ _ 29 hr
 exact .bn 2 _ _ _ 29 hr
end Go.Proofs.YtkkdimcnpacjhaaGreat
end
section
namespace Go.Proofs.YtkkdimcnpacjhaaGreat
open Go.RowKit Go.Sort
section
variable {β : Type} {e : β → D} {k : Nat} {ok : Nat → Prop} {w : World} {H : List BO}
def aWn (u:∀x,(e x).cells.length=k):∀(l:List β) (xs:List Value),Ez ok w H (flat (l.map e)) xs→∃z:List (β×List Value),z.map (·.1)=l∧z.flatMap (·.2)=xs∧∀p∈z,Ez ok w H ((e p.1).cells.map .d) p.2
 | [],xs,h=>by
   have j:xs.length=0:=h.1;exact⟨[],rfl,(Gf j).symm,fun p hp=>absurd hp Ei⟩
 |x::l,xs,h=>by
  rw[Ip,UN]at h;have hl:((e x).cells.map AV.d).length=k:=by rw[CG,u]
  have j:=aR9 h k;have q:=aWo h k;rw[←hl,aFu]at j;rw[←hl,List.drop_left]at q;rw[hl]at j q;obtain⟨z,I,J,L⟩:=aWn u l _ q;refine⟨(x,xs.take k)::z,by rw[Ip,I],by rw[KO,J,Qb],fun p hp=>?_⟩;rcases EX.1 hp with rfl|hp
  ·exact j
  exact L p hp
def aWW :∀(z:List (β×List Value)),(∀p∈z,Ez ok w H ((e p.1).cells.map .d) p.2)→Ez ok w H (flat ((z.map (·.1)).map e)) (z.flatMap (·.2))
 | [],_=>⟨rfl,fun i hi=>absurd hi (Nat.not_lt_zero i)⟩
 |p::z,h=>by
  rw[Ip,Ip,UN,KO];exact wz (h p (EU ..)) (aWW z fun q j=>h q (FB _ j))
end
def Ar.aAx {β:Type} {P:Program} {f g:FuncId} {T:TypeId} {k:Nat} {e:β→D} (hk:∀x,(e x).cells.length=k) {l r:List β}
 (h:∀(ok:Nat→Prop) (H:List BO) (v:Value) (w:World) (z:List (β×List Value)),z.map (·.1)=l→(∀p∈z,Ez ok w H ((e p.1).cells.map .d) p.2)→lM w T k v l.length (z.flatMap (·.2))→
  Calls P f #[v,.func (.func g) #[] #[]] w fun x w'=>x=.returned (.tuple #[])∧∃Z:List (β×List Value),(∀p∈Z,p∈z)∧Z.map (·.1)=r∧lM w' T k v r.length (Z.flatMap (·.2))∧Turns v w w'):
 Ar P f [.bn 0,.d (.fn (.func g) [] [])] [.arr T k (l.map e)] (.eu []) [.arr T k (r.map e)]:=by
 intro ok X H w J hm hs ha;have h0:=ha 0 BF;have Y:=ha 1 BF;rw[aWS hs];obtain⟨hd,hh,hok⟩:=GR hm.ent hm.hlen (k:=0) rfl;obtain hv:=O5 h0 hh
 have hf:J.getD 1 undef=.func (.func g) #[] #[]:=by
  simp only[List.getD,qc,aDC,MK]at Y;generalize J.getD 1 undef=u at Y;cases Y with
  |d _ _ Y=>
   cases Y with
   |fn _ _ _ vs us hl hm'=>
    have e1:vs= #[]:=WX Lc;have e2:us= #[]:=WX (by simpa using hm');rw[e1,e2]
 rw[hv,hf];obtain⟨hz,hcl,xs,L,hrs⟩:=hok;rw[CG]at L;obtain⟨z,z1,z2,z3⟩:=aWn hk l xs hrs;rw[←z2]at L;refine(h ok H hd.v w z z1 z3 L).mono ?_;rintro x w' ⟨rfl,Z,p1,p2,aGt,ht⟩;have I:=fun b hb=>hm.blk 0 _ hd b rfl rfl hh hb
 have M:ER ok w ok w':=(hm.change (ok':=ok) (H':=H) (w':=w') (es':=[.dead]) (fun c=>Cx hd.v=some c) ht.os ht.tape ht.output ht.size ht.block (fun c hc _=>⟨(I c hc).1,(I c hc).2.2⟩) (fun _ h=>h) (fun _ h=>.inl h) (.refl _) hm.hlen (by
  intro j e' h' q O
  match j,q with
  |0,q=>
   simp at q;subst q;exact .inr ⟨trivial,fun hl=>by cases hl⟩
  |k+1,q=>simp at q)).2
 have hg:=hm.change (ok':=ok) (H':=H) (w':=w') (es':=[.arr T k (r.map e)]) (fun c=>Cx hd.v=some c) ht.os ht.tape ht.output ht.size ht.block (fun c hc _=>⟨(I c hc).1,(I c hc).2.2⟩) (fun _ h=>h) (fun _ h=>.inl h) (.refl _) hm.hlen (by
  intro j e' h' q O
  match j,q with
  |0,q=>
   simp at q;subst q;rw[hh]at O;obtain rfl:=CV O;refine .inr ⟨⟨hz,fun x hx=>?_,_,by rw[CG];exact aGt,?_⟩,fun _ b hb=>⟨(I b hb).1,Uu (I b hb).2.1 ht.size,(I b hb).2.2,fun k' e'' h'' hne U=>?_⟩⟩
   ·obtain⟨y,_,rfl⟩:=E5.1 hx;exact hk y
   ·rw[←p2];exact aWW Z fun p hp=>(z3 p (p1 p hp)).mono M (.refl _)
   match k',U with
   |0,_=>exact absurd rfl hne
   |k'+1,U=>simp at U
  |k+1,q=>simp at q)
 exact⟨_,ok,H,rfl,hg.1,.eu [] #[] rfl (fun i hi=>P7)⟩
end Go.Proofs.YtkkdimcnpacjhaaGreat
end
section
namespace Go.Proofs.YtkkdimcnpacjhaaGreat
open Go.RowKit
section
variable {P : Program} {o : Oper} {es : List BA}
def TL {f:FuncId} {ops:Array Operand} {ats:Array TypeId} (dX:List AV) {gV:List AV} {j res':AV} {E':List BA} (q:Ar P f gV [] j E') (u:o.op=.call { callee:=.value (.func f),args:=ops,argTypes:=ats }) (z:BD P f=true:=by kernel_rfl) (I:E'.all BA.closed=true:=by kernel_rfl)
 (ha:NH [] dX gV:=by repeat (first|exact trivial|refine⟨.inl rfl,?_⟩|refine⟨.inr (.inr ⟨rfl,rfl⟩),?_⟩)) (hl:ops.toList.length=dX.length:=by kernel_rfl) (J:j.up [] es.length=res':=by kernel_rfl):BU P o (FM ops.toList dX) es res' (es++E'):=abM q z I ha hl J u
def aPN {f:FuncId} {ops:Array Operand} {ats:Array TypeId} (dX:List AV) {gV:List AV} {j res':AV} (q:Ar P f gV [] j []) (u:o.op=.call { callee:=.value (.func f),args:=ops,argTypes:=ats }) (z:BD P f=true:=by kernel_rfl)
 (ha:NH [] dX gV:=by repeat (first|exact trivial|refine⟨.inl rfl,?_⟩|refine⟨.inr (.inr ⟨rfl,rfl⟩),?_⟩)) (hl:ops.toList.length=dX.length:=by kernel_rfl) (I:j.up [] es.length=res':=by kernel_rfl):BU P o (FM ops.toList dX) es res' es:=aQW q z ha hl I u
def EZ {f:FuncId} {ops:Array Operand} {ats:Array TypeId} (srcs:List Dj) (dX:List AV) {gV:List AV} {E E':List BA} {j res':AV} (q:Ar P f gV E j E') (u:o.op=.call { callee:=.value (.func f),args:=ops,argTypes:=ats }) (z:BD P f=true:=by kernel_rfl) (I:RU srcs es E E'=true:=by kernel_rfl)
 (hE:U8 srcs es srcs E:=by first|exact trivial|exact P6 A8 trivial) (ha:NH srcs dX gV:=by repeat (first|exact trivial|refine⟨.inl rfl,?_⟩|refine⟨⟨0,rfl,rfl⟩,?_⟩|refine⟨⟨1,rfl,rfl⟩,?_⟩|refine⟨⟨2,rfl,rfl⟩,?_⟩|refine⟨.inr (.inr ⟨rfl,rfl⟩),?_⟩)) (hl:ops.toList.length=dX.length:=by kernel_rfl)
 (J:res'=j.up srcs es.length:=by kernel_rfl):BU P o (FM ops.toList dX) es res' (LX srcs es E'):=apo srcs q z I hE ha hl J u
def Zk {f:FuncId} {x:Operand} {ops:Array Operand} {ats:Array TypeId} (srcs:List Dj) (fi ca dX:List AV) {gV:List AV} {E E':List BA} {j res':AV} (q:Ar P f gV E j E') (u:o.op=.call { callee:=.value x,args:=ops,argTypes:=ats }) (z:BD P f=true:=by kernel_rfl) (I:RU srcs es E E'=true:=by kernel_rfl)
 (hE:U8 srcs es srcs E:=by first|exact trivial|exact P6 A8 trivial) (ha:NH srcs (fi++dX++ca) gV:=by repeat (first|exact trivial|refine⟨.inl rfl,?_⟩|refine⟨⟨0,rfl,rfl⟩,?_⟩|refine⟨⟨1,rfl,rfl⟩,?_⟩|refine⟨⟨2,rfl,rfl⟩,?_⟩|refine⟨.inr (.inr ⟨rfl,rfl⟩),?_⟩)) (hl:ops.toList.length=dX.length:=by kernel_rfl)
 (J:res'=j.up srcs es.length:=by kernel_rfl):BU P o ((x,.fn (.func f) fi ca)::FM ops.toList dX) es res' (LX srcs es E'):=ag9 srcs fi ca q z I hE ha hl J u
def aaP {f:FuncId} {x:Operand} {ops:Array Operand} {ats:Array TypeId} (srcs:List Dj) (fi ca:List D) (dX:List AV) {gV:List AV} {E E':List BA} {j res':AV} (q:Ar P f gV E j E') (u:o.op=.call { callee:=.value x,args:=ops,argTypes:=ats }) (z:BD P f=true:=by kernel_rfl) (I:RU srcs es E E'=true:=by kernel_rfl)
 (hE:U8 srcs es srcs E:=by first|exact trivial|exact P6 A8 trivial) (ha:NH srcs (fi.map .d++dX++ca.map .d) gV:=by repeat (first|exact trivial|refine⟨.inl rfl,?_⟩|refine⟨⟨0,rfl,rfl⟩,?_⟩|refine⟨⟨1,rfl,rfl⟩,?_⟩|refine⟨⟨2,rfl,rfl⟩,?_⟩|refine⟨.inr (.inr ⟨rfl,rfl⟩),?_⟩)) (hl:ops.toList.length=dX.length:=by kernel_rfl)
 (J:res'=j.up srcs es.length:=by kernel_rfl):BU P o ((x,.d (.fn (.func f) fi ca))::FM ops.toList dX) es res' (LX srcs es E'):=aq3 srcs fi ca q z I hE ha hl J u
end
section
variable {P : Program} {ops : Array Oper} {o : Oper} {rest l : List Oper} {σ : Am} {K : Exit → Am → Prop}
def Ci.ca {f:FuncId} {dX:List AV} {j:AV} (q:Ar P f dX [] j []) (k:Ci P ops rest (σ.rZ o.dst (j.up [] σ.ents.length)) K) (u:BD P f=true:=by kernel_rfl) (z:V4 σ o=some (f,dX):=by kernel_rfl)
 (hd:dX.all AV.Au=true:=by kernel_rfl) (I:Ja ops σ o.guard=some true:=by kernel_rfl):Ci P ops (o::rest) σ K:=.call q u k z hd I
def Ep.ca {σ':Am} {f:FuncId} {dX:List AV} {j:AV} {rs:List AV} {ess:List (List BA)} {bs:List Bool} (q:Ar P f dX [] j []) (k:Ep P ops rest (σ.rZ o.dst (j.up [] σ.ents.length)) rs ess bs σ') (u:BD P f=true:=by kernel_rfl) (z:V4 σ o=some (f,dX):=by kernel_rfl)
 (hd:dX.all AV.Au=true:=by kernel_rfl) (I:Ja ops σ o.guard=some true:=by kernel_rfl):Ep P ops (o::rest) σ (j.up [] σ.ents.length::rs) (σ.ents::ess) (false::bs) σ':=.call q u k z hd I
end
section
variable {P : Program} {ops : Array Oper} {o : Oper} {rest l : List Oper} {σ : Am} {K : Exit → Am → Prop}
def Ci.aW [T:Kn P] {M:Am→Prop} (k:M (SK (I5 T ops l.length l σ))) (h:(I5 T ops l.length l σ).isSome=true:=by kernel_rfl):Ci P ops l σ (KZ M K):=.aM l.length k rfl h
def Ci.bi [T:Kn P] {A:Type} {b:Bool} {u v z:A} (h:(bif b then u else v)=z) (j:u=z→Ci P ops rest (σ.rZ o.dst (.d (.lit (.bool true)))) K:=by exact fun h=>.aW<|EK) (k2:v=z→Ci P ops rest (σ.rZ o.dst (.d (.lit (.bool false)))) K:=by exact fun h=>.aW<|EK)
 (hs:(Vb T ops σ o).map (fun r=>(r.x,r.E,r.bar))=some (.d (.lit (.bool b)),σ.ents,false):=by kernel_rfl):Ci P ops (o::rest) σ K:=G6 h (fun e h=>.c (Aq some e) (j h) hs) fun e h=>.c (Aq some e) (k2 h) hs
def DX {A:Type} {b:Bool} {u v z:A} {G:Prop} (h:(bif b then u else v)=z) (j:b=true→u=z→G:=by exact fun e i=>aQ3) (k2:b=false→v=z→G:=by exact fun e i=>aQ3):G:=G6 h j k2
def AZ [T:Kn P] {id:Nat} {y:Code} {Q:Exit→Am→Prop} (k:AQ P y (SK (I5 T ops ops.toList.length ops.toList σ)) Q) (h:(I5 T ops ops.toList.length ops.toList σ).isSome=true:=by kernel_rfl):AQ P (.seq (.region id ops false) y) σ Q:=AP (.aW k h)
end
section
variable {P : Program} {ops : Array Oper} {l : List Oper} {σ : Am} {K : Exit → Am → Prop}
def Ci.mg (a c:Nat) (x:AV) (j:Ci P ops (l.take (c+1)) σ (KZ (fun s=>s.wipe (List.range' a c)=(σ.wipe (List.range' a c)).rZ (some (a+c)) x) K)) (q:Ci P ops (l.drop (c+1)) ((σ.wipe (List.range' a c)).rZ (some (a+c)) x) K):Ci P ops l σ K:=.merge (c+1) (List.range' a c) (a+c) x j q
end
def Ae {σ S:Am} (n w:Nat) (π:List (Nat×Bool)) (j:VH σ.base σ.ents π=true:=by kernel_rfl) (q:S=⟨LD π (mk n w) σ.slots,SL σ.ents π,σ.base⟩:=by kernel_rfl):CX σ S:=aq0 (mk n w) π j q
def Oc {α β:Type} {y:α} {g:α→Option (Except Value β)} {r:Except Value β} (h:Ky (.ok y) g=some r):g y=some r:=h
def OA {α β:Type} {u:Value} {g:α→Option (Except Value β)} {r:Except Value β} (h:Ky (.error u) g=some r):some (.error u)=some r:=h
def BP :ByteArray:=⟨#[]⟩
def aI1 (k:IntKind) (n:Int):D:=.lit (.int k n)
def lZ :ByteArray:=⟨#[58]⟩
def nM :ByteArray:=⟨#[33]⟩
def uI :ByteArray:=⟨#[64]⟩
def nJ :ByteArray:=⟨#[64,33]⟩
def aD8 :ByteArray:=⟨#[33,114,58,97]⟩
def Vh :ByteArray:=⟨#[64,97,110,110,58,97]⟩
def aRR :ByteArray:=⟨#[64,98,111,98,58,98]⟩
def Jr :ByteArray:=⟨#[84,101,120,116]⟩
def KG :ByteArray:=⟨#[78]⟩
def MS :ByteArray:=⟨#[86,105,97]⟩
def NC :ByteArray:=⟨#[76,101,118,101,108,115]⟩
def Ln :ByteArray:=⟨#[65,108,108,111,119]⟩
def ND :ByteArray:=⟨#[68,101,110,121]⟩
def Jj :ByteArray:=⟨#[84,97,114,103,101,116]⟩
def MW :ByteArray:=⟨#[84,104,114,101,97,100]⟩
def Bq :Value:=.int .i64 0
def Cc :Value:=.string BP
def Eh :Value:=.slice none 0 0
def yt :Value:=.agg #[Eh,Eh,Bq,Bq,Bq,Bq,Bq,Bq,Bq]
def aEn :Value:=.agg #[Cc,Bq,Bq,.bool false,Cc,Eh,Eh,Eh,Eh,Bq,Bq,Bq,Bq,Bq,Bq,Bq]
def aA7 :Value:=.agg #[Cc,Bq]
def aFW :Value:=.agg #[Bq,Cc,Cc,Bq,.bool false,Cc,Bq,Bq,Eh,Eh,Cc,Bq,Bq,.bool false,Cc,Eh,Eh,Eh,Eh,Bq,Bq,Bq,Bq,Bq,Bq,Bq,Bq,Cc,Bq]
def aAr :Value:=.agg #[Bq,Bq,Bq]
def zX :Value:=.agg #[.map none,.map none,.map none]
def aAs :Value:=.agg #[Cc,Bq]
def aV1 :Value:=.agg #[Bq,Bq]
def aES :Value:=.agg #[Bq,Cc,Bq]
def aFK :Value:=.agg #[Bq,Cc,Cc,Bq,.bool false,Cc,Bq,Bq,Eh,Eh,Cc,Bq,Bq,.bool false,Cc,Eh,Eh,Eh,Eh,Bq,Bq,Bq,Bq,Bq,Bq,Bq,Bq,Cc,Bq,Bq,Cc,Cc,Bq,.bool false,Cc,Bq,Bq,Eh,Eh,Cc,Bq,Bq,.bool false,Cc,Eh,Eh,Eh,Eh,Bq,Bq,Bq,Bq,Bq,Bq,Bq,Bq,Cc,Bq,Bq,Cc,Cc,Bq,.bool false,Cc,Bq,Bq,Eh,Eh,Cc,Bq,Bq,.bool false,Cc,Eh,Eh,Eh,Eh,Bq,Bq,Bq,Bq,Bq,Bq,Bq,Bq,Cc,Bq,Bq,Cc,Cc,Bq,.bool false,Cc,Bq,Bq,Eh,Eh,Cc,Bq,Bq,.bool false,Cc,Eh,Eh,Eh,Eh,Bq,Bq,Bq,Bq,Bq,Bq,Bq,Bq,Cc,Bq]
def aFp :Value:=.agg #[Bq]
def aQA :Value:=.agg #[Eh,Eh,Eh]
def aFI :Value:=.agg #[Bq,Cc]
def aE4 :Value:=.agg #[Bq,.nilFunc]
def aDj :Value:=.agg #[Bq,Eh,Eh,Bq]
def zA :Value:=.agg #[Bq,Bq]
def aEf :Value:=.agg #[Eh]
def aBK :Value:=.agg #[Bq,Bq,Bq,Bq,Bq]
def aEp :Value:=.agg #[Bq,Bq,Bq,Bq,Bq,Bq,Bq]
def aBW :Value:=.agg #[Eh,Eh]
def aFZ :Value:=.agg #[Eh,Eh]
def aFa :Value:=.agg #[]
def aCL :Value:=.agg #[Eh]
def aRF :Value:=.agg #[Eh,Eh,Eh,Eh,Eh]
def aBY :Value:=.agg #[]
def aF1 :Value:=.agg #[Bq,Bq,Bq,Eh]
def aFF :Value:=.agg #[Bq,Bq,Bq]
structure Hz where
 User:ByteArray
 N:Int
def FN (x:Hz):D:=.agg [DK x.User,Ac x.N]
def alS :Hz:=⟨BP,0⟩
instance : Inhabited Hz:=⟨alS⟩
structure J8 where
 Kind:Int
 N:Int
def Fp (x:J8):D:=.agg [Ac x.Kind,Ac x.N]
def ao8 :J8:=⟨0,0⟩
instance : Inhabited J8:=⟨ao8⟩
structure Bf where
 Users:(List Hz)
 Kinds:(List J8)
 User:Int
 Message:Int
 State:Int
 fG:Int
 jR:Int
 mZ:Int
 gB:Int
def Gm (x:Bf):D:=.agg [(BL FN) x.Users,(BL Fp) x.Kinds,Ac x.User,Ac x.Message,Ac x.State,Ac x.fG,Ac x.jR,Ac x.mZ,Ac x.gB]
def KX :Bf:=⟨[],[],0,0,0,0,0,0,0⟩
instance : Inhabited Bf:=⟨KX⟩
structure Bj where
 Text:ByteArray
 N:Int
 Target:Int
 Thread:Bool
 Via:ByteArray
 Allow:(List ByteArray)
 gJ:(List ByteArray)
 Levels:Bf
def GU (x:Bj):D:=.agg [DK x.Text,Ac x.N,Ac x.Target,Dx x.Thread,DK x.Via,(BL DK) x.Allow,(BL DK) x.gJ,(BL FN) x.Levels.Users,(BL Fp) x.Levels.Kinds,Ac x.Levels.User,Ac x.Levels.Message,Ac x.Levels.State,Ac x.Levels.fG,Ac x.Levels.jR,Ac x.Levels.mZ,Ac x.Levels.gB]
def EL :Bj:=⟨BP,0,0,false,BP,[],[],KX⟩
instance : Inhabited Bj:=⟨EL⟩
structure Nu where
 Server:ByteArray
 Sum:Int
def aVT (x:Nu):D:=.agg [DK x.Server,Ac x.Sum]
def aB :Nu:=⟨BP,0⟩
instance : Inhabited Nu:=⟨aB⟩
structure AL where
 Id:Int
 Room:ByteArray
 aQ:ByteArray
 Kind:Int
 State:Bool
 Key:ByteArray
 Time:Int
 Depth:Int
 aU:(List Int)
 aZ:(List Int)
 Content:Bj
 Hash:Int
 ng:Nu
def BH (x:AL):D:=.agg [Ac x.Id,DK x.Room,DK x.aQ,Ac x.Kind,Dx x.State,DK x.Key,Ac x.Time,Ac x.Depth,(BL Ac) x.aU,(BL Ac) x.aZ,DK x.Content.Text,Ac x.Content.N,Ac x.Content.Target,Dx x.Content.Thread,DK x.Content.Via,(BL DK) x.Content.Allow,(BL DK) x.Content.gJ,(BL FN) x.Content.Levels.Users,(BL Fp) x.Content.Levels.Kinds,Ac x.Content.Levels.User,Ac x.Content.Levels.Message,Ac x.Content.Levels.State,Ac x.Content.Levels.fG,Ac x.Content.Levels.jR,Ac x.Content.Levels.mZ,Ac x.Content.Levels.gB,Ac x.Hash,DK x.ng.Server,Ac x.ng.Sum]
def Bv :AL:=⟨0,BP,BP,0,false,BP,0,0,[],[],EL,0,aB⟩
instance : Inhabited AL:=⟨Bv⟩
structure F9 where
 b_:(List Int)
def Kt (x:F9):D:=.agg [(BL Ew) x.b_]
def aFj :F9:=⟨[]⟩
instance : Inhabited F9:=⟨aFj⟩
structure OZ where
 aAy:Int
 asL:Nat
def V5 (x:OZ):D:=.agg [Ac x.aAy,aTg x.asL]
def ahz :OZ:=⟨0,0⟩
instance : Inhabited OZ:=⟨ahz⟩
structure SA where
 oQ:Int
 ni:Int
def JM (x:SA):D:=.agg [Ac x.oQ,Ac x.ni]
def aFo :SA:=⟨0,0⟩
instance : Inhabited SA:=⟨aFo⟩
structure Ah where
 Kind:Int
 Key:ByteArray
 Id:Int
def BZ (x:Ah):D:=.agg [Ac x.Kind,DK x.Key,Ac x.Id]
def ahx :Ah:=⟨0,BP,0⟩
instance : Inhabited Ah:=⟨ahx⟩
structure jI where
 am9:Int
def akB :jI:=⟨0⟩
instance : Inhabited jI:=⟨akB⟩
structure Vx where
def wu (x:Vx):D:=.agg []
def apy :Vx:=⟨⟩
instance : Inhabited Vx:=⟨apy⟩
structure OY where
 DZ:(List Ah)
 ajJ:(List Int)
 asN:(List Int)
def Zi (x:OY):D:=.agg [(BL BZ) x.DZ,(BL Ac) x.ajJ,(BL Ac) x.asN]
def aEk :OY:=⟨[],[],[]⟩
instance : Inhabited OY:=⟨aEk⟩
structure Qu where
 ni:Int
 IL:Int
 Bh:Int
 asO:(List Int)
def KF (x:Qu):D:=.agg [Ac x.ni,Ac x.IL,Ac x.Bh,(BL Ac) x.asO]
def alG :Qu:=⟨0,0,0,[]⟩
instance : Inhabited Qu:=⟨alG⟩
structure Q5 where
 XA:Int
 XB:ByteArray
def KT (x:Q5):D:=.agg [Ac x.XA,DK x.XB]
def aee :Q5:=⟨0,BP⟩
instance : Inhabited Q5:=⟨aee⟩
structure XI where
 arN:(List Int)
def rM (x:XI):D:=.agg [(BL Ac) x.arN]
def ahS :XI:=⟨[]⟩
instance : Inhabited XI:=⟨ahS⟩
structure KQ where
 ni:Int
 zn:Int
 Bh:Int
def OU (x:KQ):D:=.agg [Ac x.ni,Ac x.zn,Ac x.Bh]
def agC :KQ:=⟨0,0,0⟩
instance : Inhabited KQ:=⟨agC⟩
structure aae where
 Depth:Int
 Id:Int
 Target:Int
def ag0 :aae:=⟨0,0,0⟩
instance : Inhabited aae:=⟨ag0⟩
structure Sz where
 User:ByteArray
 Kind:Int
 Key:ByteArray
 Content:Bj
 Time:Int
def Wu (x:Sz):D:=.agg [DK x.User,Ac x.Kind,DK x.Key,DK x.Content.Text,Ac x.Content.N,Ac x.Content.Target,Dx x.Content.Thread,DK x.Content.Via,(BL DK) x.Content.Allow,(BL DK) x.Content.gJ,(BL FN) x.Content.Levels.Users,(BL Fp) x.Content.Levels.Kinds,Ac x.Content.Levels.User,Ac x.Content.Levels.Message,Ac x.Content.Levels.State,Ac x.Content.Levels.fG,Ac x.Content.Levels.jR,Ac x.Content.Levels.mZ,Ac x.Content.Levels.gB,Ac x.Time]
def aoM :Sz:=⟨BP,0,BP,EL,0⟩
instance : Inhabited Sz:=⟨aoM⟩
structure JU where
 Id:Int
 Before:(List Ah)
 After:(List Ah)
 Err:Int
def fU :JU:=⟨0,[],[],0⟩
instance : Inhabited JU:=⟨fU⟩
structure P9 where
 Same:(List Ah)
 Power:(List Int)
 First:(List Ah)
 Others:(List Int)
 Last:(List Ah)
def kJ :P9:=⟨[],[],[],[],[]⟩
instance : Inhabited P9:=⟨kJ⟩
structure aTA where
 Room:ByteArray
 User:ByteArray
 Time:Int
 Rule:Int
 Visibility:Int
def ad1 :aTA:=⟨BP,BP,0,0,0⟩
instance : Inhabited aTA:=⟨ad1⟩
def amo :D7 Tryz.prog 39 10 10:=DN A8
def aL1 :EM Tryz.prog 30 true 16:=GI A8
def zero30 :(Tryz.prog.info? 30).bind (·.zero)=some (aEn):=A8
def acz :D7 Tryz.prog 39 8 8:=DN A8
def aQC :EM Tryz.prog 35 false 1:=GI A8
def CQ :Tryz.prog.underlying 35=some (.slice 3):=A8
def agw :D7 Tryz.prog 39 9 9:=DN A8
def aq2 :D7 Tryz.prog 30 5 5:=DN A8
def aci :EM Tryz.prog 24 false 1:=GI A8
def Hl :Tryz.prog.underlying 24=some (.slice 9):=A8
def ahZ :D7 Tryz.prog 30 6 6:=DN A8
def akH :D7 Tryz.prog 30 7 7:=DN A8
def agk :D7 Tryz.prog 28 0 0:=DN A8
def aW6 :EM Tryz.prog 25 false 1:=GI A8
def IG :Tryz.prog.underlying 25=some (.slice 108):=A8
def adK :D7 Tryz.prog 28 1 1:=DN A8
def abK :EM Tryz.prog 26 false 1:=GI A8
def Ij :Tryz.prog.underlying 26=some (.slice 111):=A8
def aev :D7 Tryz.prog 39 1 1:=DN A8
def Nr :EM Tryz.prog 9 false 1:=GI A8
def NU :Tryz.prog.underlying 9=some (.string):=A8
def aoP :D7 Tryz.prog 39 2 2:=DN A8
def ah2 :D7 Tryz.prog 39 5 5:=DN A8
def anX :D7 Tryz.prog 30 0 0:=DN A8
def aoN :D7 Tryz.prog 30 4 4:=DN A8
def adA :D7 Tryz.prog 39 12 27:=DN A8
def acA :D7 Tryz.prog 37 0 0:=DN A8
def Ot :EM Tryz.prog 108 true 2:=GI A8
def adR :D7 Tryz.prog 108 0 0:=DN A8
def DL :Tryz.prog.underlying 22=some (.slice 39):=A8
def Dy :EM Tryz.prog 39 true 29:=GI A8
def asF :BD Tryz.prog 44=true:=A8
def uq :Tryz.prog.underlying 159=some (.slice 5):=A8
def U6 :Gw Tryz.prog 159 5 1 1:=NM A8
def aT :(Tryz.prog.info? 5).bind (·.zero)=some (.int .u8 0):=A8
def ZC :Tryz.prog.underlying 3=some (.int .i64):=A8
def aei :Tryz.prog.underlying 214=some (.int .u64):=A8
def aUt :Tryz.prog.underlying 5=some (.int .u8):=A8
def ar8 :BD Tryz.prog 328=true:=A8
def ara :BD Tryz.prog 327=true:=A8
def aqo :BD Tryz.prog 326=true:=A8
def atL :BD Tryz.prog 329=true:=A8
def asP :BD Tryz.prog 251=true:=A8
def amS :D7 Tryz.prog 30 1 1:=DN A8
def Dt :EM Tryz.prog 3 false 1:=GI A8
def aqZ :BD Tryz.prog 252=true:=A8
def acR :D7 Tryz.prog 30 2 2:=DN A8
def aiT :D7 Tryz.prog 30 3 3:=DN A8
def aT2 :EM Tryz.prog 4 false 1:=GI A8
def atY :BD Tryz.prog 253=true:=A8
def arA :BD Tryz.prog 254=true:=A8
def pG :EM Tryz.prog 28 true 9:=GI A8
def abJ :(Tryz.prog.info? 28).bind (·.zero)=some (yt):=A8
def aFz :(Tryz.prog.info? 108).bind (·.zero)=some (aAs):=A8
def afp :D7 Tryz.prog 108 1 1:=DN A8
def Px :EM Tryz.prog 111 true 2:=GI A8
def aTc :(Tryz.prog.info? 111).bind (·.zero)=some (aV1):=A8
def anZ :D7 Tryz.prog 111 0 0:=DN A8
def aBA :EM Tryz.prog 23 false 1:=GI A8
def apI :D7 Tryz.prog 111 1 1:=DN A8
def anY :D7 Tryz.prog 28 2 2:=DN A8
def anH :D7 Tryz.prog 28 3 3:=DN A8
def alp :D7 Tryz.prog 28 4 4:=DN A8
def aby :D7 Tryz.prog 28 5 5:=DN A8
def apY :D7 Tryz.prog 28 6 6:=DN A8
def amw :D7 Tryz.prog 28 7 7:=DN A8
def aiy :D7 Tryz.prog 28 8 8:=DN A8
def aWA :(Tryz.prog.info? 239).bind (·.zero)=some (aEp):=A8
def an2 :Yg Tryz.prog 239 1 (aEp):=pW A8 aWA A8
def aAn :Tryz.prog.underlying 239=some (.array 7 3):=A8
def aRO :EM Tryz.prog 5 false 1:=GI A8
def aqv :BD Tryz.prog 222=true:=A8
def aqm :BD Tryz.prog 221=true:=A8
def aqJ :BD Tryz.prog 158=true:=A8
def asE :BD Tryz.prog 138=true:=A8
def ZV :Gw Tryz.prog 24 9 1 16:=NM A8
def aA2 :Gw Tryz.prog 25 108 2 24:=NM A8
def aJb :Gw Tryz.prog 26 111 2 16:=NM A8
def aqL :BD Tryz.prog 172=true:=A8
def arq :BD Tryz.prog 135=true:=A8
def asG :BD Tryz.prog 136=true:=A8
def as5 :BD Tryz.prog 137=true:=A8
def Qx :(Tryz.prog.info? 39).bind (·.zero)=some (aFW):=A8
def akU :D7 Tryz.prog 39 3 3:=DN A8
def atJ :BD Tryz.prog 76=true:=A8
def aT6 :(Tryz.prog.info? 225).bind (·.zero)=some (aEf):=A8
def aiu :JE Tryz.prog 225 [(0,1)] (aEf):=LZ A8 aT6 A8
def ahY :D7 Tryz.prog 39 0 0:=DN A8
def F7 :Gw Tryz.prog 35 3 1 8:=NM A8
def zero3 :(Tryz.prog.info? 3).bind (·.zero)=some (.int .i64 0):=A8
def ahc :D7 Tryz.prog 225 0 0:=DN A8
def alW :EM Tryz.prog 159 false 1:=GI A8
def aqI :BD Tryz.prog 224=true:=A8
def aqW :BD Tryz.prog 223=true:=A8
def zero9 :(Tryz.prog.info? 9).bind (·.zero)=some (.string BP):=A8
def as4 :BD Tryz.prog 226=true:=A8
def as7 :BD Tryz.prog 225=true:=A8
def aoF :D7 Tryz.prog 39 4 4:=DN A8
def agV :Gw Tryz.prog 286 4 1 1:=NM A8
def qM :(Tryz.prog.info? 4).bind (·.zero)=some (.bool false):=A8
def aVf :Tryz.prog.underlying 286=some (.slice 4):=A8
def asH :BD Tryz.prog 228=true:=A8
def atW :BD Tryz.prog 227=true:=A8
def abz :D7 Tryz.prog 39 6 6:=DN A8
def apn :D7 Tryz.prog 39 7 7:=DN A8
def abl :Gw Tryz.prog 287 35 1 24:=NM A8
def aEG :(Tryz.prog.info? 35).bind (·.zero)=some (.slice none 0 0):=A8
def aWw :Tryz.prog.underlying 287=some (.slice 35):=A8
def asU :BD Tryz.prog 369=true:=A8
def aqd :BD Tryz.prog 315=true:=A8
def asM :BD Tryz.prog 230=true:=A8
def aqj :BD Tryz.prog 229=true:=A8
def ape :D7 Tryz.prog 39 11 26:=DN A8
def amn :D7 Tryz.prog 37 1 1:=DN A8
def arn :BD Tryz.prog 122=true:=A8
def aYw :(Tryz.prog.info? 37).bind (·.zero)=some (aA7):=A8
def amL :JE Tryz.prog 37 [(0,1),(1,1)] (aA7):=LZ A8 aYw A8
def aeU :EM Tryz.prog 37 true 2:=GI A8
def atO :BD Tryz.prog 139=true:=A8
def aqS :BD Tryz.prog 92=true:=A8
def arf :BD Tryz.prog 77=true:=A8
def aq4 :BD Tryz.prog 35=true:=A8
def ar2 :BD Tryz.prog 125=true:=A8
def aor :BD Tryz.prog 126=true:=A8
def ML :Gw Tryz.prog 22 39 29 376:=NM A8
def arS :BD Tryz.prog 64=true:=A8
def at1 :BD Tryz.prog 79=true:=A8
def aqu :BD Tryz.prog 74=true:=A8
def arV :BD Tryz.prog 80=true:=A8
def aqH :BD Tryz.prog 317=true:=A8
def ar1 :BD Tryz.prog 232=true:=A8
def arh :BD Tryz.prog 236=true:=A8
def atX :BD Tryz.prog 233=true:=A8
def adX :BD Tryz.prog 234=true:=A8
def akx :BD Tryz.prog 235=true:=A8
def arH :BD Tryz.prog 140=true:=A8
def aqQ :BD Tryz.prog 141=true:=A8
def asi :BD Tryz.prog 142=true:=A8
def aso :BD Tryz.prog 143=true:=A8
def aqF :BD Tryz.prog 78=true:=A8
def ar6 :BD Tryz.prog 272=true:=A8
def arD :BD Tryz.prog 169=true:=A8
def arU :BD Tryz.prog 170=true:=A8
def as2 :BD Tryz.prog 171=true:=A8
def aqe :BD Tryz.prog 273=true:=A8
def as6 :BD Tryz.prog 274=true:=A8
def asy :BD Tryz.prog 277=true:=A8
def asK :BD Tryz.prog 173=true:=A8
def arB :BD Tryz.prog 275=true:=A8
def arb :BD Tryz.prog 276=true:=A8
def aqk :BD Tryz.prog 174=true:=A8
def aPr :(Tryz.prog.info? 191).bind (·.zero)=some (aE4):=A8
def agu :JE Tryz.prog 191 [(0,1),(1,1)] (aE4):=LZ A8 aPr A8
def an6 :Gw Tryz.prog 192 191 2 16:=NM A8
def aVv :Tryz.prog.underlying 192=some (.slice 191):=A8
def aQl :EM Tryz.prog 191 true 2:=GI A8
def anT :D7 Tryz.prog 191 0 0:=DN A8
def anr :D7 Tryz.prog 191 1 1:=DN A8
def ahL :EM Tryz.prog 137 false 1:=GI A8
def asQ :BD Tryz.prog 181=true:=A8
def agl :BD Tryz.prog 175=true:=A8
def ace :BD Tryz.prog 176=true:=A8
def agp :BD Tryz.prog 177=true:=A8
def ao4 :BD Tryz.prog 178=true:=A8
def afH :BD Tryz.prog 179=true:=A8
def ahW :BD Tryz.prog 180=true:=A8
def atM :BD Tryz.prog 182=true:=A8
def atB :BD Tryz.prog 98=true:=A8
def ah9 :Tryz.prog.underlying 4=some (.bool):=A8
def atC :BD Tryz.prog 101=true:=A8
def aqp :BD Tryz.prog 102=true:=A8
def aqR :BD Tryz.prog 103=true:=A8
def aCp (x y:Hz):Bool:=(x.User.toList==y.User.toList&&(x.N==y.N&&true))
def agA (x y:Hz):eA Tryz.prog 2 108 [.string x.User,.int .i64 x.N] [.string y.User,.int .i64 y.N] (aCp x y):=⟨fun d w=>aAu A8 A8 A8 (l:=[(9,0),(3,1)]) A8 (WW (MJ Nr A8 w) (MJ Nr A8 w) (run_equalIn_string w _ _ _ _ NU)<|WW (MJ Dt A8 w) (MJ Dt A8 w) (ZJ w _ _ .i64 _ _ _ ZC)<|aDb _ _ _ _)⟩
def ajV :Program.eqGuardType Tryz.prog (Program.depth Tryz.prog) 108=false:=A8
def aSv :Tryz.prog.underlying 23=some (.int .i64):=A8
def aEm (x y:J8):Bool:=(x.Kind==y.Kind&&(x.N==y.N&&true))
def ac3 (x y:J8):eA Tryz.prog 2 111 [.int .i64 x.Kind,.int .i64 x.N] [.int .i64 y.Kind,.int .i64 y.N] (aEm x y):=⟨fun d w=>aAu A8 A8 A8 (l:=[(23,0),(3,1)]) A8 (WW (MJ aBA A8 w) (MJ aBA A8 w) (ZJ w _ _ .i64 _ _ _ aSv)<|WW (MJ Dt A8 w) (MJ Dt A8 w) (ZJ w _ _ .i64 _ _ _ ZC)<|aDb _ _ _ _)⟩
def alB :Program.eqGuardType Tryz.prog (Program.depth Tryz.prog) 111=false:=A8
def ar4 :BD Tryz.prog 132=true:=A8
def asV :BD Tryz.prog 133=true:=A8
def aqK :BD Tryz.prog 134=true:=A8
def asD :BD Tryz.prog 46=true:=A8
def aqg :BD Tryz.prog 75=true:=A8
def abV :BD Tryz.prog 30=true:=A8
def Fn2 (x y:Nu):Bool:=(x.Server.toList==y.Server.toList&&(x.Sum==y.Sum&&true))
def agX (x y:Nu):eA Tryz.prog 2 37 [.string x.Server,.int .i64 x.Sum] [.string y.Server,.int .i64 y.Sum] (Fn2 x y):=⟨fun d w=>aAu A8 A8 A8 (l:=[(9,0),(3,1)]) A8 (WW (MJ Nr A8 w) (MJ Nr A8 w) (run_equalIn_string w _ _ _ _ NU)<|WW (MJ Dt A8 w) (MJ Dt A8 w) (ZJ w _ _ .i64 _ _ _ ZC)<|aDb _ _ _ _)⟩
def aeM :Program.eqGuardType Tryz.prog (Program.depth Tryz.prog) 37=false:=A8
def arC :BD Tryz.prog 29=true:=A8
def Qv :Tryz.prog.underlying 172=some (.map 3 3):=A8
def IZ :KeyTy Tryz.prog 3 CP:=ahp ZC
def asr :BD Tryz.prog 153=true:=A8
def ajO :(Tryz.prog.info? 172).bind (·.zero)=some (.map none):=A8
def ajl :EM Tryz.prog 172 false 1:=GI A8
def asW :BD Tryz.prog 311=true:=A8
def atI :BD Tryz.prog 217=true:=A8
def aql :BD Tryz.prog 218=true:=A8
def aGw :Gw Tryz.prog 216 218 2 16:=NM A8
def zx :(Tryz.prog.info? 218).bind (·.zero)=some (zA):=A8
def afz :JE Tryz.prog 218 [(0,1),(1,1)] (zA):=LZ A8 zx A8
def YU :Tryz.prog.underlying 216=some (.slice 218):=A8
def Sv :EM Tryz.prog 218 true 2:=GI A8
def afs :D7 Tryz.prog 218 0 0:=DN A8
def ao7 :D7 Tryz.prog 218 1 1:=DN A8
def acY :JE Tryz.prog 39 [(0,1),(1,1),(2,1),(3,1),(4,1),(5,1),(6,1),(7,1),(8,1),(9,1),(10,16),(26,1),(27,2)] (aFW):=LZ A8 Qx A8
def ZB :Tryz.prog.underlying 51=some (.slice 116):=A8
def QO :EM Tryz.prog 116 true 3:=GI A8
def jZ :(Tryz.prog.info? 116).bind (·.zero)=some (aES):=A8
def aeL :JE Tryz.prog 116 [(0,1),(1,1),(2,1)] (aES):=LZ A8 jZ A8
def ao9 :D7 Tryz.prog 116 0 0:=DN A8
def agE :D7 Tryz.prog 116 1 1:=DN A8
def aqP :BD Tryz.prog 367=true:=A8
def asv :BD Tryz.prog 365=true:=A8
def aik :BD Tryz.prog 366=true:=A8
def adP :BD Tryz.prog 368=true:=A8
def ark :BD Tryz.prog 314=true:=A8
def Oj :Tryz.prog.underlying 52=some (.slice 116):=A8
def adH :D7 Tryz.prog 116 2 2:=DN A8
def VX :Tryz.prog.underlying 129=some (.slice 52):=A8
def sB :EM Tryz.prog 52 false 1:=GI A8
def aqx :BD Tryz.prog 248=true:=A8
def aqb :BD Tryz.prog 243=true:=A8
def aqV :BD Tryz.prog 61=true:=A8
def asb :BD Tryz.prog 62=true:=A8
def Y1 :(Tryz.prog.info? 52).bind (·.zero)=some (.slice none 0 0):=A8
def ak5 :EM Tryz.prog 129 false 1:=GI A8
def asx :BD Tryz.prog 72=true:=A8
def aRu :BD Tryz.prog 131=true:=A8
def asc :BD Tryz.prog 319=true:=A8
def UW :Gw Tryz.prog 52 116 3 32:=NM A8
def nU :BD Tryz.prog 154=true:=A8
def bF :Tryz.prog.underlying 117=some (.map 3 4):=A8
def apm :BD Tryz.prog 374=true:=A8
def aof :BD Tryz.prog 375=true:=A8
def aSp :BD Tryz.prog 322=true:=A8
def ase :BD Tryz.prog 373=true:=A8
def arQ :BD Tryz.prog 244=true:=A8
def at7 :BD Tryz.prog 320=true:=A8
def aqs :BD Tryz.prog 400=true:=A8
def aUr :BD Tryz.prog 376=true:=A8
def arw :BD Tryz.prog 21=true:=A8
def aq9 :BD Tryz.prog 321=true:=A8
def aqn :BD Tryz.prog 323=true:=A8
def qN :BD Tryz.prog 220=true:=A8
def aeu :BD Tryz.prog 414=true:=A8
def arK :BD Tryz.prog 28=true:=A8
def asI :BD Tryz.prog 271=true:=A8
def aqz :BD Tryz.prog 413=true:=A8
def adQ :EM Tryz.prog 22 false 1:=GI A8
def ash :BD Tryz.prog 83=true:=A8
def aUq :(Tryz.prog.info? 165).bind (·.zero)=some (aFp):=A8
def ae4 :JE Tryz.prog 165 [(0,1)] (aFp):=LZ A8 aUq A8
def ada :(match Tryz.prog.underlying 165 with |some (.interface _)=>false|some _=>true|none=>false)=true:=A8
def pI :BD Tryz.prog 85=true:=A8
def U1 :BD Tryz.prog 84=true:=A8
def asu :BD Tryz.prog 147=true:=A8
def ari :BD Tryz.prog 87=true:=A8
def aQO :(Tryz.prog.info? 235).bind (·.zero)=some (aBK):=A8
def afm :Yg Tryz.prog 235 1 (aBK):=pW A8 aQO A8
def af9 :EM Tryz.prog 235 true 5:=GI A8
def aUA :Tryz.prog.underlying 235=some (.array 5 3):=A8
def arz :BD Tryz.prog 149=true:=A8
def aqr :BD Tryz.prog 238=true:=A8
def aqC :BD Tryz.prog 239=true:=A8
def aqf :BD Tryz.prog 240=true:=A8
def atN :BD Tryz.prog 150=true:=A8
def adk :BD Tryz.prog 130=true:=A8
def arE :BD Tryz.prog 68=true:=A8
def asg :BD Tryz.prog 69=true:=A8
def asa :BD Tryz.prog 70=true:=A8
def aeY :JE Tryz.prog 28 [(0,1),(1,1),(2,1),(3,1),(4,1),(5,1),(6,1),(7,1),(8,1)] (yt):=LZ A8 abJ A8
def afv :JE Tryz.prog 108 [(0,1),(1,1)] (aAs):=LZ A8 aFz A8
def aru :BD Tryz.prog 71=true:=A8
def aqE :BD Tryz.prog 23=true:=A8
def aqN :BD Tryz.prog 26=true:=A8
def aoc :BD Tryz.prog 148=true:=A8
def at6 :BD Tryz.prog 81=true:=A8
def atE :BD Tryz.prog 86=true:=A8
def asq :BD Tryz.prog 151=true:=A8
def aYA :EM Tryz.prog 239 true 7:=GI A8
def aSk :BD Tryz.prog 242=true:=A8
def aJg :BD Tryz.prog 241=true:=A8
def aRn :(Tryz.prog.info? 241).bind (·.zero)=some (aBW):=A8
def ahs :Yg Tryz.prog 241 1 (aBW):=pW A8 aRn A8
def aoR :Tryz.prog.underlying 241=some (.array 2 26):=A8
def abC :(Tryz.prog.info? 242).bind (·.zero)=some (aFZ):=A8
def ad9 :Yg Tryz.prog 242 1 (aFZ):=pW A8 abC A8
def abv :Tryz.prog.underlying 242=some (.array 2 25):=A8
def ars :BD Tryz.prog 152=true:=A8
def atS :BD Tryz.prog 88=true:=A8
def adD :BD Tryz.prog 82=true:=A8
def ar0 :BD Tryz.prog 411=true:=A8
def aqw :BD Tryz.prog 33=true:=A8
def aRN :(Tryz.prog.info? 331).bind (·.zero)=some (aBY):=A8
def ang :JE Tryz.prog 331 [] (aBY):=LZ A8 aRN A8
def aiw :(match Tryz.prog.underlying 331 with |some (.interface _)=>false|some _=>true|none=>false)=true:=A8
def arl :BD Tryz.prog 377=true:=A8
def arI :BD Tryz.prog 378=true:=A8
def aq8 :BD Tryz.prog 325=true:=A8
def aUT :BD Tryz.prog 379=true:=A8
def asz :BD Tryz.prog 380=true:=A8
def arR :BD Tryz.prog 270=true:=A8
def aep :Tryz.prog.underlying 148=some (.int .u64):=A8
def asB :BD Tryz.prog 205=true:=A8
def atF :BD Tryz.prog 206=true:=A8
def asj :BD Tryz.prog 121=true:=A8
def ah6 :(Tryz.prog.info? 176).bind (·.zero)=some (aQA):=A8
def asA :BD Tryz.prog 245=true:=A8
def asY :BD Tryz.prog 246=true:=A8
def aU9 :(Tryz.prog.info? 248).bind (·.zero)=some (aFa):=A8
def ajH :JE Tryz.prog 248 [] (aFa):=LZ A8 aU9 A8
def anB :(match Tryz.prog.underlying 248 with |some (.interface _)=>false|some _=>true|none=>false)=true:=A8
def aKS :(Tryz.prog.info? 185).bind (·.zero)=some (aFI):=A8
def aic :JE Tryz.prog 185 [(0,1),(1,1)] (aFI):=LZ A8 aKS A8
def aId :Gw Tryz.prog 186 185 2 24:=NM A8
def arj :BD Tryz.prog 168=true:=A8
def YJ :Tryz.prog.underlying 186=some (.slice 185):=A8
def kR :EM Tryz.prog 185 true 2:=GI A8
def aii :D7 Tryz.prog 185 0 0:=DN A8
def adU :D7 Tryz.prog 185 1 1:=DN A8
def aXr :BD Tryz.prog 364=true:=A8
def aqX :BD Tryz.prog 313=true:=A8
def ard :BD Tryz.prog 434=true:=A8
def aPH :(Tryz.prog.info? 356).bind (·.zero)=some (aF1):=A8
def ae7 :JE Tryz.prog 356 [(0,1),(1,1),(2,1),(3,1)] (aF1):=LZ A8 aPH A8
def aIQ :Gw Tryz.prog 353 356 4 48:=NM A8
def aqy :BD Tryz.prog 432=true:=A8
def Vd :Tryz.prog.underlying 353=some (.slice 356):=A8
def aG :EM Tryz.prog 356 true 4:=GI A8
def aiI :D7 Tryz.prog 356 3 3:=DN A8
def acX :D7 Tryz.prog 356 0 0:=DN A8
def ala :D7 Tryz.prog 356 1 1:=DN A8
def agL :D7 Tryz.prog 356 2 2:=DN A8
def ah0 :BD Tryz.prog 433=true:=A8
def ar7 :BD Tryz.prog 431=true:=A8
def alA :BD Tryz.prog 430=true:=A8
def alL :su Tryz.prog 248 "fedchat/resolve.sort" 430=true:=A8
def asl :BD Tryz.prog 324=true:=A8
def atG :BD Tryz.prog 247=true:=A8
def adW :D7 Tryz.prog 176 1 1:=DN A8
def arv :BD Tryz.prog 249=true:=A8
def arL :BD Tryz.prog 250=true:=A8
def aWF :(Tryz.prog.info? 253).bind (·.zero)=some (aCL):=A8
def al1 :JE Tryz.prog 253 [(0,1)] (aCL):=LZ A8 aWF A8
def amE :(match Tryz.prog.underlying 253 with |some (.interface _)=>false|some _=>true|none=>false)=true:=A8
def aeQ :D7 Tryz.prog 253 0 0:=DN A8
def aqD :BD Tryz.prog 437=true:=A8
def aIl :(Tryz.prog.info? 360).bind (·.zero)=some (aFF):=A8
def acg :JE Tryz.prog 360 [(0,1),(1,1),(2,1)] (aFF):=LZ A8 aIl A8
def aQF :Gw Tryz.prog 358 360 3 24:=NM A8
def arJ :BD Tryz.prog 438=true:=A8
def jT :Tryz.prog.underlying 358=some (.slice 360):=A8
def eX :EM Tryz.prog 360 true 3:=GI A8
def yT (x y:KQ):Bool:=(x.ni==y.ni&&(x.zn==y.zn&&(x.Bh==y.Bh&&true)))
def aeN (x y:KQ):eA Tryz.prog 2 360 [.int .i64 x.ni,.int .i64 x.zn,.int .i64 x.Bh] [.int .i64 y.ni,.int .i64 y.zn,.int .i64 y.Bh] (yT x y):=⟨fun d w=>aAu A8 A8 A8 (l:=[(3,0),(3,1),(3,2)]) A8 (WW (MJ Dt A8 w) (MJ Dt A8 w) (ZJ w _ _ .i64 _ _ _ ZC)<|WW (MJ Dt A8 w) (MJ Dt A8 w) (ZJ w _ _ .i64 _ _ _ ZC)<|WW (MJ Dt A8 w) (MJ Dt A8 w) (ZJ w _ _ .i64 _ _ _ ZC)<|aDb _ _ _ _)⟩
def afi :Program.eqGuardType Tryz.prog (Program.depth Tryz.prog) 360=false:=A8
def aqc :BD Tryz.prog 441=true:=A8
def ald :D7 Tryz.prog 360 0 0:=DN A8
def aqM :BD Tryz.prog 436=true:=A8
def aoV :BD Tryz.prog 435=true:=A8
def anR :su Tryz.prog 253 "fedchat/resolve.sort" 435=true:=A8
def ahI :D7 Tryz.prog 176 0 0:=DN A8
def alC :D7 Tryz.prog 176 2 2:=DN A8
def aaO :EM Tryz.prog 176 true 3:=GI A8
def asf :BD Tryz.prog 157=true:=A8
def aj1 :kU Tryz.prog 176 0 0 false 1=true:=A8
def as8 :BD Tryz.prog 363=true:=A8
def zero22 :(Tryz.prog.info? 22).bind (·.zero)=some (.slice none 0 0):=A8
def arM :BD Tryz.prog 312=true:=A8
def agi :D7 Tryz.prog 103 2 2:=DN A8
def akM :EM Tryz.prog 101 false 1:=GI A8
def tJ :Tryz.prog.underlying 101=some (.map 3 40):=A8
def jm :(Tryz.prog.info? 40).bind (·.zero)=some (.int .i64 0):=A8
def aqB :BD Tryz.prog 24=true:=A8
def ahD :D7 Tryz.prog 103 1 1:=DN A8
def aeS :EM Tryz.prog 100 false 1:=GI A8
def yN :Tryz.prog.underlying 100=some (.map 3 52):=A8
def aAJ :Gw Tryz.prog 129 52 1 24:=NM A8
def arP :BD Tryz.prog 91=true:=A8
def aqO :BD Tryz.prog 219=true:=A8
def ahB :D7 Tryz.prog 103 0 0:=DN A8
def aqa :BD Tryz.prog 42=true:=A8
def atQ :BD Tryz.prog 127=true:=A8
def aQ5 :(Tryz.prog.info? 103).bind (·.zero)=some (zX):=A8
def ab3 :JE Tryz.prog 103 [(0,1),(1,1),(2,1)] (zX):=LZ A8 aQ5 A8
def atP :BD Tryz.prog 128=true:=A8
def asX :BD Tryz.prog 129=true:=A8
def acZ :EM Tryz.prog 97 false 1:=GI A8
def arF :BD Tryz.prog 156=true:=A8
def asT :BD Tryz.prog 155=true:=A8
def atU :BD Tryz.prog 65=true:=A8
def as1 :BD Tryz.prog 90=true:=A8
def arY :BD Tryz.prog 66=true:=A8
def atT :BD Tryz.prog 43=true:=A8
def aXS :(Tryz.prog.info? 91).bind (·.zero)=some (aAr):=A8
def apR :JE Tryz.prog 91 [(0,1),(1,1),(2,1)] (aAr):=LZ A8 aXS A8
def agh :EM Tryz.prog 91 true 3:=GI A8
def abw :D7 Tryz.prog 91 2 2:=DN A8
def apH :D7 Tryz.prog 91 0 0:=DN A8
def acC :D7 Tryz.prog 91 1 1:=DN A8
def acI :JE Tryz.prog 30 [(0,1),(1,1),(2,1),(3,1),(4,1),(5,1),(6,1),(7,9)] (aEn):=LZ A8 zero30 A8
def atD :BD Tryz.prog 31=true:=A8
def aqh :BD Tryz.prog 17=true:=A8
def ai2 :D7 Tryz.prog 32 0 0:=DN A8
def ai1 :D7 Tryz.prog 32 2 2:=DN A8
def aki :D7 Tryz.prog 32 3 3:=DN A8
def arX :BD Tryz.prog 47=true:=A8
def anc :Tryz.prog.underlying 212=some (.int .u32):=A8
def asn :BD Tryz.prog 163=true:=A8
def aqT :BD Tryz.prog 89=true:=A8
def an5 :BD Tryz.prog 167=true:=A8
def as9 :BD Tryz.prog 97=true:=A8
def aqA :BD Tryz.prog 99=true:=A8
def aqt :BD Tryz.prog 34=true:=A8
def arG :BD Tryz.prog 100=true:=A8
def aqY :BD Tryz.prog 45=true:=A8
def arZ :BD Tryz.prog 36=true:=A8
def atK :BD Tryz.prog 12=true:=A8
def asZ :BD Tryz.prog 120=true:=A8
def atA :BD Tryz.prog 119=true:=A8
def asR :BD Tryz.prog 55=true:=A8
def aRa :(Tryz.prog.info? 200).bind (·.zero)=some (aDj):=A8
def ap0 :EM Tryz.prog 200 true 4:=GI A8
def aja :D7 Tryz.prog 200 0 0:=DN A8
def aia :JE Tryz.prog 200 [(0,1),(1,1),(2,1),(3,1)] (aDj):=LZ A8 aRa A8
def af0 :(Tryz.prog.info? 275).bind (·.zero)=some (aRF):=A8
def agO :D7 Tryz.prog 275 0 0:=DN A8
def abj :D7 Tryz.prog 275 1 1:=DN A8
def anE :D7 Tryz.prog 275 2 2:=DN A8
def ahd :D7 Tryz.prog 275 3 3:=DN A8
def ajh :D7 Tryz.prog 275 4 4:=DN A8
def anK :EM Tryz.prog 275 true 5:=GI A8
def ap2 :kU Tryz.prog 275 4 4 false 1=true:=A8
def akP :D7 Tryz.prog 200 3 3:=DN A8
def acd :EM Tryz.prog 40 false 1:=GI A8
def ap1 :D7 Tryz.prog 200 2 2:=DN A8
def alM :D7 Tryz.prog 200 1 1:=DN A8
def atV :BD Tryz.prog 54=true:=A8
def aiV :EM Tryz.prog 32 true 20:=GI A8
def aqi :BD Tryz.prog 10=true:=A8
def aqU :BD Tryz.prog 11=true:=A8
def ajc :D7 Tryz.prog 32 1 1:=DN A8
def afq :D7 Tryz.prog 32 4 19:=DN A8
def ar9 :BD Tryz.prog 14=true:=A8
def arO :BD Tryz.prog 15=true:=A8
def arx :BD Tryz.prog 32=true:=A8
def aYm :(Tryz.prog.info? 131).bind (·.zero)=some (aFK):=A8
def afC :Yg Tryz.prog 131 29 (aFK):=pW A8 aYm A8
def aiG :EM Tryz.prog 131 true 116:=GI A8
def ahh :(Tryz.prog.info? 23).bind (·.zero)=some (.int .i64 0):=A8
def aoZ :D7 Tryz.prog 73 0 0:=DN A8
def acU :D7 Tryz.prog 73 1 1:=DN A8
def aem :D7 Tryz.prog 73 2 2:=DN A8
def anv :D7 Tryz.prog 73 3 3:=DN A8
def ani :D7 Tryz.prog 73 4 4:=DN A8
instance atH :Kn Tryz.prog where
 und:=[(9,.string),(3,.int .i64),(214,.int .u64),(5,.int .u8),(4,.bool),(23,.int .i64),(148,.int .u64),(212,.int .u32)]
 alD:=⟨NU,ZC,aei,aUt,ah9,aSv,aep,anc,trivial⟩
 ty:=[(30,true,16),(35,false,1),(24,false,1),(25,false,1),(26,false,1),(9,false,1),(108,true,2),(39,true,29),(3,false,1),(4,false,1),(28,true,9),(111,true,2),(23,false,1),(5,false,1),(159,false,1),(37,true,2),(191,true,2),(137,false,1),(172,false,1),(218,true,2),(116,true,3),(52,false,1),(129,false,1),(22,false,1),(235,true,5),(239,true,7),(185,true,2),(356,true,4),(360,true,3),(176,true,3),(101,false,1),(100,false,1),(97,false,1),(91,true,3),(200,true,4),(275,true,5),(40,false,1),(32,true,20),(131,true,116)]
 hty:=⟨aL1,aQC,aci,aW6,abK,Nr,Ot,Dy,Dt,aT2,pG,Px,aBA,aRO,alW,aeU,aQl,ahL,ajl,Sv,QO,sB,ak5,adQ,af9,aYA,kR,aG,eX,aaO,akM,aeS,acZ,agh,ap0,anK,acd,aiV,aiG,trivial⟩
 fld:=[((39,10),10),((39,8),8),((39,9),9),((30,5),5),((30,6),6),((30,7),7),((28,0),0),((28,1),1),((39,1),1),((39,2),2),((39,5),5),((30,0),0),((30,4),4),((39,12),27),((37,0),0),((108,0),0),((30,1),1),((30,2),2),((30,3),3),((108,1),1),((111,0),0),((111,1),1),((28,2),2),((28,3),3),((28,4),4),((28,5),5),((28,6),6),((28,7),7),((28,8),8),((39,3),3),((39,0),0),((225,0),0),((39,4),4),((39,6),6),((39,7),7),((39,11),26),((37,1),1),((191,0),0),((191,1),1),((218,0),0),((218,1),1),((116,0),0),((116,1),1),((116,2),2),((185,0),0),((185,1),1),((356,3),3),((356,0),0),((356,1),1),((356,2),2),((176,1),1),((253,0),0),((360,0),0),((176,0),0),((176,2),2),((103,2),2),((103,1),1),((103,0),0),((91,2),2),((91,0),0),((91,1),1),((32,0),0),((32,2),2),((32,3),3),((200,0),0),((275,0),0),((275,1),1),((275,2),2),((275,3),3),((275,4),4),((200,3),3),((200,2),2),((200,1),1),((32,1),1),((32,4),19),((73,0),0),((73,1),1),((73,2),2),((73,3),3),((73,4),4)]
 hfld:=⟨amo,acz,agw,aq2,ahZ,akH,agk,adK,aev,aoP,ah2,anX,aoN,adA,acA,adR,amS,acR,aiT,afp,anZ,apI,anY,anH,alp,aby,apY,amw,aiy,akU,ahY,ahc,aoF,abz,apn,ape,amn,anT,anr,afs,ao7,ao9,agE,adH,aii,adU,aiI,acX,ala,agL,adW,aeQ,ald,ahI,alC,agi,ahD,ahB,abw,apH,acC,ai2,ai1,aki,aja,agO,abj,anE,ahd,ajh,akP,ap1,alM,ajc,afq,aoZ,acU,aem,anv,ani,trivial⟩
 part:=[((176,0),0,false,1),((275,4),4,false,1)]
 hpart:=⟨aj1,ap2,trivial⟩
 zero:=[(30,aEn),(5,.int .u8 0),(28,yt),(108,aAs),(111,aV1),(239,aEp),(39,aFW),(225,aEf),(3,.int .i64 0),(9,.string BP),(4,.bool false),(35,.slice none 0 0),(37,aA7),(191,aE4),(172,.map none),(218,zA),(116,aES),(52,.slice none 0 0),(165,aFp),(235,aBK),(241,aBW),(242,aFZ),(331,aBY),(176,aQA),(248,aFa),(185,aFI),(356,aF1),(253,aCL),(360,aFF),(22,.slice none 0 0),(40,.int .i64 0),(103,zX),(91,aAr),(200,aDj),(275,aRF),(131,aFK),(23,.int .i64 0)]
 hzero:=⟨⟨zero30,A8⟩,⟨aT,A8⟩,⟨abJ,A8⟩,⟨aFz,A8⟩,⟨aTc,A8⟩,⟨aWA,A8⟩,⟨Qx,A8⟩,⟨aT6,A8⟩,⟨zero3,A8⟩,⟨zero9,A8⟩,⟨qM,A8⟩,⟨aEG,A8⟩,⟨aYw,A8⟩,⟨aPr,A8⟩,⟨ajO,A8⟩,⟨zx,A8⟩,⟨jZ,A8⟩,⟨Y1,A8⟩,⟨aUq,A8⟩,⟨aQO,A8⟩,⟨aRn,A8⟩,⟨abC,A8⟩,⟨aRN,A8⟩,⟨ah6,A8⟩,⟨aU9,A8⟩,⟨aKS,A8⟩,⟨aPH,A8⟩,⟨aWF,A8⟩,⟨aIl,A8⟩,⟨zero22,A8⟩,⟨jm,A8⟩,⟨aQ5,A8⟩,⟨aXS,A8⟩,⟨aRa,A8⟩,⟨af0,A8⟩,⟨aYm,A8⟩,⟨ahh,A8⟩,trivial⟩
 st:=[(225,[(0,1)],aEf),(37,[(0,1),(1,1)],aA7),(191,[(0,1),(1,1)],aE4),(218,[(0,1),(1,1)],zA),(39,[(0,1),(1,1),(2,1),(3,1),(4,1),(5,1),(6,1),(7,1),(8,1),(9,1),(10,16),(26,1),(27,2)],aFW),(116,[(0,1),(1,1),(2,1)],aES),(165,[(0,1)],aFp),(28,[(0,1),(1,1),(2,1),(3,1),(4,1),(5,1),(6,1),(7,1),(8,1)],yt),(108,[(0,1),(1,1)],aAs),(331,[],aBY),(248,[],aFa),(185,[(0,1),(1,1)],aFI),(356,[(0,1),(1,1),(2,1),(3,1)],aF1),(253,[(0,1)],aCL),(360,[(0,1),(1,1),(2,1)],aFF),(103,[(0,1),(1,1),(2,1)],zX),(91,[(0,1),(1,1),(2,1)],aAr),(30,[(0,1),(1,1),(2,1),(3,1),(4,1),(5,1),(6,1),(7,9)],aEn),(200,[(0,1),(1,1),(2,1),(3,1)],aDj)]
 hst:=⟨aiu,amL,agu,afz,acY,aeL,ae4,aeY,afv,ang,ajH,aic,ae7,al1,acg,ab3,apR,acI,aia,trivial⟩
 arr:=[(239,1,aEp),(235,1,aBK),(241,1,aBW),(242,1,aFZ),(131,29,aFK)]
 harr:=⟨an2,afm,ahs,ad9,afC,trivial⟩
abbrev MR :=fun x=>BA.arr 5 1 (List.map Ew x)
abbrev wK :=fun x=>BA.arr 9 1 (List.map DK x)
abbrev IJ :=fun x=>BA.arr 39 29 (List.map BH x)
abbrev ED :=fun x=>BA.arr 3 1 (List.map Ac x)
abbrev XH :=fun x=>BA.arr 218 2 (List.map JM x)
abbrev X8 :=fun x=>BA.arr 116 3 (List.map BZ x)
abbrev ZI :=fun x=>BA.arr 360 3 (List.map OU x)
abbrev DW :=fun x=>AV.d (BH x)
abbrev Ap :=fun x=>AV.d (Dx x)
abbrev AY :=fun x=>AV.d (Ac x)
abbrev BQ :=fun x=>AV.d ((BL BH) x)
abbrev Kz :=fun x=>AV.d ((BL Ew) x)
abbrev Dl :=fun x=>AV.d (DK x)
abbrev Jd :=fun x=>AV.d ((BL DK) x)
abbrev Ld :=fun x=>AV.d (GU x)
abbrev Qe :=fun x=>AV.d ((BL FN) x)
abbrev Qr :=fun x=>AV.d ((BL Fp) x)
abbrev NV :=fun x=>AV.d (Gm x)
abbrev CM :=fun x=>AV.d ((BL Ac) x)
abbrev EP :=fun x=>AV.d ((BL BZ) x)
abbrev WO :=fun x=>AV.d (BZ x)
abbrev OW :=fun x=>AV.d ((BL (BL BZ)) x)
abbrev Vf :=fun x=>AV.d ((BL KT) x)
abbrev Ua :=fun x=>AV.d ((BL KF) x)
end Go.Proofs.YtkkdimcnpacjhaaGreat
end
section
namespace Go.Proofs.YtkkdimcnpacjhaaGreat
open Go.RowKit Go.Sort
abbrev bM :Type:={ p:AL×List Value//p.2.length=29∧(∀v∈p.2,v.oneCell'=true)∧p.2[0]? =some (.int .i64 p.1.Id)∧p.2[7]? =some (.int .i64 p.1.Depth) }
instance : Inhabited bM:=⟨⟨(Bv,List.replicate 29 (.int .i64 0)),rfl,fun v hv=>by rw[(List.mem_replicate.1 hv).2];rfl,rfl,rfl⟩⟩
def aWC {ok:Nat→Prop} {w:World} {H:List BO} {cs:List D} {vs:List Value} {i:Nat} {n:Int} (h:Ez ok w H (cs.map .d) vs) (hi:cs[i]? =some (Ac n)):vs[i]? =some (.int .i64 n):=by
 have hl:i<cs.length:=(FP.1 hi).1;have j:i<vs.length:=by rw[h.1,CG];exact hl
 have q:=(h.2 i (by rw[CG];exact hl)).2;simp only[List.getD,JG,hi,Ii,MK,D8 j]at q;rw[D8 j];cases q with |d _ _ h=>rw[Dc.ado h]
def acj {ok:Nat→Prop} {w:World} {H:List BO} {p:AL×List Value} (h:Ez ok w H ((BH p.1).cells.map .d) p.2):p.2.length=29∧(∀v∈p.2,v.oneCell'=true)∧p.2[0]? =some (.int .i64 p.1.Id)∧p.2[7]? =some (.int .i64 p.1.Depth):=
 ⟨h.1,aH2 h,aWC h rfl,aWC h rfl⟩
def ab7 {ok:Nat→Prop} {w:World} {H:List BO}:∀(z:List (AL×List Value)),(∀p∈z,Ez ok w H ((BH p.1).cells.map .d) p.2)→∃y:List bM,y.map (·.1)=z
 | [],_=>⟨[],rfl⟩
 |p::z,h=>by
  obtain⟨y,j⟩:=ab7 z fun q u=>h q (FB _ u);exact⟨⟨p,acj (h p (EU ..))⟩::y,Aq (p:: ·) j⟩
def PS (x:bM):List Value:=x.1.2
def aAH (x:bM):(PS x).length=29:=x.2.1
def adE (x:bM):∀v∈PS x,v.oneCell'=true:=x.2.2.1
def Ee (x:AL):Int×Int:=(x.Depth,x.Id)
def Yt (p q:Int×Int):Int:=if p.1=q.1 then JO p.2 q.2 else JO p.1 q.1
def ad4 (p q:Int×Int):Yt p q<0↔p.1<q.1∨p.1=q.1∧p.2<q.2:=by
 unfold Yt;split
 ·rw[xQ];omega
 rw[xQ];omega
def I4 (p q:Int×Int):Bool:= !decide (Yt q p<0)
def eL (p q:Int×Int):I4 p q=true↔¬(q.1<p.1∨q.1=p.1∧q.2<p.2):=by
 unfold I4;rw[MF,P8,ad4]
def aTb (p q:Int×Int):I4 p q=false↔(q.1<p.1∨q.1=p.1∧q.2<p.2):=by
 rw[←PE,eL,Decidable.not_not]
def aPn (x y z:Int×Int) (h:I4 x y=true) (k:I4 y z=true):I4 x z=true:=by
 rw[eL]at *;omega
def aWD (x y:Int×Int) (h:I4 x y=false):I4 y x=true:=by
 rw[aTb]at h;rw[eL];omega
def aiX (x y:Int×Int) (h:I4 x y=true) (k:I4 y x=true):x=y:=by
 rw[eL]at *;obtain⟨j,q⟩:=x;obtain⟨u,z⟩:=y;simp only[QL]at *;omega
def lt2_trans (x y z:Int×Int) (h:I4 y x=false) (k:I4 z y=false):I4 z x=false:=by
 rw[aTb]at *;omega
section
variable {α : Type}
def aEZ (f:α→Int×Int) (x y:α):ltOf (fun x y=>Yt (f x) (f y)) x y= !I4 (f y) (f x):=by simp[ltOf,I4]
def amC (f:α→Int×Int):SWO (ltOf fun x y:α=>Yt (f x) (f y)):=by
 refine⟨fun x=>?_,fun x y z h k=>?_,fun x y z h k=>?_⟩
 ·rw[aEZ,(eL (f x) (f x)).2 AA];rfl
 ·rw[aEZ,MF]at *;exact lt2_trans _ _ _ h k
 rw[aEZ,Bool.not_eq_false']at *;exact aPn _ _ _ k h
end
def ZU :List (Int×Int)→Bool
 | []=>true
 |x::l=> !l.contains x&&ZU l
def aTB :∀(l:List AL),ZU (l.map Ee)=true→∀x∈l,∀y∈l,Ee x=Ee y→x=y
 | [],_,x,j,_,_,_=>absurd j Ei
 |e::l,h,x,j,y,M,q=>by
  rw[Ip]at h;unfold ZU at h;rw[CW,MF]at h
  have u:Ee e∉l.map Ee:=fun hm=>by
   have :(l.map Ee).contains (Ee e)=true:=by simpa using hm
   rw[this]at h;cases h.1
  rcases EX.1 j with z|I<;>rcases EX.1 M with J|L
  ·rw[z,J]
  ·exact absurd (E5.2 ⟨y,L,by rw[←q,z]⟩) u
  ·exact absurd (E5.2 ⟨x,I,by rw[q,J]⟩) u
  exact aTB l h.2 x I y L q
abbrev AX:=List AL
def ah (l:List AL):Option AX:=if l.length≤34359738368∧ZU (l.map Ee)=true then some (LM (fun x y=>I4 (Ee x) (Ee y)) l)else none
def aoq {l m:List AL} (hd:ZU (l.map Ee)=true) (hp:m.Perm l) (hs:m.Pairwise (fun a b=>I4 (Ee a) (Ee b)=true)):m=LM (fun x y=>I4 (Ee x) (Ee y)) l:=
 (hp.trans (TM _ l).symm).eq_of_pairwise (fun a b ha j q u=>aTB l hd a (hp.mem_iff.1 ha) b ((TM _ l).mem_iff.1 j) (aiX _ _ q u)) hs (aD5 (le:=fun x y=>I4 (Ee x) (Ee y)) (fun x y z=>aPn (Ee x) (Ee y) (Ee z)) (fun x y=>aWD (Ee x) (Ee y)) l)
def aUG {cs:List Value} {i d:Int} (h:cs.length=29) (h0:cs[0]? =some (.int .i64 i)) (h7:cs[7]? =some (.int .i64 d)):∃a1 a2 a3 a4 a5 a6 a8 a9 j q u z I J L M O U Y Z a22 a23 a24 a25 a26 a27 a28:Value,cs=[.int .i64 i,a1,a2,a3,a4,a5,a6,.int .i64 d,a8,a9,j,q,u,z,I,J,L,M,O,U,Y,Z,a22,a23,a24,a25,a26,a27,a28]:=by
 match cs,h,h0,h7 with
 | [a0,a1,a2,a3,a4,a5,a6,a7,a8,a9,j,q,u,z,I,J,L,M,O,U,Y,Z,a22,a23,a24,a25,a26,a27,a28],_,h0,h7=>
   have e0:a0=.int .i64 i:=by simpa using h0
   have e7:a7=.int .i64 d:=CV h7;exact⟨a1,a2,a3,a4,a5,a6,a8,a9,j,q,u,z,I,J,L,M,O,U,Y,Z,a22,a23,a24,a25,a26,a27,a28,by rw[e0,e7]⟩
def aoE {P:Program} {g:FuncId} (hc:∀(r ai ad bi bd:Int) (_:r=if ad=bd then JO ai bi else JO ad bd) (a1 a2 a3 a4 a5 a6 a8 a9 j u z I J L M O U Y Z a21 a22 a23 a24 a25 a26 a27 a28 b1 b2 b3 b4 b5 b6 b8 b9 b10 b11 b12 b13 b14 b15 b16 b17 b18 b19 b20 b21 b22 b23 b24 b25 b26 b27 b28:Value) (W:World),Calls P g #[.agg #[.int .i64 ai,a1,a2,a3,a4,a5,a6,.int .i64 ad,a8,a9,j,u,z,I,J,L,M,O,U,Y,Z,a21,a22,a23,a24,a25,a26,a27,a28],.agg #[.int .i64 bi,b1,b2,b3,b4,b5,b6,.int .i64 bd,b8,b9,b10,b11,b12,b13,b14,b15,b16,b17,b18,b19,b20,b21,b22,b23,b24,b25,b26,b27,b28]] W fun e w'=>e=.returned (.int .i64 r)∧∃q os',w'=grow (W.drewN q) os')
 (blk off size:Nat) (w:World):CmpLays P g #[] PS 29 (fun x y=>Yt (Ee x.1.1) (Ee y.1.1)) blk off size w:=fun m os dk _ x y=>by
 obtain⟨⟨x1,xs⟩,x2,x3,x4,x5⟩:=x;obtain⟨⟨y1,ys⟩,y2,y3,y4,y5⟩:=y;obtain⟨a1,a2,a3,a4,a5,a6,a8,a9,j,u,z,I,J,L,M,O,U,Y,Z,a21,a22,a23,a24,a25,a26,a27,a28,ex⟩:=aUG (cs:=xs) (i:=x1.Id) (d:=x1.Depth) x2 x4 x5;subst ex;obtain⟨b1,b2,b3,b4,b5,b6,b8,b9,b10,b11,b12,b13,b14,b15,b16,b17,b18,b19,b20,b21,b22,b23,b24,b25,b26,b27,b28,ey⟩:=aUG (cs:=ys) (i:=y1.Id) (d:=y1.Depth) y2 y4 y5;subst ey;exact hc _ x1.Id x1.Depth y1.Id y1.Depth rfl a1 a2 a3 a4 a5 a6 a8 a9 j u z I J L M O U Y Z a21 a22 a23 a24 a25 a26 a27 a28 b1 b2 b3 b4 b5 b6 b8 b9 b10 b11 b12 b13 b14 b15 b16 b17 b18 b19 b20 b21 b22 b23 b24 b25 b26 b27 b28 _
open Go.Shelf in
set_option maxHeartbeats 2000000 in
def auN {P:Program} {ρ:Ren} {g:FuncId} {T:TypeId} (aEJ:SlLaysF0.n6 P ρ) (hagg:∀w,(isAgg (ρ.t 24)).run P w=.ok true w) (hsize:∀w,(Go.sizeOf (ρ.t 24)).run P w=.ok 29 w) (eg:∀args w,(callFunc g args).run P w=.ok (.enter g args) w)
 (hcmp:∀blk off size w,CmpLays P g #[] PS 29 (fun x y=>Yt (Ee x.1.1) (Ee y.1.1)) blk off size w) (l r:List AL) (h:ah l=some r):
 Ar P (ρ.f 6) [.bn 0,.d (.fn (.func g) [] [])] [.arr T 29 (l.map BH)] (.eu []) [.arr T 29 (r.map BH)]:=by
 unfold ah at h;split at h
 ·rename_i hnd;obtain⟨hn,hd⟩:=hnd;obtain rfl:=CV h;refine Ar.aAx (k:=29) (e:=BH) (fun x=>rfl) fun ok H v w z z1 z3 Z=>?_;obtain⟨y,hy⟩:=ab7 z z3;have M:y.length=l.length:=by rw[←z1,←hy];simp
  have L:z.flatMap (·.2)=y.flatMap PS:=by rw[←hy,aJF];rfl
  rw[L]at Z;have hlr:(LM (fun x y=>I4 (Ee x) (Ee y)) l).length=l.length:=(TM _ l).length_eq;rcases Z.2 with⟨rfl,h0⟩|⟨b,cap,cur,rfl,hbase,hg,hnc,hcm,hcs,O⟩
  ·have hl:l=[]:=Gf h0;subst hl;refine(AnyF.slices_SortFunc_none aEJ none 0 _ w).mono ?_;rintro e w' ⟨rfl,h⟩;subst h;exact⟨rfl,[],fun p hp=>absurd hp Ei,rfl,lM.nil _ _ _,Turns.refl _ _⟩
  have hgs:b<w.heap.size:=(GX.1 hg).1;have I:=aFY (enc:=PS) aAH y
  have hH:HoldsK PS 29 w b 0 y.toArray:=by
   unfold HoldsK;have U:(flatK PS 29 y.toArray).size=l.length*29:=by simp[M]
   generalize flatK PS 29 y.toArray=F at I U;intro j Y;refine⟨?_,by simp[World.frozen?,hg]⟩;have e0:(cur.toList.take (l.length*29))[j]? =(y.flatMap PS)[j]? :=by rw[O]
   rw[MB AA,←I]at e0;simp only[World.cell?,hg,JJ];simp only[Option.isSome_none,Qm,Jh];rw[←XG,e0,XG,YS F j Y,xW Y];rfl
  have :=AnyQ.slices_SortFunc aEJ 29 hagg hsize PS aAH adE (fun x y=>Yt (Ee x.1.1) (Ee y.1.1)) (amC fun x:bM=>Ee x.1.1) g #[] b 0 cap y.toArray w eg (hcmp _ _ _ _) hH hgs Dh;have hys:y.toArray.size=l.length:=by simp[M]
  rw[hys]at this;refine this.mono ?_;rintro e' w' ⟨rfl,u,n,os,hp,hs,rfl⟩;obtain⟨hsz,_,J⟩:=hp;have q:u.size=l.length:=by simpa[M]using hsz
  have e1:u.extract 0 l.length=u:=by rw[←q];exact aFV
  have e2:y.toArray.extract 0 l.length=y.toArray:=by rw[←hys];exact aFV
  rw[e1,e2]at J;have hpl:u.toList.Perm y:=Rs
  have hm:u.toList.map (fun x=>x.1.1)=LM (fun x y=>I4 (Ee x) (Ee y)) l:=by
   have aGI:y.map (fun x=>x.1.1)=l:=by rw[←z1,←hy,Uh];rfl
   refine aoq hd ((hpl.map _).trans (by rw[aGI])) ?_;rw[Yp];refine IW.2 fun i j hi Y hij=>?_;have :=hs i j (Du _) hij (by simpa[q]using Y);rw[aEZ (fun x:bM=>Ee x.1.1),YS u i G9,YS u j Vl]at this;simpa using this
  refine⟨rfl,u.toList.map (·.1),fun p hp=>?_,by rw[Uh];exact hm,?_⟩
  ·obtain⟨x,hx,rfl⟩:=E5.1 hp;rw[←hy];exact E5.2 ⟨x,hpl.mem_iff.1 hx,rfl⟩
  have hfd:(u.toList.map (·.1)).flatMap (·.2)=u.toList.flatMap PS:=by rw[aJF];rfl
  rw[hfd,hlr];have hF:=aFY (enc:=PS) aAH u.toList;rw[bg]at hF;have U:(flatK PS 29 u).size=l.length*29:=ZM
  generalize hFF:flatK PS 29 u=F at hF U;refine⟨⟨by rw[pF aAH];simp[q],.inr ⟨b,cap,putCells id 0 F cur,rfl,Du _,?_,AA,hcm,by simpa[putCells]using hcs,?_⟩⟩,⟨rfl,rfl,rfl,by simp[sortWorldK,putRowK],fun c hc hne=>?_⟩⟩
  ·unfold sortWorldK putRowK;rw[hFF,heap_grow_old _ _ (by simpa using hgs)];simp[putRow,mapBlock,Sort.ahead,Nh,hg,onCells]
  ·rw[←hF];apply aX;intro j;by_cases Y:j<l.length*29
   ·have hjc:j<cur.size:=by have :=Jl 29 hnc;omega
    rw[MB Y,XG,XG];have hjF:j<F.size:=AA
    simp[putCells,hjF,hjc]
   rw[aQr AA,Ib Dh]
  unfold sortWorldK putRowK;rw[heap_grow_old _ _ aEC];have :b≠c:=fun e=>hne lV;simp[putRow,mapBlock,Sort.ahead,Nh,this]
 cases h
end Go.Proofs.YtkkdimcnpacjhaaGreat
end
section
namespace Go.Proofs
open Go.Proofs.YtkkdimcnpacjhaaGreat
open Go.Shelf
def Tryz.agj:Go.Shelf.Ren:=⟨fun |6=>163|15=>124|14=>269|28=>215|29=>216|20=>336|21=>337|22=>338|23=>339|24=>340|25=>341|26=>342|27=>343|46=>382|47=>307|48=>308|49=>383|50=>384|57=>403|n=>n,fun |22=>22|24=>39|25=>182|3=>3|39=>148|0=>0|53=>212|55=>214|4=>4|46=>206|45=>205|50=>47|5=>5|9=>9|66=>279|70=>283|76=>305|77=>306|n=>n,fun |n=>n⟩
def Tryz.azf:SlLaysF0.n6 Tryz.prog Tryz.agj:={
 mixed:=A8
 f6:=⟨Tryz.f163.name,BK,Tryz.func163.trans (Aq some A8)⟩
 f14:=⟨Tryz.f269.name,BK,Tryz.func269.trans (Aq some A8)⟩
 f15:=Tryz.func124.trans (Aq some A8)
 f20:=⟨Tryz.f336.name,BK,Tryz.func336.trans (Aq some A8)⟩
 f21:=⟨Tryz.f337.name,BK,Tryz.func337.trans (Aq some A8)⟩
 f22:=⟨Tryz.f338.name,BK,Tryz.func338.trans (Aq some A8)⟩
 f23:=⟨Tryz.f339.name,BK,Tryz.func339.trans (Aq some A8)⟩
 f24:=⟨Tryz.f340.name,BK,Tryz.func340.trans (Aq some A8)⟩
 f25:=⟨Tryz.f341.name,BK,Tryz.func341.trans (Aq some A8)⟩
 f26:=⟨Tryz.f342.name,BK,Tryz.func342.trans (Aq some A8)⟩
 f27:=⟨Tryz.f343.name,BK,Tryz.func343.trans (Aq some A8)⟩
 f28:=Tryz.func215.trans (Aq some A8)
 f29:=Tryz.func216.trans (Aq some A8)
 f46:=⟨Tryz.f382.name,BK,Tryz.func382.trans (Aq some A8)⟩
 f47:=Tryz.func307.trans (Aq some A8)
 f48:=Tryz.func308.trans (Aq some A8)
 f49:=⟨Tryz.f383.name,BK,Tryz.func383.trans (Aq some A8)⟩
 f50:=⟨Tryz.f384.name,BK,Tryz.func384.trans (Aq some A8)⟩
 f57:=⟨Tryz.f403.name,BK,Tryz.func403.trans (Aq some A8)⟩
 t0:=aBG
 a0:=Tryz.isAgg0
 z0:=Tryz.sizeOf0
 v0:=aDD
 t3:=FX
 a3:=eB
 z3:=jU
 v3:=eI
 t4:=Tv
 a4:=sH
 z4:=ou
 v4:=sQ
 t5:=xK
 a5:=vH
 z5:=yE
 v5:=tY
 t9:=Ir
 a9:=yG
 z9:=sW
 v9:=xk
 t22:=Xf
 a22:=Tryz.isAgg22
 z22:=Tryz.sizeOf22
 v22:=Tryz.zeroValue22
 t25:=Tryz.underlying182
 a25:=Tryz.isAgg182
 z25:=Tryz.sizeOf182
 v25:=Tryz.zeroValue182
 t39:=aDQ
 a39:=Tryz.isAgg148
 z39:=aBO
 v39:=aBx
 t45:=Tryz.underlying205
 a45:=Tryz.isAgg205
 z45:=Tryz.sizeOf205
 v45:=Tryz.zeroValue205
 t46:=Tryz.underlying206
 a46:=Tryz.isAgg206
 z46:=Tryz.sizeOf206
 v46:=Tryz.zeroValue206
 t50:=Tryz.underlying47
 a50:=Tryz.isAgg47
 z50:=Tryz.sizeOf47
 v50:=Tryz.zeroValue47
 t53:=aCJ
 a53:=Tryz.isAgg212
 z53:=aC6
 v53:=aF8
 t55:=Tryz.underlying214
 a55:=Tryz.isAgg214
 z55:=Tryz.sizeOf214
 v55:=Tryz.zeroValue214
 t66:=Tryz.underlying279
 a66:=Tryz.isAgg279
 z66:=Tryz.sizeOf279
 v66:=Tryz.zeroValue279
 t70:=Tryz.underlying283
 a70:=Tryz.isAgg283
 z70:=Tryz.sizeOf283
 v70:=Tryz.zeroValue283
 t76:=Tryz.underlying305
 a76:=Tryz.isAgg305
 z76:=Tryz.sizeOf305
 v76:=Tryz.zeroValue305
 t77:=Tryz.underlying306
 a77:=Tryz.isAgg306
 z77:=Tryz.sizeOf306
 v77:=Tryz.zeroValue306 }
end Go.Proofs
end
section
namespace Go.Proofs.YtkkdimcnpacjhaaGreat
open Go.RowKit Go.Sort
def ami (a:Int) (W:World):Calls Tryz.prog 270 #[.int .i64 a] W fun e w'=>e=.returned (.bool false)∧w'=W:=by
 go_enter Tryz.func270,Tryz.ntmps270
 go_wp2
 all_goals (go_ret;exact⟨BF,rfl⟩)
def alX (a b:Int) (W:World):Calls Tryz.prog 166 #[.int .i64 a,.int .i64 b] W fun e w'=>e=.returned (.int .i64 (JO a b))∧w'=W:=by
 unfold JO
 go_enter Tryz.func166,Tryz.ntmps166
 go_wp2_with (go_at_call 270;refine(ami _ _).mono ?_;rintro e w' ⟨rfl,rfl⟩)
 all_goals (go_ret;exact⟨rfl,rfl⟩)
def aq1 (r x y:Int) (j:r=if x=0 then y else x) (b c:Nat) (W:World) (J:W.cell? ⟨b,0,none⟩=some (.int .i64 x)) (L:W.cell? ⟨b,1,none⟩=some (.int .i64 y)):Calls Tryz.prog 165 #[.slice (some ⟨b,0,none⟩) 2 c] W fun e w'=>e=.returned (.int .i64 r)∧w'=W:=by
 have q:x≠0→x=r:=fun h=>by rw[j,CY h]
 have u:x=0→y=r:=fun h=>by rw[j,CS h]
 clear j
 go_enter Tryz.func165,Tryz.ntmps165
 go_wp2
 refine wp_loop_rounds 3 ?_;rw[rounds_succ]
 go_wp2
 ·rename_i h
  go_ret
  exact⟨by rw[q JZ];rfl,rfl⟩
 rename_i h;have M:=u JZ;rw[rounds_succ]
 go_wp2
 ·go_ret
  exact⟨rfl,rfl⟩
 rename_i z;rw[rounds_succ]
 go_wp2
 go_ret
 have I:r=0:=Me
 subst I;exact⟨rfl,rfl⟩
set_option maxRecDepth 100000 in
set_option maxHeartbeats 1000000 in
def ak3 (r ai ad bi bd:Int) (hr:r=if ad=bd then JO ai bi else JO ad bd) (a1 a2 a3 a4 a5 a6 a8 a9 a10 a11 a12 a13 a14 a15 a16 a17 a18 a19 a20 a21 a22 a23 a24 a25 a26 a27 a28 b1 b2 b3 b4 b5 b6 b8 b9 b10 b11 b12 b13 b14 b15 b16 b17 b18 b19 b20 b21 b22 b23 b24 b25 b26 b27 b28:Value) (W:World):Calls Tryz.prog 164 #[.agg #[.int .i64 ai,a1,a2,a3,a4,a5,a6,.int .i64 ad,a8,a9,a10,a11,a12,a13,a14,a15,a16,a17,a18,a19,a20,a21,a22,a23,a24,a25,a26,a27,a28],.agg #[.int .i64 bi,b1,b2,b3,b4,b5,b6,.int .i64 bd,b8,b9,b10,b11,b12,b13,b14,b15,b16,b17,b18,b19,b20,b21,b22,b23,b24,b25,b26,b27,b28]] W fun e w'=>e=.returned (.int .i64 r)∧∃q os',w'=grow (W.drewN q) os':=by
 generalize hA:(#[.int .i64 ai,a1,a2,a3,a4,a5,a6,.int .i64 ad,a8,a9,a10,a11,a12,a13,a14,a15,a16,a17,a18,a19,a20,a21,a22,a23,a24,a25,a26,a27,a28]:Array Value)=A;generalize hB:(#[.int .i64 bi,b1,b2,b3,b4,b5,b6,.int .i64 bd,b8,b9,b10,b11,b12,b13,b14,b15,b16,b17,b18,b19,b20,b21,b22,b23,b24,b25,b26,b27,b28]:Array Value)=B;have z:A[0]? =some (.int .i64 ai):=by rw[←hA];rfl
 have I:A[7]? =some (.int .i64 ad):=by rw[←hA];rfl
 have J:B[0]? =some (.int .i64 bi):=by rw[←hB];rfl
 have L:B[7]? =some (.int .i64 bd):=by rw[←hB];rfl
 have hAs:A.size=29:=by rw[←hA];rfl
 have hBs:B.size=29:=by rw[←hB];rfl
 clear hA hB
 have M:r=if JO ad bd=0 then JO ai bi else JO ad bd:=by
  rw[hr];unfold JO;by_cases h1:ad<bd
  ·rw[CS h1,CY AA];simp
  by_cases h2:ad>bd
  ·rw[CY h1,CS h2,CY AA];simp
  rw[CY h1,CY h2,CS AA];simp
 have j:=alX;clear hr;generalize JO=cm at j M;have ca:=aKX W A 39;have cb:=aKX (W.alloc (.cells A 39)) B 39;have O:(W.alloc (.cells A 39)).heap.size=W.heap.size+1:=BF
 have u:∀k,((W.alloc (.cells A 39)).alloc (.cells B 39)).cell? ⟨W.heap.size,k,none⟩=A[k]? :=fun k=>by rw[aMR _ _ _ (by rw[O];exact WC _)];exact ca k
 rw[O]at cb;have U:=(u 0).trans z;have Y:=(u 7).trans I;have Z:=(cb 0).trans J;have fb7:=(cb 7).trans L;have hg:∃os,(W.alloc (.cells A 39)).alloc (.cells B 39)=grow W os:=⟨_,by rw[alloc_eq_grow,alloc_eq_grow,grow_grow]⟩
 have hs2:((W.alloc (.cells A 39)).alloc (.cells B 39)).heap.size=W.heap.size+2:=BF
 clear ca cb u z I J L
 go_enter Tryz.func164,Tryz.ntmps164
 go_wp2
 generalize(W.alloc (.cells A 39)).alloc (.cells B 39)=w1 at U Y Z fb7 hg hs2 ⊢;refine wp_region_still_tail 10 A8 A8 ?_;simp only[List.take_succ_cons,vw,List.drop_succ_cons,gU]
 repeat still_step
 still_call (j _ _ _)
 repeat still_step
 still_call (j _ _ _)
 refine wpStill_nil ?_
 change wpList _ _ _ _ _ w1.drew
 have hg2:∃os,w1.drew=grow (W.drewN 1) os:=by
  obtain⟨os,rfl⟩:=hg;exact⟨os,rfl⟩
 generalize w1.drew=w2 at hg2 ⊢;have hc:=aKX w2 #[.int .i64 (cm ad bd),.int .i64 (cm ai bi)] 3;have hc0:=hc 0;have hc1:=hc 1;clear hc U Y Z fb7 hg hs2 j;simp only[List.getElem?_toArray]at hc0 hc1
 go_wp2_with (go_at_call 165;refine(aq1 r _ _ M _ _ _ hc0 hc1).mono ?_;rintro e w' ⟨rfl,rfl⟩)
 all_goals (go_ret;obtain⟨os,rfl⟩:=hg2;exact⟨rfl,1,_,by rw[alloc_eq_grow,grow_grow]⟩)
def ac2 (l r:List AL) (h:ah l=some r):
 BI 163 [.bn 0,.d (.fn (.func 164) [] [])] [.arr 39 29 (l.map BH)] (.eu []) [.arr 39 29 (r.map BH)]:=
 auN (ρ:=Tryz.agj) Tryz.azf Tryz.isAgg39 Tryz.sizeOf39 (enters_of Tryz.func164 A8 rfl) (aoE fun r j ad bi q u=>ak3 r j ad bi q u) l r h
end Go.Proofs.YtkkdimcnpacjhaaGreat
end
section
namespace Go.Proofs.YtkkdimcnpacjhaaGreat
open Go.RowKit
set_option maxRecDepth 20000
set_option maxHeartbeats 4000000
def aHE (j:AL) (u:(Int→Option Bool)):Int→Option Bool:=fun q=>(bif decide (q<(j.Content.Levels.Users.length:Int))then(Af j.Content.Levels.Users q).bind fun z=>(bif decide ((z.User.size:Int)>2000)then some true else u (Ai (q+1)))else some false)
def aJC (j:AL):Int→Option Bool:=bI (aHE j) Ag
def aMr (j:AL) (u:(Int→Option Bool)):Int→Option Bool:=fun q=>(bif decide (q<(j.Content.gJ.length:Int))then(Af j.Content.gJ q).bind fun z=>(bif decide ((z.size:Int)>2000)then some true else u (Ai (q+1)))else aJC j 0)
def aIg (j:AL):Int→Option Bool:=bI (aMr j) Ag
def aGB (j:AL) (u:(Int→Option Bool)):Int→Option Bool:=fun q=>(bif decide (q<(j.Content.Allow.length:Int))then(Af j.Content.Allow q).bind fun z=>(bif decide ((z.size:Int)>2000)then some true else u (Ai (q+1)))else aIg j 0)
def aUE (j:AL):Int→Option Bool:=bI (aGB j) Ag
def sU (j:AL):Option Bool:=(bif decide ((j.aU.length:Int)>40)then some true else some (decide ((j.aZ.length:Int)>40))).bind fun L=>(bif L then some true else some (decide ((j.Content.Allow.length:Int)>40))).bind fun M=>(bif M then some true else some (decide ((j.Content.gJ.length:Int)>40))).bind fun O=>(bif O then some true else some (decide ((j.Content.Levels.Users.length:Int)>40))).bind fun U=>(bif U then some true else some (decide ((j.Content.Levels.Kinds.length:Int)>40))).bind fun Y=>(bif Y then some true else(bif decide ((j.Room.size:Int)>2000)then some true else some (decide ((j.aQ.size:Int)>2000))).bind fun q=>(bif q then some true else some (decide ((j.Key.size:Int)>2000))).bind fun u=>(bif u then some true else some (decide ((j.Content.Text.size:Int)>2000))).bind fun z=>(bif z then some true else some (decide ((j.Content.Via.size:Int)>2000))).bind fun I=>(bif I then some true else some (decide ((j.ng.Server.size:Int)>2000))).bind fun J=>(bif J then some true else aUE j 0))
def aQo (bG r) (h:sU bG=some r):BI 44 [DW bG] [] (Ap r) []:=Ar.aN Tryz.func44 rfl<|AZ<|AZ<|Ad<|AP<|.a 2<|.p (BR Ac bG.aU CQ rfl)<|.a 1<|AU h fun x1 hx1 h=>.mg 13 5 (Ap x1) (.bi hx1 (k2:=fun h=>.a 2<|.p (BR Ac bG.aZ CQ rfl)<|.aW<|EK))<|.a 1<|AU h fun x3 hx3 h=>.mg 20 4 (Ap x3) (DX hx3 (k2:=fun e i=>by subst e;have h:=i;exact .a 2<|.p (BR DK bG.Content.Allow Hl rfl)<|.aW<|EK))<|.a 1<|AU h fun x5 hx5 h=>.mg 26 4 (Ap x5) (DX hx5 (k2:=fun e i=>by subst e;have h:=i;exact .a 2<|.p (BR DK bG.Content.gJ Hl rfl)<|.aW<|EK))<|.a 1<|AU h fun x7 hx7 h=>.mg 32 5 (Ap x7) (DX hx7 (k2:=fun e i=>by subst e;have h:=i;exact .a 3<|.p (BR FN bG.Content.Levels.Users IG rfl)<|.aW<|EK))<|.a 1<|AU h fun x9 Aa h=>.mg 39 5 (Ap x9) (DX Aa (k2:=fun e i=>by subst e;have h:=i;exact .a 3<|.p (BR Fp bG.Content.Levels.Kinds Ij rfl)<|.aW<|EK))<|.bU<|BN h CZ fun h=>Ad<|AP<|.a 4<|AU h fun x12 j h=>.mg 49 5 (Ap x12) (.bi j)<|.a 1<|AU h fun x14 q h=>.mg 56 4 (Ap x14) (DX q)<|.a 1<|AU h fun x16 u h=>.mg 62 4 (Ap x16) (DX u)<|.a 1<|AU h fun x18 z h=>.mg 68 4 (Ap x18) (DX z)<|.a 1<|AU h fun La I h=>.mg 74 5 (Ap La) (DX I)<|.bU<|BN h CZ fun h=>Ad<|AZ<|AQ.block<|Fl (fun J=>⟨BM 125 [(3,.ptr 0 0),(4,AY J)],[.box (BG (GU bG.Content))],0⟩) _ _ _ (Ae 125 24 [(1,true)]) h<|fun J40 k24 L J h=>Ad<|AP<|.a 3<|.p (BR DK bG.Content.Allow Hl rfl)<|.aW<|CU h (fun h=>Ad<|AQ.block<|AU h fun WI M h=>AP<|.a 3<|.p (Bc DK M Hl Nr rfl)<|.aW<|BN h CZ fun h=>BJ<|.a 3<|.nil<|L _ _ (Ae 125 24 [(0,true)]) h) fun h=>AQ.exit<|Ad<|AZ<|AQ.block<|Fl (fun O=>⟨BM 125 [(3,.ptr 0 0),(5,AY O)],[.box (BG (GU bG.Content))],0⟩) _ _ _ (Ae 125 40 [(0,true)]) h<|fun J39 k29 U O h=>Ad<|AP<|.a 3<|.p (BR DK bG.Content.gJ Hl rfl)<|.aW<|CU h (fun h=>Ad<|AQ.block<|AU h fun x31 Y h=>AP<|.a 3<|.p (Bc DK Y Hl Nr rfl)<|.aW<|BN h CZ fun h=>BJ<|.a 3<|.nil<|U _ _ (Ae 125 40 [(0,true)]) h) fun h=>AQ.exit<|Ad<|AZ<|AQ.block<|Fl (fun Z=>⟨BM 125 [(3,.ptr 0 0),(6,AY Z)],[.box (BG (GU bG.Content))],0⟩) _ _ _ (Ae 125 72 [(0,true)]) h<|fun J38 k34 aBg Z h=>Ad<|AP<|.a 4<|.p (BR FN bG.Content.Levels.Users IG rfl)<|.aW<|CU h (fun h=>Ad<|AQ.block<|AU h fun x36 alP h=>AP<|.a 4<|.p (Bc FN alP IG Ot rfl)<|.aW<|BN h CZ fun h=>BJ<|.a 3<|.nil<|aBg _ _ (Ae 125 72 [(0,true)]) h) fun h=>I8
def aKW (j:AX) (u:(Int→Option Bool)):Int→Option Bool:=fun q=>(bif decide (q<(j.length:Int))then(Af j q).bind fun z=>(sU z).bind fun I=>(bif I then some true else u (Ai (q+1)))else some false)
def aV6 (j:AX):Int→Option Bool:=bI (aKW j) Ag
def aEb (j:AX) (q:Int):Option Bool:=(bif decide ((j.length:Int)>q)then some true else aV6 j 0)
def akS (aA oC r) (h:aEb aA oC=some r):BI 17 [BQ aA,AY oC] [] (Ap r) []:=Ar.aN Tryz.func17 rfl<|AZ<|Ad<|AP<|.a 1<|.p (BR BH aA DL rfl)<|.aW<|BN h CZ fun h=>Ad<|AZ<|AQ.block<|Fl (fun z=>⟨BM 21 [(0,BQ aA),(5,AY z)],[],0⟩) _ _ _ (Ae 21 33 []) h<|fun L M j z h=>Ad<|AP<|.a 2<|.p (BR BH aA DL rfl)<|.aW<|CU h (fun h=>Ad<|AQ.block<|Df h fun I q J u h=>AP<|.a 2<|.p (Bc BH q DL Dy rfl)<|.a 1<|.ca (aQo I J u)<|.bU<|BN h CZ fun h=>BJ<|.a 3<|.nil<|j _ _ (Ae 21 33 []) h) fun h=>I8
def Xj (j:AB) (q:Int):Option AB:=(Ia 1 0 (j.length:Int) (Ai ((j.length:Int)+q))).bind fun u=>some (gCopy u j)
def uz (kM awh r) (h:Xj kM awh=some r):BI 327 [Kz kM,AY awh] [] (.bn 0) [(MR r)]:=Ar.aN Tryz.func327 rfl<|AP<|.f (DV 5 1 rfl)<|.bU<|AU h fun q j h=>AP<|.a 1<|.p (BR Ew kM uq rfl)<|.a 1<|.p (BR Ew kM uq rfl)<|.a 2<|.f (WE Ew 0 j U6 aT A8 A8 A8 BK rfl)<|.aW<|AP<|.a 2<|.f (aVD (k:=1) Ew q kM U6 A8 (fun _=>rfl) rfl)<|.bU<|AZ<|Xt
def Vk  (u:(AB→Int→Option AB)):AB→Int→Option AB:=fun q j=>(bif decide (j≥128)then(C9 1 q [ET .or .u8 (IntKind.u8.wrap j) 128]).bind fun z=>(Ox .shr .u64 j 7).bind fun I=>u z I else(C9 1 q [IntKind.u8.wrap j]).bind fun J=>some J)
def aRi  :AB→Int→Option AB:=aV (Vk) Ag
def aA3 (j:AB) (q:Int):Option AB:=aRi j q
def Y9 (j:AB) (q:Int):Option AB:=(Ox .shl .u64 (IntKind.u64.wrap q) 1).bind fun u=>(bif decide (q<0)then aA3 j (jX .u64 u)else aA3 j u)
def oK (kM oC r) (h:Y9 kM oC=some r):BI 328 [.bn 0,AY oC] [(MR kM)] (.bn 1) [.dead,(MR r)]:=Ar.aN Tryz.func328 rfl<|AP<|.f (DV 5 1 rfl)<|.bU<|AU h fun z I h=>AP<|.a 2<|.p (aGo (k:=.u64) (k':=.u64) I rfl)<|.aW<|Dv (fun s=>∃(J:Int),CX s ⟨BM 28 [(0,.bn 1),(5,.d ((aI1 .u64) J))],[.dead,(MR kM)],1⟩∧aA3 kM J=some r) (by rintro s ⟨J,hs,h⟩;exact DI hs<|Ad<|AQ.block<|Em (fun Y j=>⟨BM 28 [(0,.bn 1),(5,.d ((aI1 .u64) j))],[.dead,(MR Y)],1⟩) _ _ _ _ (Ae 28 33 [(0,false),(1,true)]) h<|fun Z k5 L Y j h=>Ad<|AZ<|CU h (fun h=>AQ.block<|AU h fun x7 M h=>AP<|.a 3<|.p (Wp (k:=.u8) (u:=(IntKind.u8.wrap j)) (v:=128) rfl)<|.p (F6 U6 aT [Ew (ET .or .u8 (IntKind.u8.wrap j) 128)] rfl)<|.f (FI (k:=1) Ew M U6 A8 (fun _=>rfl) BK rfl)<|.aW<|AU h fun x8 O h=>BJ<|.a 1<|.p (aXc (k:=.u64) (k':=.u64) O rfl)<|.a 1<|.nil<|L _ _ _ (Ae 28 33 [(0,false),(2,true)]) h) fun h=>AQ.exit<|AU h fun x9 U h=>AP<|.a 3<|.p (F6 U6 aT [Ew (IntKind.u8.wrap j)] rfl)<|.f (FI (k:=1) Ew U U6 A8 (fun _=>rfl) BK rfl)<|.aW<|by cases h;exact .ret (FW [(0,false),(2,true)]))<|fun q=>AZ<|BN h (fun h=>BJ<|.a 1<|.p (abf (k:=.u64) (u:=z) rfl)<|.a 1<|.nil<|q _ ⟨(jX .u64 z),Ae 28 33 [(0,false),(0,true)],h⟩) fun h=>q _ ⟨z,Ae 28 33 [(0,false),(0,true)],h⟩
def ql (q:AB) (j:ByteArray):Option AB:=(Y9 q (j.size:Int)).bind fun u=>(C9 1 u (BX j)).bind fun z=>some z
def aXJ (kM iE r) (h:ql kM iE=some r):BI 326 [.bn 0,Dl iE] [(MR kM)] (.bn 1) [.dead,(MR r)]:=Ar.aN Tryz.func326 rfl<|AP<|.f (DV 5 1 rfl)<|.bU<|Df h fun u j z q h=>AP<|.a 3<|.f (x:=.bn 2) (EZ [.ent 0] [.bn 0,AY (iE.size:Int)] (oK kM (iE.size:Int) u j) rfl)<|.a 1<|.f (aj0 (k:=2) q U6 aT NU A8 rfl)<|.aW<|by cases h;exact .ret (FW [(0,false),(3,true)])
def SE (q:AB) (j:ByteArray):Option AB:=(Xj q (Ai ((j.size:Int)+10))).bind fun u=>(ql u j).bind fun z=>some z
def aCC (kM iE r) (h:SE kM iE=some r):BI 251 [Kz kM,Dl iE] [] (.bn 0) [(MR r)]:=Ar.aN Tryz.func251 rfl<|AP<|.f (DV 5 1 rfl)<|.bU<|Df h fun u j z q h=>AP<|.a 4<|.f (x:=.bn 1) (TL [Kz kM,AY (Ai ((iE.size:Int)+10))] (uz kM (Ai ((iE.size:Int)+10)) u j) rfl)<|.a 1<|.f (x:=.bn 2) (EZ [.ent 1] [.bn 1,Dl iE] (aXJ u iE z q) rfl)<|.aW<|OJ
def NT (j:AB) (q:Int):Option AB:=(Xj j 10).bind fun u=>(Y9 u q).bind fun z=>some z
def X3 (kM oC r) (h:NT kM oC=some r):BI 252 [Kz kM,AY oC] [] (.bn 0) [(MR r)]:=Ar.aN Tryz.func252 rfl<|AP<|.f (DV 5 1 rfl)<|.bU<|Df h fun u j z q h=>AP<|.a 1<|.f (x:=.bn 1) (TL [Kz kM,AY 10] (uz kM 10 u j) rfl)<|.a 1<|.f (x:=.bn 2) (EZ [.ent 1] [.bn 1,AY oC] (oK u oC z q) rfl)<|.aW<|OJ
def Yb (q:AB) (j:Bool):Option AB:=(Xj q 1).bind fun u=>(bif j then(C9 1 u [1]).bind fun z=>some z else(C9 1 u [0]).bind fun I=>some I)
def aQq (kM XE r) (h:Yb kM XE=some r):BI 253 [Kz kM,Ap XE] [] (.bn 0) [(MR r)]:=Ar.aN Tryz.func253 rfl<|AP<|.f (DV 5 1 rfl)<|.bU<|AU h fun z j h=>AP<|.a 1<|.f (x:=.bn 1) (TL [Kz kM,AY 1] (uz kM 1 z j) rfl)<|.aW<|Ad<|AZ<|BN h (fun h=>AU h fun I q h=>AP<|.a 1<|.p (F6 U6 aT [Ew 1] rfl)<|.f (FI (k:=1) Ew q U6 A8 (fun _=>rfl) BK rfl)<|.aW<|OJ) fun h=>AU h fun J u h=>AP<|.a 1<|.p (F6 U6 aT [Ew 0] rfl)<|.f (FI (k:=1) Ew u U6 A8 (fun _=>rfl) BK rfl)<|.aW<|OJ
abbrev Fe:=List ByteArray
def aNt (j:Fe) (z:(AB→Int→Option AB)):AB→Int→Option AB:=fun u q=>(bif decide (q<(j.length:Int))then(Af j q).bind fun I=>(ql u I).bind fun J=>z J (Ai (q+1))else some u)
def aQz (j:Fe):AB→Int→Option AB:=aV (aNt j) Ag
def aDd (q:AB) (j:Fe):Option AB:=(Y9 q (j.length:Int)).bind fun u=>aQz j u 0
def abX (kM dP r) (h:aDd kM dP=some r):BI 329 [.bn 0,Jd dP,.d (.fn (.func 326) [] [])] [(MR kM)] (.bn 1) [.dead,(MR r)]:=Ar.aN Tryz.func329 rfl<|AP<|.f (DV 5 1 rfl)<|.bU<|AU h fun M j h=>AP<|.a 2<|.p (BR DK dP Hl rfl)<|.f (x:=.bn 2) (EZ [.ent 0] [.bn 0,AY (dP.length:Int)] (oK kM (dP.length:Int) M j) rfl)<|.aW<|Ad<|AP<|.a 1<|.p (BR DK dP Hl rfl)<|.aW<|AQ.block<|Em (fun q J=>⟨BM 25 [(0,.bn 1),(2,.d (.fn (.func 326) [] [])),(13,Jd dP),(14,AY (dP.length:Int)),(15,AY J)],[.dead,(MR q)],1⟩) _ _ _ _ (Ae 25 57349 [(0,false),(2,true)]) h<|fun U Y u q J h=>AZ<|Ad<|CU h (fun h=>Ad<|AQ.block<|AU h fun L z h=>AP<|.p (Bc DK z Hl Nr rfl)<|.aW<|AU h fun O I h=>BJ<|.a 3<|.f (x:=.bn 2) (aaP [.ent 1] [] [] [.bn 1,Dl L] (aXJ q L O I) rfl)<|.a 1<|.nil<|BJ<|.a 2<|.nil<|u _ _ _ (Ae 25 57349 [(0,false),(2,true)]) h) fun h=>AQ.exit<|AZ<|aTN
def fZ (q:AB) (j:Fe):Option AB:=(Xj q (Ai ((Ai (8*(j.length:Int)))+10))).bind fun u=>(aDd u j).bind fun z=>some z
def aaV (kM dP r) (h:fZ kM dP=some r):BI 254 [Kz kM,Jd dP] [] (.bn 0) [(MR r)]:=Ar.aN Tryz.func254 rfl<|AP<|.f (DV 5 1 rfl)<|.bU<|Df h fun u j z q h=>AP<|.a 2<|.p (BR DK dP Hl rfl)<|.a 2<|.f (x:=.bn 1) (TL [Kz kM,AY (Ai ((Ai (8*(dP.length:Int)))+10))] (uz kM (Ai ((Ai (8*(dP.length:Int)))+10)) u j) rfl)<|.a 1<|.f (x:=.bn 2) (EZ [.ent 1] [.bn 1,Jd dP,.d (.fn (.func 326) [] [])] (abX u dP z q) rfl)<|.aW<|OJ
def aKj (j:Bj) (z:(AB→Int→Option AB)):AB→Int→Option AB:=fun u q=>(bif decide (q<7)then(Af ([j.Levels.User,j.Levels.Message,j.Levels.State,j.Levels.fG,j.Levels.jR,j.Levels.mZ,j.Levels.gB]:AB) q).bind fun I=>(NT u I).bind fun J=>z J (Ai (q+1))else some u)
def aKk (j:Bj):AB→Int→Option AB:=aV (aKj j) Ag
def aFr (j:Bj) (I:(AB→Int→Option AB)):AB→Int→Option AB:=fun u q=>(bif decide (q<(j.Levels.Kinds.length:Int))then(Af j.Levels.Kinds q).bind fun z=>(NT u z.Kind).bind fun J=>(NT J z.N).bind fun L=>I L (Ai (q+1))else aKk j u 0)
def aON (j:Bj):AB→Int→Option AB:=aV (aFr j) Ag
def aAi (j:Bj) (z:(AB→Int→Option AB)):AB→Int→Option AB:=fun M q=>(bif decide (q<(j.Levels.Users.length:Int))then(Af j.Levels.Users q).bind fun u=>(SE M u.User).bind fun I=>(NT I u.N).bind fun J=>z J (Ai (q+1))else(NT M (j.Levels.Kinds.length:Int)).bind fun L=>aON j L 0)
def aQs (j:Bj):AB→Int→Option AB:=aV (aAi j) Ag
def tV (j:Bj):Option AB:=(SE [] j.Text).bind fun q=>(NT q j.N).bind fun u=>(NT u j.Target).bind fun z=>(Yb z j.Thread).bind fun I=>(SE I j.Via).bind fun J=>(fZ J j.Allow).bind fun L=>(fZ L j.gJ).bind fun M=>(NT M (j.Levels.Users.length:Int)).bind fun O=>aQs j O 0
def aQT (jD r) (h:tV jD=some r):BI 158 [Ld jD] [] (Kz r) []:=Ar.aN Tryz.func158 rfl<|AZ<|AU h fun x1 hx1 h=>AP<|.a 2<|.p (x:=(Kz x1)) (aPN [.d (.lit (.slice none 0 0)),Dl jD.Text] (aCC [] jD.Text x1 hx1).view rfl)<|.aW<|AU h fun x2 hx2 h=>AP<|.a 3<|.ca (X3 x1 jD.N x2 hx2).view<|.aW<|AU h fun x3 hx3 h=>AP<|.a 3<|.ca (X3 x2 jD.Target x3 hx3).view<|.aW<|AU h fun x4 hx4 h=>AP<|.a 3<|.ca (aQq x3 jD.Thread x4 hx4).view<|.aW<|AU h fun x5 hx5 h=>AP<|.a 3<|.ca (aCC x4 jD.Via x5 hx5).view<|.aW<|AU h fun x6 hx6 h=>AP<|.a 3<|.ca (aaV x5 jD.Allow x6 hx6).view<|.aW<|AU h fun x7 hx7 h=>AP<|.a 3<|.ca (aaV x6 jD.gJ x7 hx7).view<|.aW<|AZ<|AU h fun x8 Cb h=>AP<|.a 3<|.p (BR FN jD.Levels.Users IG rfl)<|.ca (X3 x7 (jD.Levels.Users.length:Int) x8 Cb).view<|.aW<|Ad<|AP<|.a 2<|.p (BR FN jD.Levels.Users IG rfl)<|.aW<|AQ.block<|Em (fun v9 u=>⟨BM 103 [(3,Kz v9),(4,.ptr 0 0),(46,Qe jD.Levels.Users),(47,AY (jD.Levels.Users.length:Int)),(48,AY u)],[.box (BG (Gm jD.Levels))],0⟩) _ _ _ _ (Ae 103 492581209243672 [(1,true)]) h<|fun J32 k11 z v9 u h=>AZ<|Ad<|CU h (fun h=>Ad<|AQ.block<|AU h fun I J h=>AP<|.p (Bc FN J IG Ot rfl)<|.aW<|Df h fun L M x15 O h=>AQ.draw A8 A8 A8 (.a 3<|.ca (aCC v9 I.User L M).view<|.a 2<|.ca (X3 L I.N x15 O).view<|.a 1<|.nil _)<|BJ<|.a 2<|.nil<|z _ _ _ (Ae 103 492581209243672 [(0,true)]) h) fun h=>AQ.exit<|AU h fun x16 U h=>AP<|.a 3<|.p (BR Fp jD.Levels.Kinds Ij rfl)<|.ca (X3 v9 (jD.Levels.Kinds.length:Int) x16 U).view<|.aW<|Ad<|AP<|.a 2<|.p (BR Fp jD.Levels.Kinds Ij rfl)<|.aW<|AQ.block<|Em (fun j Y=>⟨BM 103 [(3,Kz j),(4,.ptr 0 0),(66,Qr jD.Levels.Kinds),(67,AY (jD.Levels.Kinds.length:Int)),(68,AY Y)],[.box (BG (Gm jD.Levels))],0⟩) _ _ _ _ (Ae 103 516508834063867445272 [(0,true)]) h<|fun J31 k19 Z j Y h=>AZ<|Ad<|CU h (fun h=>Ad<|AQ.block<|AU h fun x21 alQ h=>AP<|.p (Bc Fp alQ Ij Px rfl)<|.aW<|Df h fun Gz YF x23 ae3 h=>AQ.draw A8 A8 A8 (.a 3<|.ca (X3 j x21.Kind Gz YF).view<|.a 2<|.ca (X3 Gz x21.N x23 ae3).view<|.a 1<|.nil _)<|BJ<|.a 2<|.nil<|Z _ _ _ (Ae 103 516508834063867445272 [(0,true)]) h) fun h=>AQ.exit<|Ad<|AZ<|AQ.block<|Em (fun q v25=>⟨BM 103 [(3,Kz q),(94,.d ((MN Ac) ([jD.Levels.User,jD.Levels.Message,jD.Levels.State,jD.Levels.fG,jD.Levels.jR,jD.Levels.mZ,jD.Levels.gB]:(List Int)))),(95,AY v25)],[],0⟩) _ _ _ _ (Ae 103 59421121885698253195157962760 []) h<|fun J30 k26 aBh q v25 h=>AZ<|Ad<|CU h (fun h=>Ad<|AQ.block<|AU h fun x28 hx28 h=>AP<|.p (aDc (k:=.i64) Ac hx28 aAn Dt A8 rfl)<|.aW<|AU h fun x29 hx29 h=>BJ<|.a 2<|.ca (X3 q x28 x29 hx29).view<|.a 1<|.nil<|BJ<|.a 2<|.nil<|aBh _ _ _ (Ae 103 59421121885698253195157962760 []) h) fun h=>I8
def aOn  :Option Int:=some 860922984064492325
def akq  (r:Int) (h:aOn=some r):BI 222 [] [] (AY r) []:=Ar.aN Tryz.func222 rfl<|lH
def aIK (j:AB) (z:(Int→Int→Option Int)):Int→Int→Option Int:=fun u q=>(bif decide (q<(j.length:Int))then(Af j q).bind fun I=>z (ET .and .u64 (IntKind.u64.wrap ((ET .xor .u64 u (IntKind.u64.wrap I))*1099511628211)) 4611686018427387903) (Ai (q+1))else some (Ai u))
def aU6 (j:AB):Int→Int→Option Int:=aV (aIK j) Ag
def aO0 (j:Int) (q:AB):Option Int:=aU6 q (ET .and .u64 (IntKind.u64.wrap j) 4611686018427387903) 0
def anC (aBi gY r) (h:aO0 aBi gY=some r):BI 221 [AY aBi,Kz gY] [] (AY r) []:=Ar.aN Tryz.func221 rfl<|AZ<|AP<|.a 2<|.p (Qz (k:=.u64) (u:=(IntKind.u64.wrap aBi)) (v:=4611686018427387903) rfl)<|.aW<|Ad<|AP<|.a 1<|.p (BR Ew gY uq rfl)<|.aW<|AQ.block<|Em (fun j I=>⟨BM 26 [(5,.d ((aI1 .u64) j)),(11,Kz gY),(12,AY (gY.length:Int)),(13,AY I)],[],0⟩) _ _ _ _ (Ae 26 14368 []) h<|fun L M q j I h=>AZ<|Ad<|CU h (fun h=>Ad<|AQ.block<|AU h fun J z h=>AP<|.p (Bc Ew z uq aRO rfl)<|.aW<|BJ<|.a 3<|.p (agx (k:=.u64) (u:=j) (v:=(IntKind.u64.wrap J)) rfl)<|.a 1<|.p (Qz (k:=.u64) (u:=(IntKind.u64.wrap ((ET .xor .u64 j (IntKind.u64.wrap J))*1099511628211))) (v:=4611686018427387903) rfl)<|.a 1<|.nil<|BJ<|.a 2<|.nil<|q _ _ _ (Ae 26 14368 []) h) fun h=>I8
def sJ (j:AB):Option Int:=(aOn).bind fun q=>(aO0 q j).bind fun u=>some u
def aXO (kM r) (h:sJ kM=some r):BI 138 [Kz kM] [] (AY r) []:=Ar.aN Tryz.func138 rfl<|AZ<|Df h fun u j z q h=>AP<|.ca (akq  u j)<|.a 1<|.ca (anC u kM z q)<|.aW<|Cm
def qX (j:AL):Option Int:=(tV j.Content).bind fun q=>(sJ q).bind fun u=>some u
def aVY (bG r) (h:qX bG=some r):BI 92 [DW bG] [] (AY r) []:=Ar.aN Tryz.func92 rfl<|AZ<|Df h fun u j z q h=>AP<|.a 2<|.ca (aQT bG.Content u j)<|.ca (aXO u z q)<|.aW<|Cm
def Ru (j:Fe):Option Fe:=(C9 16 [] j).bind fun q=>some q
def aDr (aA r) (h:Ru aA=some r):BI 135 [Jd aA] [] (.bn 0) [(wK r)]:=Ar.aN Tryz.func135 rfl<|AP<|.f (DV 9 1 rfl)<|.bU<|AU h fun q j h=>AP<|.a 1<|.f (aFQ 9 1 (FI (k:=_) DK j ZV A8 (fun _=>rfl) BK rfl))<|.aW<|OJ
def Zu (j:Bf):Option Bf:=(C9 24 [] j.Users).bind fun q=>(C9 16 [] (({ j with Users:=q }).Kinds)).bind fun u=>some ({ { j with Users:=q }with Kinds:=u })
def aT9 (aA r) (h:Zu aA=some r):BI 136 [NV aA] [] (NV r) []:=Ar.aN Tryz.func136 rfl<|AZ<|AU h fun j q h=>AP<|.a 2<|.f (aFQ 108 2 (FI (k:=_) FN q aA2 A8 (fun _=>rfl) BK rfl))<|.conv _ (O1 (e:=108) (s:=2) 3 (xs:=List.map FN j) A8)<|.aW<|AU h fun u z h=>AP<|.a 2<|.f (aFQ 111 2 (FI (k:=_) Fp z aJb A8 (fun _=>rfl) BK rfl))<|.conv _ (O1 (e:=111) (s:=2) 5 (xs:=List.map Fp u) A8)<|.aW<|AZ<|AQ.ret<|by rw[←Cj h];exact⟨[NV ({ { aA with Users:=j }with Kinds:=u })],[],⟨⟨1,BG (Gm ({ { aA with Users:=j }with Kinds:=u })),true,9,A8,A8,A8,pG,FC A8,pS,A8⟩,trivial⟩,A8,A8,A8⟩
def vT (j:Bool):Option Int:=(bif j then some 5 else some 0)
def qV (j:Int) (q:Bool):Option Int:=(bif q then some 2 else(bif (j==6)then some 96 else(bif (j==7)then some 1 else(bif (j==9)then some 3 else(bif (j==11)then some 13 else(bif (j==12)then vT (j==12)else(bif (j==13)then vT (j==13)else vT (j==14))))))))
def fF (j:Int):Option Int:=(bif (j==2)then some 19 else(bif (j==3)then some 128 else(bif (j==4)then some 34 else(bif (j==5)then qV j (j==5)else(bif (j==8)then qV j (j==8)else qV j (j==10))))))
def aYx (iR r) (h:fF iR=some r):BI 172 [AY iR] [] (AY r) []:=Ar.aN Tryz.func172 rfl<|AZ<|Ad<|AZ<|AQ.block<|AZ<|EC h CZ fun h=>AZ<|EC h CZ fun h=>AZ<|EC h CZ fun h=>Dv (fun s=>∃(z:Bool),CX s ⟨BM 26 [(3,AY iR),(10,Ap z)],[],0⟩∧qV iR z=some r) (by rintro s ⟨z,hs,h⟩;exact DI hs<|EC h CZ fun h=>AZ<|EC h CZ fun h=>AZ<|EC h CZ fun h=>AZ<|EC h CZ fun h=>AZ<|EC h CZ fun h=>Dv (fun s=>∃(j:Bool),CX s ⟨BM 26 [(22,Ap j)],[],0⟩∧vT j=some r) (by rintro s ⟨j,hs,h⟩;exact DI hs<|SX)<|fun q=>AZ<|CU h (fun h=>q _ ⟨(iR==12),Ae 26 4194304 [],h⟩) fun h=>AZ<|CU h (fun h=>q _ ⟨(iR==13),Ae 26 4194304 [],h⟩) fun h=>BJ<|.a 2<|.nil<|q _ ⟨(iR==14),Ae 26 4194304 [],h⟩)<|fun u=>AZ<|CU h (fun h=>u _ ⟨(iR==5),Ae 26 1032 [],h⟩) fun h=>AZ<|CU h (fun h=>u _ ⟨(iR==8),Ae 26 1032 [],h⟩) fun h=>BJ<|.a 2<|.nil<|u _ ⟨(iR==10),Ae 26 1032 [],h⟩
def kQ (j:Int) (q:Bool):Option Int:=(bif q then(fF j).bind fun u=>some u else(bif (j==14)then some 4 else some 0))
def kZ (j:Int):Option Int:=(bif (j==2)then some 18 else(bif (j==3)then kQ j (j==3)else(bif (j==4)then kQ j (j==4)else(bif (j==5)then kQ j (j==5)else kQ j (j==6)))))
def aaQ (iR r) (h:kZ iR=some r):BI 137 [AY iR] [] (AY r) []:=Ar.aN Tryz.func137 rfl<|AZ<|Ad<|AZ<|AQ.block<|AZ<|EC h CZ fun h=>Dv (fun s=>∃(j:Bool),CX s ⟨BM 15 [(0,AY iR),(3,AY iR),(6,Ap j)],[],0⟩∧kQ iR j=some r) (by rintro s ⟨j,hs,h⟩;exact DI hs<|EC h (fun h=>AU h fun u q h=>AP<|.a 1<|.ca (aYx iR u q)<|.aW<|Cm) fun h=>AZ<|SX)<|fun K6=>AZ<|CU h (fun h=>K6 _ ⟨(iR==3),Ae 15 73 [],h⟩) fun h=>AZ<|CU h (fun h=>K6 _ ⟨(iR==4),Ae 15 73 [],h⟩) fun h=>AZ<|CU h (fun h=>K6 _ ⟨(iR==5),Ae 15 73 [],h⟩) fun h=>BJ<|.a 2<|.nil<|K6 _ ⟨(iR==6),Ae 15 73 [],h⟩
def aLo (j:Bj):Option Bj:=some j
def aMa (z:Int) (j:Bj) (q:Bj):Option Bj:=(bif ((ET .and .i64 z 128) != 0)then(Zu j.Levels).bind fun u=>aLo ({ q with Levels:=u })else aLo q)
def aOu (q:Int) (j:Bj) (z:Bj):Option Bj:=(bif ((ET .and .i64 q 64) != 0)then(Ru j.gJ).bind fun u=>aMa q j ({ z with gJ:=u })else aMa q j z)
def aOb (q:Int) (j:Bj) (z:Bj):Option Bj:=(bif ((ET .and .i64 q 32) != 0)then(Ru j.Allow).bind fun u=>aOu q j ({ z with Allow:=u })else aOu q j z)
def aJN (q:Int) (j:Bj) (u:Bj):Option Bj:=(bif ((ET .and .i64 q 16) != 0)then aOb q j ({ u with Via:=j.Via })else aOb q j u)
def aOv (q:Int) (j:Bj) (u:Bj):Option Bj:=(bif ((ET .and .i64 q 4) != 0)then aJN q j ({ u with Target:=j.Target })else aJN q j u)
def qA (q:Int) (j:Bj):Option Bj:=(bif (q==1)then(Ru j.Allow).bind fun z=>(Ru j.gJ).bind fun I=>(Zu j.Levels).bind fun J=>some ({ { { j with Allow:=z }with gJ:=I }with Levels:=J })else(kZ q).bind fun u=>(bif ((ET .and .i64 u 2) != 0)then aOv u j ({ EL with N:=j.N })else aOv u j EL))
def aWE (iR jE r) (h:qA iR jE=some r):BI 76 [AY iR,Ld jE] [] (Ld r) []:=Ar.aN Tryz.func76 rfl<|AZ<|Ad<|AZ<|BN h (fun h=>iZ h fun x2 hx2 x3 hx3 x4 hx4 h=>HY A8 A8 A8 (.a 2<|.ca (aDr jE.Allow x2 hx2).view<|.a 2<|.ca (aDr jE.gJ x3 hx3).view<|.a 2<|.ca (aT9 jE.Levels x4 hx4)<|.a 6<|.nil _)<|AZ<|AQ.ret<|by rw[←Cj h];exact⟨[Ld ({ { { jE with Allow:=x2 }with gJ:=x3 }with Levels:=x4 })],[],⟨⟨1,BG (GU ({ { { jE with Allow:=x2 }with gJ:=x3 }with Levels:=x4 })),true,16,A8,A8,A8,aL1,FC A8,Un,A8⟩,trivial⟩,A8,A8,A8⟩) fun h=>AZ<|AU h fun j hx5 h=>AP<|.a 1<|.ca (aaQ iR j hx5)<|.aW<|Dv (fun s=>∃(I:Bj),CX s ⟨BM 64 [(3,.ptr 0 0),(4,.ptr 1 0),(5,.ptr 2 0),(6,AY j)],[.box (BG (GU jE)),.box (BG (GU EL)),.box (BG (GU I))],0⟩∧aOv j jE I=some r) (by rintro s ⟨I,hs,h⟩;exact DI hs<|Dv (fun s=>∃(J:Bj),CX s ⟨BM 64 [(3,.ptr 0 0),(4,.ptr 1 0),(5,.ptr 2 0),(6,AY j)],[.box (BG (GU jE)),.box (BG (GU EL)),.box (BG (GU J))],0⟩∧aJN j jE J=some r) (by rintro s ⟨J,hs,h⟩;exact DI hs<|Dv (fun s=>∃(L:Bj),CX s ⟨BM 64 [(3,.ptr 0 0),(4,.ptr 1 0),(5,.ptr 2 0),(6,AY j)],[.box (BG (GU jE)),.box (BG (GU EL)),.box (BG (GU L))],0⟩∧aOb j jE L=some r) (by rintro s ⟨L,hs,h⟩;exact DI hs<|Dv (fun s=>∃(M:Bj),CX s ⟨BM 64 [(3,.ptr 0 0),(4,.ptr 1 0),(5,.ptr 2 0),(6,AY j)],[.box (BG (GU jE)),.box (BG (GU EL)),.box (BG (GU M))],0⟩∧aOu j jE M=some r) (by rintro s ⟨M,hs,h⟩;exact DI hs<|Dv (fun s=>∃(q:Bj),CX s ⟨BM 64 [(3,.ptr 0 0),(4,.ptr 1 0),(5,.ptr 2 0),(6,AY j)],[.box (BG (GU jE)),.box (BG (GU EL)),.box (BG (GU q))],0⟩∧aMa j jE q=some r) (by rintro s ⟨q,hs,h⟩;exact DI hs<|Dv (fun s=>∃(z:Bj),CX s ⟨BM 64 [(4,.ptr 0 0),(5,.ptr 1 0)],[.box (BG (GU EL)),.box (BG (GU z))],0⟩∧aLo z=some r) (by rintro s ⟨z,hs,h⟩;exact DI hs<|AZ<|AQ.ret<|by rw[←Cj h];exact⟨[Ld z],[],⟨⟨0,BG (GU z),true,16,A8,A8,A8,aL1,FC A8,Un,A8⟩,trivial⟩,A8,A8,A8⟩)<|fun O=>AP<|.a 1<|.p (Qz (k:=.i64) (u:=j) (v:=128) rfl)<|.aW<|BN h (fun h=>AU h fun U Y h=>BJ<|.a 2<|.ca (aT9 jE.Levels U Y)<|.a 2<|.nil<|O _ ⟨({ q with Levels:=U }),Ae 64 48 [(1,true),(2,true)],h⟩) fun h=>O _ ⟨q,Ae 64 48 [(1,true),(2,true)],h⟩)<|fun Z=>AP<|.a 1<|.p (Qz (k:=.i64) (u:=j) (v:=64) rfl)<|.aW<|BN h (fun h=>AU h fun x17 ae5 h=>BJ<|.a 2<|.ca (aDr jE.gJ x17 ae5).view<|.a 2<|.nil<|Z _ ⟨({ M with gJ:=x17 }),Ae 64 120 [(0,true),(1,true),(2,true)],h⟩) fun h=>Z _ ⟨M,Ae 64 120 [(0,true),(1,true),(2,true)],h⟩)<|fun K18=>AP<|.a 1<|.p (Qz (k:=.i64) (u:=j) (v:=32) rfl)<|.aW<|BN h (fun h=>AU h fun La RX h=>BJ<|.a 2<|.ca (aDr jE.Allow La RX).view<|.a 2<|.nil<|K18 _ ⟨({ L with Allow:=La }),Ae 64 120 [(0,true),(1,true),(2,true)],h⟩) fun h=>K18 _ ⟨L,Ae 64 120 [(0,true),(1,true),(2,true)],h⟩)<|fun K21=>AP<|.a 1<|.p (Qz (k:=.i64) (u:=j) (v:=16) rfl)<|.aW<|BN h (fun h=>BJ<|.a 4<|.nil<|K21 _ ⟨({ J with Via:=jE.Via }),Ae 64 120 [(0,true),(1,true),(2,true)],h⟩) fun h=>K21 _ ⟨J,Ae 64 120 [(0,true),(1,true),(2,true)],h⟩)<|fun K23=>AP<|.a 1<|.p (Qz (k:=.i64) (u:=j) (v:=4) rfl)<|.aW<|BN h (fun h=>BJ<|.a 4<|.nil<|K23 _ ⟨({ I with Target:=jE.Target }),Ae 64 120 [(0,true),(1,true),(2,true)],h⟩) fun h=>K23 _ ⟨I,Ae 64 120 [(0,true),(1,true),(2,true)],h⟩)<|fun K25=>AP<|.a 1<|.p (Qz (k:=.i64) (u:=j) (v:=2) rfl)<|.aW<|BN h (fun h=>BJ<|.a 4<|.nil<|K25 _ ⟨({ EL with N:=jE.N }),Ae 64 120 [(0,true),(1,true),(2,true)],h⟩) fun h=>K25 _ ⟨EL,Ae 64 120 [(0,true),(1,true),(2,true)],h⟩
def aC7 (j:AL):Option AL:=(qA j.Kind j.Content).bind fun q=>some ({ j with Content:=q })
def amq (bG r) (h:aC7 bG=some r):BI 122 [DW bG] [] (DW r) []:=Ar.aN Tryz.func122 rfl<|AZ<|AU h fun j q h=>AP<|.a 4<|.ca (aWE bG.Kind bG.Content j q)<|.aW<|AZ<|AQ.ret<|by rw[←Cj h];exact⟨[DW ({ bG with Content:=j })],[],⟨⟨1,BG (BH ({ bG with Content:=j })),true,29,A8,A8,A8,Dy,FC A8,aPs,A8⟩,trivial⟩,A8,A8,A8⟩
def eY (j:F9) (q:Int):Option F9:=(NT j.b_ q).bind fun u=>some ({ j with b_:=u })
def air (N9 oC r) (h:eY N9 oC=some r):BI 224 [.ptr 0 0,AY oC] [.box (BG (Kt N9))] (.eu []) [.box (BG (Kt r))]:=Ar.aN Tryz.func224 rfl<|AU h fun q j h=>BJ<|.a 6<|.ca (X3 N9.b_ oC q j).view<|.a 3<|.nil<|Yh
def aJE (j:AB) (z:(Int→F9→Option F9)):Int→F9→Option F9:=fun q u=>(bif decide (q<(j.length:Int))then(Af j q).bind fun I=>(eY u I).bind fun J=>z (Ai (q+1)) J else some u)
def aUo (j:AB):Int→F9→Option F9:=aV (aJE j) Ag
def UO (j:F9) (q:AB):Option F9:=aUo q 0 j
def vF (tN dP r) (h:UO tN dP=some r):BI 223 [.fn (.func 224) [.ptr 0 0] [],CM dP] [.box (BG (Kt tN))] (.eu []) [.box (BG (Kt r))]:=Ar.aN Tryz.func223 rfl<|AP<|.a 1<|.p (BR Ac dP CQ rfl)<|.aW<|AQ.block<|Em (fun I j=>⟨BM 16 [(0,.fn (.func 224) [.ptr 0 0] []),(6,CM dP),(7,AY (dP.length:Int)),(8,AY I)],[.box (BG (Kt j))],1⟩) _ _ _ _ (Ae 16 449 [(0,true)]) h<|fun M O q I j h=>AZ<|Ad<|CU h (fun h=>Ad<|AQ.block<|AU h fun J u h=>AP<|.p (Bc Ac u CQ Dt rfl)<|.aW<|AU h fun L z h=>BJ<|.a 2<|.f (x:=.eu []) (Zk [.ent 0] [.ptr 0 0] [] [AY J] (air j J L z) rfl)<|.nil<|BJ<|.a 2<|aAt) fun h=>AQ.exit<|Yh
def kL (j:F9) (q:ByteArray):Option F9:=(SE j.b_ q).bind fun u=>some ({ j with b_:=u })
def ajA (N9 iE r) (h:kL N9 iE=some r):BI 226 [.ptr 0 0,Dl iE] [.box (BG (Kt N9))] (.eu []) [.box (BG (Kt r))]:=Ar.aN Tryz.func226 rfl<|AU h fun q j h=>BJ<|.a 6<|.ca (aCC N9.b_ iE q j).view<|.a 3<|.nil<|Yh
def aIu (j:Fe) (z:(Int→F9→Option F9)):Int→F9→Option F9:=fun q u=>(bif decide (q<(j.length:Int))then(Af j q).bind fun I=>(kL u I).bind fun J=>z (Ai (q+1)) J else some u)
def aWP (j:Fe):Int→F9→Option F9:=aV (aIu j) Ag
def X0 (j:F9) (q:Fe):Option F9:=aWP q 0 j
def aCS (tN dP r) (h:X0 tN dP=some r):BI 225 [.fn (.func 226) [.ptr 0 0] [],Jd dP] [.box (BG (Kt tN))] (.eu []) [.box (BG (Kt r))]:=Ar.aN Tryz.func225 rfl<|AP<|.a 1<|.p (BR DK dP Hl rfl)<|.aW<|AQ.block<|Em (fun I j=>⟨BM 16 [(0,.fn (.func 226) [.ptr 0 0] []),(6,Jd dP),(7,AY (dP.length:Int)),(8,AY I)],[.box (BG (Kt j))],1⟩) _ _ _ _ (Ae 16 449 [(0,true)]) h<|fun M O q I j h=>AZ<|Ad<|CU h (fun h=>Ad<|AQ.block<|AU h fun J u h=>AP<|.p (Bc DK u Hl Nr rfl)<|.aW<|AU h fun L z h=>BJ<|.a 2<|.f (x:=.eu []) (Zk [.ent 0] [.ptr 0 0] [] [Dl J] (ajA j J L z) rfl)<|.nil<|BJ<|.a 2<|aAt) fun h=>AQ.exit<|Yh
def vY (j:F9) (q:Bool):Option F9:=(Yb j.b_ q).bind fun u=>some ({ j with b_:=u })
def abm (N9 XE r) (h:vY N9 XE=some r):BI 228 [.ptr 0 0,Ap XE] [.box (BG (Kt N9))] (.eu []) [.box (BG (Kt r))]:=Ar.aN Tryz.func228 rfl<|AU h fun q j h=>BJ<|.a 6<|.ca (aQq N9.b_ XE q j).view<|.a 3<|.nil<|Yh
def aHJ (j:(List Bool)) (z:(Int→F9→Option F9)):Int→F9→Option F9:=fun q u=>(bif decide (q<(j.length:Int))then(Af j q).bind fun I=>(vY u I).bind fun J=>z (Ai (q+1)) J else some u)
def aU4 (j:(List Bool)):Int→F9→Option F9:=aV (aHJ j) Ag
def mY (j:F9) (q:(List Bool)):Option F9:=aU4 q 0 j
def afS (tN dP r) (h:mY tN dP=some r):BI 227 [.fn (.func 228) [.ptr 0 0] [],.d ((BL Dx) dP)] [.box (BG (Kt tN))] (.eu []) [.box (BG (Kt r))]:=Ar.aN Tryz.func227 rfl<|AP<|.a 1<|.p (BR Dx dP aVf rfl)<|.aW<|AQ.block<|Em (fun I j=>⟨BM 16 [(0,.fn (.func 228) [.ptr 0 0] []),(6,.d ((BL Dx) dP)),(7,AY (dP.length:Int)),(8,AY I)],[.box (BG (Kt j))],1⟩) _ _ _ _ (Ae 16 449 [(0,true)]) h<|fun M O q I j h=>AZ<|Ad<|CU h (fun h=>Ad<|AQ.block<|AU h fun J u h=>AP<|.p (Bc Dx u aVf aT2 rfl)<|.aW<|AU h fun L z h=>BJ<|.a 2<|.f (x:=.eu []) (Zk [.ent 0] [.ptr 0 0] [] [Ap J] (abm j J L z) rfl)<|.nil<|BJ<|.a 2<|aAt) fun h=>AQ.exit<|Yh
def aN3 (j:AB) (z:(AB→Int→Option AB)):AB→Int→Option AB:=fun u q=>(bif decide (q<(j.length:Int))then(Af j q).bind fun I=>(Y9 u I).bind fun J=>z J (Ai (q+1))else some u)
def aTV (j:AB):AB→Int→Option AB:=aV (aN3 j) Ag
def aD6 (q:AB) (j:AB):Option AB:=(Y9 q (j.length:Int)).bind fun u=>aTV j u 0
def aph (kM dP r) (h:aD6 kM dP=some r):BI 369 [.bn 0,CM dP,.d (.fn (.func 328) [] [])] [(MR kM)] (.bn 1) [.dead,(MR r)]:=Ar.aN Tryz.func369 rfl<|AP<|.f (DV 5 1 rfl)<|.bU<|AU h fun M j h=>AP<|.a 2<|.p (BR Ac dP CQ rfl)<|.f (x:=.bn 2) (EZ [.ent 0] [.bn 0,AY (dP.length:Int)] (oK kM (dP.length:Int) M j) rfl)<|.aW<|Ad<|AP<|.a 1<|.p (BR Ac dP CQ rfl)<|.aW<|AQ.block<|Em (fun q J=>⟨BM 25 [(0,.bn 1),(2,.d (.fn (.func 328) [] [])),(13,CM dP),(14,AY (dP.length:Int)),(15,AY J)],[.dead,(MR q)],1⟩) _ _ _ _ (Ae 25 57349 [(0,false),(2,true)]) h<|fun U Y u q J h=>AZ<|Ad<|CU h (fun h=>Ad<|AQ.block<|AU h fun L z h=>AP<|.p (Bc Ac z CQ Dt rfl)<|.aW<|AU h fun O I h=>BJ<|.a 3<|.f (x:=.bn 2) (aaP [.ent 1] [] [] [.bn 1,AY L] (oK q L O I) rfl)<|.a 1<|.nil<|BJ<|.a 2<|.nil<|u _ _ _ (Ae 25 57349 [(0,false),(2,true)]) h) fun h=>AQ.exit<|AZ<|aTN
def Xi (q:AB) (j:AB):Option AB:=(Xj q (Ai ((Ai (2*(j.length:Int)))+10))).bind fun u=>(aD6 u j).bind fun z=>some z
def afA (kM dP r) (h:Xi kM dP=some r):BI 315 [Kz kM,CM dP] [] (.bn 0) [(MR r)]:=Ar.aN Tryz.func315 rfl<|AP<|.f (DV 5 1 rfl)<|.bU<|Df h fun u j z q h=>AP<|.a 2<|.p (BR Ac dP CQ rfl)<|.a 2<|.f (x:=.bn 1) (TL [Kz kM,AY (Ai ((Ai (2*(dP.length:Int)))+10))] (uz kM (Ai ((Ai (2*(dP.length:Int)))+10)) u j) rfl)<|.a 1<|.f (x:=.bn 2) (EZ [.ent 1] [.bn 1,CM dP,.d (.fn (.func 328) [] [])] (aph u dP z q) rfl)<|.aW<|OJ
def lF (j:F9) (q:AB):Option F9:=(Xi j.b_ q).bind fun u=>some ({ j with b_:=u })
def aln (N9 dP r) (h:lF N9 dP=some r):BI 230 [.ptr 0 0,CM dP] [.box (BG (Kt N9))] (.eu []) [.box (BG (Kt r))]:=Ar.aN Tryz.func230 rfl<|AU h fun q j h=>BJ<|.a 6<|.ca (afA N9.b_ dP q j).view<|.a 3<|.nil<|Yh
abbrev V7:=List (List Int)
def aO7 (j:V7) (z:(Int→F9→Option F9)):Int→F9→Option F9:=fun q u=>(bif decide (q<(j.length:Int))then(Af j q).bind fun I=>(lF u I).bind fun J=>z (Ai (q+1)) J else some u)
def aV5 (j:V7):Int→F9→Option F9:=aV (aO7 j) Ag
def xM (j:F9) (q:V7):Option F9:=aV5 q 0 j
def agf (tN dP r) (h:xM tN dP=some r):BI 229 [.fn (.func 230) [.ptr 0 0] [],.d ((BL (BL Ac)) dP)] [.box (BG (Kt tN))] (.eu []) [.box (BG (Kt r))]:=Ar.aN Tryz.func229 rfl<|AP<|.a 1<|.p (BR (BL Ac) dP aWw rfl)<|.aW<|AQ.block<|Em (fun I j=>⟨BM 16 [(0,.fn (.func 230) [.ptr 0 0] []),(6,.d ((BL (BL Ac)) dP)),(7,AY (dP.length:Int)),(8,AY I)],[.box (BG (Kt j))],1⟩) _ _ _ _ (Ae 16 449 [(0,true)]) h<|fun M O q I j h=>AZ<|Ad<|CU h (fun h=>Ad<|AQ.block<|AU h fun J u h=>AP<|.p (Bc (BL Ac) u aWw aQC rfl)<|.aW<|AU h fun L z h=>BJ<|.a 2<|.f (x:=.eu []) (Zk [.ent 0] [.ptr 0 0] [] [CM J] (aln j J L z) rfl)<|.nil<|BJ<|.a 2<|aAt) fun h=>AQ.exit<|Yh
def qC (j:AL):Option AB:=(UO aFj [j.Id]).bind fun I=>(X0 I [j.Room,j.aQ]).bind fun J=>(UO J [j.Kind]).bind fun L=>(mY L [j.State]).bind fun M=>(X0 M [j.Key]).bind fun O=>(UO O [j.Time,j.Depth]).bind fun U=>(xM U [j.aU,j.aZ]).bind fun Y=>(tV j.Content).bind fun Z=>(X0 Y [Qg Z]).bind fun x9=>(UO x9 [j.Hash]).bind fun q=>(X0 q [j.ng.Server]).bind fun u=>(UO u [j.ng.Sum]).bind fun z=>some z.b_
def agy (bG r) (h:qC bG=some r):BI 139 [DW bG] [] (Kz r) []:=Ar.aN Tryz.func139 rfl<|AZ<|AZ<|AU h fun x1 L h=>AP<|.a 1<|.p (x:=.fn (.func 224) [.ptr 1 0] []) (Pz (fi:=[.ptr 1 0]) (ca:=[]) rfl rfl rfl)<|.a 2<|.p (F6 F7 zero3 [Ac bG.Id] rfl)<|.f (x:=.eu []) (EZ [.ent 1] [.fn (.func 224) [.ptr 1 0] [],CM [bG.Id]] (vF aFj [bG.Id] x1 L) rfl (ha:=⟨⟨_,_,rfl,⟨⟨0,rfl,rfl⟩,trivial⟩,trivial⟩,.inl rfl,trivial⟩))<|.bU<|AU h fun x2 M h=>AP<|.a 1<|.p (x:=.fn (.func 226) [.ptr 1 0] []) (Pz (fi:=[.ptr 1 0]) (ca:=[]) rfl rfl rfl)<|.a 4<|.p (F6 ZV zero9 [DK bG.Room,DK bG.aQ] rfl)<|.f (x:=.eu []) (EZ [.ent 1] [.fn (.func 226) [.ptr 1 0] [],Jd [bG.Room,bG.aQ]] (aCS x1 [bG.Room,bG.aQ] x2 M) rfl (ha:=⟨⟨_,_,rfl,⟨⟨0,rfl,rfl⟩,trivial⟩,trivial⟩,.inl rfl,trivial⟩))<|.bU<|AU h fun x3 O h=>AP<|.a 1<|.p (x:=.fn (.func 224) [.ptr 1 0] []) (Pz (fi:=[.ptr 1 0]) (ca:=[]) rfl rfl rfl)<|.a 2<|.p (F6 F7 zero3 [Ac bG.Kind] rfl)<|.f (x:=.eu []) (EZ [.ent 1] [.fn (.func 224) [.ptr 1 0] [],CM [bG.Kind]] (vF x2 [bG.Kind] x3 O) rfl (ha:=⟨⟨_,_,rfl,⟨⟨0,rfl,rfl⟩,trivial⟩,trivial⟩,.inl rfl,trivial⟩))<|.bU<|AU h fun x4 U h=>AP<|.a 1<|.p (x:=.fn (.func 228) [.ptr 1 0] []) (Pz (fi:=[.ptr 1 0]) (ca:=[]) rfl rfl rfl)<|.a 2<|.p (F6 agV qM [Dx bG.State] rfl)<|.f (x:=.eu []) (EZ [.ent 1] [.fn (.func 228) [.ptr 1 0] [],.d ((BL Dx) [bG.State])] (afS x3 [bG.State] x4 U) rfl (ha:=⟨⟨_,_,rfl,⟨⟨0,rfl,rfl⟩,trivial⟩,trivial⟩,.inl rfl,trivial⟩))<|.bU<|AU h fun x5 Y h=>AP<|.a 1<|.p (x:=.fn (.func 226) [.ptr 1 0] []) (Pz (fi:=[.ptr 1 0]) (ca:=[]) rfl rfl rfl)<|.a 2<|.p (F6 ZV zero9 [DK bG.Key] rfl)<|.f (x:=.eu []) (EZ [.ent 1] [.fn (.func 226) [.ptr 1 0] [],Jd [bG.Key]] (aCS x4 [bG.Key] x5 Y) rfl (ha:=⟨⟨_,_,rfl,⟨⟨0,rfl,rfl⟩,trivial⟩,trivial⟩,.inl rfl,trivial⟩))<|.bU<|AU h fun x6 Z h=>AP<|.a 1<|.p (x:=.fn (.func 224) [.ptr 1 0] []) (Pz (fi:=[.ptr 1 0]) (ca:=[]) rfl rfl rfl)<|.a 4<|.p (F6 F7 zero3 [Ac bG.Time,Ac bG.Depth] rfl)<|.f (x:=.eu []) (EZ [.ent 1] [.fn (.func 224) [.ptr 1 0] [],CM [bG.Time,bG.Depth]] (vF x5 [bG.Time,bG.Depth] x6 Z) rfl (ha:=⟨⟨_,_,rfl,⟨⟨0,rfl,rfl⟩,trivial⟩,trivial⟩,.inl rfl,trivial⟩))<|.bU<|AU h fun x7 hx7 h=>AP<|.a 1<|.p (x:=.fn (.func 230) [.ptr 1 0] []) (Pz (fi:=[.ptr 1 0]) (ca:=[]) rfl rfl rfl)<|.a 4<|.p (F6 abl aEG [(BL Ac) bG.aU,(BL Ac) bG.aZ] rfl)<|.f (x:=.eu []) (EZ [.ent 1] [.fn (.func 230) [.ptr 1 0] [],.d ((BL (BL Ac)) [bG.aU,bG.aZ])] (agf x6 [bG.aU,bG.aZ] x7 hx7) rfl (ha:=⟨⟨_,_,rfl,⟨⟨0,rfl,rfl⟩,trivial⟩,trivial⟩,.inl rfl,trivial⟩))<|.bU<|Df h fun j Cb x9 Aa h=>AP<|.a 1<|.p (x:=.fn (.func 226) [.ptr 1 0] []) (Pz (fi:=[.ptr 1 0]) (ca:=[]) rfl rfl rfl)<|.a 2<|.ca (aQT bG.Content j Cb)<|.p (aj6 (l:=j) uq aUt NU rfl)<|.p (F6 ZV zero9 [DK (Qg j)] rfl)<|.f (x:=.eu []) (EZ [.ent 1] [.fn (.func 226) [.ptr 1 0] [],Jd [Qg j]] (aCS x7 [Qg j] x9 Aa) rfl (ha:=⟨⟨_,_,rfl,⟨⟨0,rfl,rfl⟩,trivial⟩,trivial⟩,.inl rfl,trivial⟩))<|.bU<|AU h fun q u h=>AP<|.a 1<|.p (x:=.fn (.func 224) [.ptr 1 0] []) (Pz (fi:=[.ptr 1 0]) (ca:=[]) rfl rfl rfl)<|.a 2<|.p (F6 F7 zero3 [Ac bG.Hash] rfl)<|.f (x:=.eu []) (EZ [.ent 1] [.fn (.func 224) [.ptr 1 0] [],CM [bG.Hash]] (vF x9 [bG.Hash] q u) rfl (ha:=⟨⟨_,_,rfl,⟨⟨0,rfl,rfl⟩,trivial⟩,trivial⟩,.inl rfl,trivial⟩))<|.bU<|AU h fun z I h=>AP<|.a 1<|.p (x:=.fn (.func 226) [.ptr 1 0] []) (Pz (fi:=[.ptr 1 0]) (ca:=[]) rfl rfl rfl)<|.a 3<|.p (F6 ZV zero9 [DK bG.ng.Server] rfl)<|.f (x:=.eu []) (EZ [.ent 1] [.fn (.func 226) [.ptr 1 0] [],Jd [bG.ng.Server]] (aCS q [bG.ng.Server] z I) rfl (ha:=⟨⟨_,_,rfl,⟨⟨0,rfl,rfl⟩,trivial⟩,trivial⟩,.inl rfl,trivial⟩))<|.bU<|AU h fun x12 J h=>AP<|.a 1<|.p (x:=.fn (.func 224) [.ptr 1 0] []) (Pz (fi:=[.ptr 1 0]) (ca:=[]) rfl rfl rfl)<|.a 3<|.p (F6 F7 zero3 [Ac bG.ng.Sum] rfl)<|.f (x:=.eu []) (EZ [.ent 1] [.fn (.func 224) [.ptr 1 0] [],CM [bG.ng.Sum]] (vF z [bG.ng.Sum] x12 J) rfl (ha:=⟨⟨_,_,rfl,⟨⟨0,rfl,rfl⟩,trivial⟩,trivial⟩,.inl rfl,trivial⟩))<|.bU<|AZ<|Cm
def sG (j:AL):Option Int:=(aC7 j).bind fun q=>(qC ({ { q with Id:=0 }with ng:=aB })).bind fun u=>(sJ u).bind fun z=>some z
def aT7 (bG r) (h:sG bG=some r):BI 77 [DW bG] [] (AY r) []:=Ar.aN Tryz.func77 rfl<|AZ<|AU h fun I j h=>AP<|.a 1<|.ca (amq bG I j)<|.aW<|AZ<|Df h fun z q J u h=>AP<|.a 1<|.ca (agy _ z q)<|.ca (aXO z J u)<|.aW<|Cm
def jk (q:AL) (j:ByteArray):Option AL:=(qX q).bind fun u=>(sG ({ q with Hash:=u })).bind fun z=>some ({ { { q with Hash:=u }with Id:=z }with ng:=(⟨j,({ { q with Hash:=u }with Id:=z }).Id⟩:Nu) })
def abR (bG aaR r) (h:jk bG aaR=some r):BI 35 [DW bG,Dl aaR] [] (DW r) []:=Ar.aN Tryz.func35 rfl<|AZ<|AU h fun j u h=>AP<|.a 1<|.ca (aVY bG j u)<|.aW<|AU h fun q z h=>AP<|.a 1<|.ca (aT7 _ q z)<|.aW<|AZ<|AZ<|AQ.ret<|by rw[←Cj h];exact⟨[DW ({ { { bG with Hash:=j }with Id:=q }with ng:=(⟨aaR,({ { bG with Hash:=j }with Id:=q }).Id⟩:Nu) })],[],⟨⟨1,BG (BH ({ { { bG with Hash:=j }with Id:=q }with ng:=(⟨aaR,({ { bG with Hash:=j }with Id:=q }).Id⟩:Nu) })),true,29,A8,A8,A8,Dy,FC A8,pS,A8⟩,trivial⟩,A8,A8,A8⟩
def aOW (j:AX) (q:(AL→Option Bool)) (k2:(Int→Option Int)):Int→Option Int:=fun u=>(bif decide (u<(j.length:Int))then(Af j u).bind fun z=>(q z).bind fun I=>(bif I then some u else k2 (Ai (u+1)))else some (-1))
def aTa (j:AX) (q:(AL→Option Bool)):Int→Option Int:=bI (aOW j q) Ag
def jV (j:AX) (q:(AL→Option Bool)):Option Int:=aTa j q 0
def aGY (q:(List AL)) (u:(AL→Option Bool)) (j:D) (z:UD Tryz.prog BH Dx j u) (r:Int) (h:jV q u=some r):BI 125 [BQ q,.d j] [] (AY r) []:=Ar.aN Tryz.func125 rfl<|AZ<|Ad<|AP<|.a 1<|.p (BR BH q DL rfl)<|.aW<|AQ.block<|Fl (fun M=>⟨BM 19 [(0,BQ q),(1,.d j),(7,AY (q.length:Int)),(8,AY M)],[],0⟩) _ _ _ (Ae 19 387 []) h<|fun O k2 I M h=>AZ<|Ad<|CU h (fun h=>Ad<|AQ.block<|AZ<|Df h fun U J Y L h=>AP<|.a 3<|.p (Bc BH J DL Dy rfl)<|.a 1<|.p (uG (d:=j) (z:UD Tryz.prog BH Dx j u) L rfl)<|.bU<|BN h CZ fun h=>BJ<|.a 2<|.nil<|I _ _ (Ae 19 387 []) h) fun h=>I8
def uj (j:AL) (q:Int):Option Bool:=some (j.Id==q)
def amP (bG c0 r) (h:uj bG c0=some r):BI 126 [DW bG,.d (.ref (Ac c0).cells 0)] [] (Ap r) []:=Ar.aN Tryz.func126 rfl<|lH
def iP (q:AX) (j:Int):Option Int:=(jV q (fun a0=>uj a0 j)).bind fun u=>some u
def aQE (aA mX r) (h:iP aA mX=some r):BI 64 [BQ aA,AY mX] [] (AY r) []:=Ar.aN Tryz.func64 rfl<|AZ<|AU h fun q j h=>AP<|.a 1<|.conv _ (VE (cs:=BG (Ac mX)) 0 A8 A8)<|.p (x:=.d (.fn (.func 126) [] [(.ref (Ac mX).cells 0)])) (Vj [(.ref (Ac mX).cells 0)] rfl rfl)<|.ca (aGY aA (fun a0=>uj a0 mX) (.fn (.func 126) [] [(.ref (Ac mX).cells 0)]) ⟨126,[(.ref (Ac mX).cells 0)],rfl,aor,fun a0 b u=>amP a0 mX b u⟩ q j)<|.aW<|Cm
def tZ (j:AX):Option AX:=(C9 376 [] j).bind fun q=>some q
def amB (fH r) (h:tZ fH=some r):BI 79 [BQ fH] [] (.bn 0) [(IJ r)]:=by
 refine Ar.aN Tryz.func79 rfl ?_;unfold tZ at h;refine AP<|.f (DV 39 29 rfl)<|.bU<|Ad<|oH (x:=.tmp 3) (t':=22) (d:=4) (es:=List.map BH fH) 1 rfl (.a 1<|.nil _) A8 A8 A8 DL A8 ?_;intro b j;cases b
 ·clear j;refine Ou A8<|AQ.skip ?_;obtain⟨u,q,h⟩:=Dn h;refine AP<|.f (ZW ML Qx [] rfl)<|.a 1<|.f (FI (k:=1) BH q ML A8 (fun _=>rfl) BK rfl)<|.aM 1 ?_;rw[←Cj h];exact .ret (FW [(2,true)])
 replace j:=uo j;replace h:some []=some r:=nX
 refine TV A8<|AP<|.f (DV 39 29 rfl)<|.bU ?_;rw[←Cj h];exact .ret (FW [(1,true)])
def Uz (j:AL):Option Bool:=(qX j).bind fun q=>some (q==j.Hash)
def aFH (bG r) (h:Uz bG=some r):BI 74 [DW bG] [] (Ap r) []:=Ar.aN Tryz.func74 rfl<|AZ<|AU h fun q j h=>HY A8 A8 A8 (.a 1<|.ca (aVY bG q j)<|.a 4<|.nil _)<|Cm
def aDE (j:List AL) (q:Int) (u:List AL):Option AX:=aFU j q u
def ajR (j:List AL) (q:Int) (u r:List AL) (h:aDE j q u=some r):BI 80 [.bn 0,AY q,.bn 1] [(IJ j),(IJ u)] (.bn 2) [.dead,.dead,(IJ r)]:=
 auH (fun _=>rfl) j q u r h
def aBI (j:AX):Option (AX×Int):=some (j,0)
def wV (u:(Int→Option (AX×Int))) (j:Int) (z:AX) (q:AL) (I:Bool):Option (AX×Int):=(bif I then u (Ai (j+1))else(aDE z j [q]).bind fun J=>some (J,0))
def aLj (u:AX) (z:AX) (j:AL) (I:(Int→Option (AX×Int))):Int→Option (AX×Int):=fun q=>(bif decide (q<(u.length:Int))then(Af u q).bind fun J=>wV I q z j (decide (J.Id<j.Id))else wV I q z j false)
def aNN (j:AX) (u:AX) (q:AL):Int→Option (AX×Int):=bI (aLj j u q) Ag
def aOs (j:AX) (q:AL) (k2:(Int→Option (AX×Int))):Int→Option (AX×Int):=fun I=>(bif decide (I<(j.length:Int))then(Af j I).bind fun U=>(bif (!(U.Room.toList==q.Room.toList))then some ([],13)else k2 (Ai (I+1)))else(iP j q.Id).bind fun z=>(bif decide (z<0)then some (decide ((j.length:Int)≥2000))else some false).bind fun Y=>(bif Y then some ([],29)else(tZ j).bind fun u=>(bif decide (z≥0)then(Uz q).bind fun J=>(bif J then(Af j z).bind fun L=>(Uz L).bind fun M=>some (!M)else some false).bind fun O=>(bif O then(Af u z).bind fun Z=>aBI (u.set (z).toNat q)else aBI u)else aNN j u q 0)))
def aR4 (j:AX) (q:AL):Int→Option (AX×Int):=bI (aOs j q) Ag
def bZ (j:AX) (q:AL):Option (AX×Int):=aR4 j q 0
def aVW (aA jh r) (h:bZ aA jh=some r):BI 31 [BQ aA,DW jh] [] (.eu [.bn 0,AY r.2]) [(IJ r.1)]:=Ar.aN Tryz.func31 rfl<|AP<|.a 1<|.f (DV 39 29 rfl)<|.aW<|Ad<|AP<|.a 1<|.p (BR BH aA DL rfl)<|.aW<|AQ.block<|Fl (fun v1=>⟨BM 73 [(0,BQ aA),(3,.ptr 0 0),(10,BQ aA),(11,AY (aA.length:Int)),(12,AY v1)],[.box (BG (BH jh))],0⟩) _ _ _ (Ae 73 7177 [(0,true)]) h<|fun J30 k2 hk2 v1 h=>AZ<|Ad<|CU h (fun h=>Ad<|AQ.block<|AU h fun x4 hx4 h=>AP<|.p (Bc BH hx4 DL Dy rfl)<|.aW<|AZ<|BN h (fun h=>AP<|.f (DV 39 29 rfl)<|.aW<|OJ) fun h=>BJ<|.a 2<|.nil<|hk2 _ _ (Ae 73 7177 [(0,true)]) h) fun h=>AQ.exit<|AU h fun x6 hx6 h=>AP<|.a 3<|.ca (aQE aA jh.Id x6 hx6)<|.aW<|Ad<|AP<|.a 2<|AU h fun x7 hx7 h=>.mg 28 4 (Ap x7) (.bi hx7 (fun h=>.a 1<|.p (BR BH aA DL rfl)<|.aW<|EK))<|.bU<|BN h (fun h=>AP<|.f (DV 39 29 rfl)<|.aW<|Xt) fun h=>AU h fun j L h=>AP<|.a 1<|.f (x:=.bn 1) (TL [BQ aA] (amB aA j L) rfl)<|.aW<|Ad<|AZ<|BN h (fun h=>Dv (fun s=>∃(I:(List AL)),CX s ⟨BM 73 [(9,.bn 0)],[(IJ I)],0⟩∧aBI I=some r) (by rintro s ⟨I,hs,h⟩;exact DI hs<|AZ<|Zo)<|fun M=>AU h fun x14 O h=>AP<|.a 1<|.ca (aFH jh x14 O)<|.a 1<|AU h fun x15 U h=>.mg 40 6 (Ap x15) (DX U (fun e i=>by subst e;have h:=i;exact Df h fun x17 Y x18 Z h=>.a 2<|.p (Bc BH Y DL Dy rfl)<|.a 1<|.ca (aFH x17 x18 Z)<|.aW<|EK))<|.bU<|BN h (fun h=>AU h fun La z h=>BJ<|.a 3<|.p (Rn (e':=39) (kd:=.i64) BH z (k:=1) A8 DL Dy rfl)<|.f (aCM (e:=39) (size:=29) (v:=(DW jh)) (k:=1) (i:=(x6).toNat) (off:=0) (a':=jh) BH A8 (LU z).2 A8 (Dy).size A8 (FC A8) A8 (fun _=>rfl) rfl)<|.nil<|M _ ⟨(j.set (x6).toNat jh),Ae 73 512 [(1,true)],h⟩) fun h=>M _ ⟨j,Ae 73 512 [(1,true)],h⟩) fun h=>AZ<|Ad<|AQ.block<|Fl (fun q=>⟨BM 73 [(0,BQ aA),(3,.ptr 0 0),(8,AY q),(9,.bn 1)],[.box (BG (BH jh)),(IJ j)],0⟩) _ _ _ (Ae 73 777 [(0,true),(1,true)]) h<|fun J29 k22 aGK q h=>Ad<|Dv (fun s=>∃(J:Bool),CX s ⟨BM 73 [(0,BQ aA),(3,.ptr 0 0),(8,AY q),(9,.bn 1),(65,Ap J)],[.box (BG (BH jh)),(IJ j)],0⟩∧wV k22 q j jh J=some r) (by rintro s ⟨J,hs,h⟩;exact DI hs<|CU h (fun h=>AQ.block<|BJ<|.a 3<|.nil<|aGK _ _ (Ae 73 777 [(0,true),(1,true)]) h) fun h=>AQ.exit<|AU h fun x25 hx25 h=>AP<|.a 3<|.f (ZW ML Qx [BH jh] rfl)<|.f (x:=.bn 3) (EZ [.ent 1,.ent 2] [.bn 1,AY q,.bn 2] (ajR j q [jh] x25 hx25) rfl (hE:=(P6 A8<|P6 A8<|trivial)))<|.aW<|by cases h;exact .ret (FW [(3,true)]))<|fun K26=>G6 h (fun u h=>AU h fun x28 hx28 h=>AQ.draw A8 A8 A8 (.a 2<|.p (BR BH aA DL rfl)<|.a 1<|.c (Aq some u)<|.a 2<|.p (Bc BH hx28 DL Dy rfl)<|.a 6<|.nil _)<|K26 _ ⟨(decide (x28.Id<jh.Id)),Ae 73 36893488147419104009 [(0,true),(1,true)],h⟩) fun u h=>AQ.draw A8 A8 A8 (.a 2<|.p (BR BH aA DL rfl)<|.a 1<|.c (Aq some u)<|.a 9<|.nil _)<|K26 _ ⟨false,Ae 73 36893488147419104009 [(0,true),(1,true)],h⟩
def Yl (j:Int):Option Bool:=(bif decide (j≥1)then some (decide (j≤10))else some false).bind fun q=>some q
def Zf (iR r) (h:Yl iR=some r):BI 98 [AY iR] [] (Ap r) []:=Ar.aN Tryz.func98 rfl<|AZ<|AP<|.a 2<|AU h fun q j h=>.mg 5 3 (Ap q) (.bi j)<|.aW<|Cm
def aNF (j:ByteArray) (q:ByteArray):Option (ByteArray×ByteArray×Bool):=(zN j q).bind fun u=>(bif decide (u≥0)then(NW j 0 u).bind fun z=>(NW j (Ai (u+(q.size:Int))) ((j).size)).bind fun I=>some (z,I,true)else some (j,BP,false))
def ajr (fH YN r) (h:aNF fH YN=some r):BI 232 [Dl fH,Dl YN] [] (.eu [Dl r.1,Dl r.2.1,Ap r.2.2]) []:=Ar.aN Tryz.func232 rfl<|AZ<|Ad<|AU h fun I j h=>AP<|.a 2<|.ca (ah8 fH YN I j)<|.aW<|AZ<|BN h (fun h=>Df h fun J q L u h=>HY A8 A8 A8 (.a 2<|.p (aM8 q (fun _=>rfl) (by intro z;cases z) NU rfl)<|.a 5<|.p (aM8 u (by intro z;cases z) (fun _=>rfl) NU rfl)<|.a 3<|.nil _)<|Cm) fun h=>AZ<|Cm
def strings_Cut (q:ByteArray) (j:ByteArray):Option (ByteArray×ByteArray×Bool):=(aNF q j).bind fun u=>some (u.1,u.2.1,u.2.2)
def ajL (fH YN r) (h:strings_Cut fH YN=some r):BI 141 [Dl fH,Dl YN] [] (.eu [Dl r.1,Dl r.2.1,Ap r.2.2]) []:=Ar.aN Tryz.func141 rfl<|AZ<|AU h fun q j h=>AP<|.a 2<|.ca (ajr fH YN q j)<|.aW<|Cm
def oU (j:Int):Option Bool:=(bif (j==95)then some true else some (j==46)).bind fun q=>(bif q then some true else some (j==45)).bind fun u=>(bif u then some true else some (j==61)).bind fun z=>some z
def ano (jD r) (h:oU jD=some r):BI 234 [.d (Ew jD)] [] (Ap r) []:=Ar.aN Tryz.func234 rfl<|AZ<|AP<|.a 2<|AU h fun z j h=>.mg 5 3 (Ap z) (.bi j)<|.a 1<|AU h fun I q h=>.mg 10 2 (Ap I) (DX q)<|.a 1<|AU h fun J u h=>.mg 14 2 (Ap J) (DX u)<|.aW<|Cm
def fE (j:Int):Option Bool:=(bif decide (j≥97)then some (decide (j≤122))else some false).bind fun q=>(bif q then some true else(bif decide (j≥48)then some (decide (j≤57))else some false).bind fun u=>some u).bind fun z=>some z
def aIC (jD r) (h:fE jD=some r):BI 236 [.d (Ew jD)] [] (Ap r) []:=Ar.aN Tryz.func236 rfl<|AZ<|AP<|.a 2<|AU h fun z j h=>.mg 5 3 (Ap z) (.bi j)<|.a 1<|AU h fun I q h=>.mg 10 6 (Ap I) (DX q (k2:=fun e i=>by subst e;have h:=i;exact .a 2<|AU h fun J u h=>.mg 12 3 (Ap J) (.bi u)<|.aW<|EK))<|.aW<|Cm
def aLs (q:ByteArray) (j:(Int→Option Bool)) (J:(Int→Option Bool)):Int→Option Bool:=fun u=>(bif decide (u<(q.size:Int))then(Hf q u).bind fun L=>(fE L).bind fun M=>(bif (!M)then(Hf q u).bind fun z=>(j z).bind fun I=>some (!I)else some false).bind fun O=>(bif O then some false else J (Ai (u+1)))else some true)
def aHc (q:ByteArray) (j:(Int→Option Bool)):Int→Option Bool:=bI (aLs q j) Ag
def ZL (q:ByteArray) (j:(Int→Option Bool)):Option Bool:=(bif decide ((q.size:Int)<1)then some true else some (decide ((q.size:Int)>32))).bind fun u=>(bif u then some false else aHc q j 0)
def aST (z:ByteArray) (q:(Int→Option Bool)) (j:D) (u:UD Tryz.prog Ew Dx j q) (r:Bool) (h:ZL z q=some r):BI 233 [Dl z,.d j] [] (Ap r) []:=Ar.aN Tryz.func233 rfl<|AZ<|Ad<|AP<|.a 3<|AU h fun x1 L h=>.mg 9 4 (Ap x1) (.bi L)<|.bU<|BN h CZ fun h=>Ad<|AZ<|AQ.block<|Fl (fun Z=>⟨BM 33 [(0,Dl z),(1,.d j),(15,AY (z.size:Int)),(16,AY Z)],[],0⟩) _ _ _ (Ae 33 98307 []) h<|fun J14 k5 M Z h=>AZ<|Ad<|CU h (fun h=>Ad<|AQ.block<|AZ<|Df h fun x7 O x8 U h=>AP<|.a 2<|.p (WH (k:=.i64) O NU rfl)<|.ca (aIC x7 x8 U)<|.a 1<|AU h fun x9 Y h=>.mg 24 7 (Ap x9) (.bi Y (fun h=>Df h fun x11 I x12 J h=>.a 3<|.p (WH (k:=.i64) I NU rfl)<|.p (uG (d:=j) (u:UD Tryz.prog Ew Dx j q) J rfl)<|.aW<|EK))<|.bU<|BN h CZ fun h=>BJ<|.a 2<|.nil<|M _ _ (Ae 33 98307 []) h) fun h=>I8
def aAN (j:ByteArray):Option Bool:=(ZL j (fun a0=>oU a0)).bind fun q=>some q
def aoB (fH r) (h:aAN fH=some r):BI 142 [Dl fH] [] (Ap r) []:=Ar.aN Tryz.func142 rfl<|AZ<|AU h fun q j h=>AP<|.a 1<|.ca (aST fH (fun a0=>oU a0) (.fn (.func 234) [] []) ⟨234,[],rfl,adX,fun a0 b u=>ano a0 b u⟩ q j)<|.aW<|Cm
def nV (j:Int):Option Bool:=(bif (j==46)then some true else some (j==45)).bind fun q=>some q
def amv (jD r) (h:nV jD=some r):BI 235 [.d (Ew jD)] [] (Ap r) []:=Ar.aN Tryz.func235 rfl<|AZ<|AP<|.a 2<|AU h fun q j h=>.mg 5 3 (Ap q) (.bi j)<|.aW<|Cm
def aAE (j:ByteArray):Option Bool:=(ZL j (fun a0=>nV a0)).bind fun q=>(bif q then(Hf j 0).bind fun u=>(fE u).bind fun z=>some z else some false).bind fun I=>(bif I then(Hf j (Ai ((j.size:Int)-1))).bind fun J=>(fE J).bind fun L=>some L else some false).bind fun M=>some M
def acn (fH r) (h:aAE fH=some r):BI 143 [Dl fH] [] (Ap r) []:=Ar.aN Tryz.func143 rfl<|AZ<|AU h fun M j h=>AP<|.a 1<|.ca (aST fH (fun a0=>nV a0) (.fn (.func 235) [] []) ⟨235,[],rfl,akx,fun a0 b O=>amv a0 b O⟩ M j)<|.a 1<|AU h fun U q h=>.mg 6 3 (Ap U) (DX q (fun e i=>by subst e;have h:=i;exact Df h fun Y u Z z h=>.a 1<|.p (WH (k:=.i64) u NU rfl)<|.ca (aIC Y Z z)<|.aW<|EK))<|.a 1<|AU h fun x6 I h=>.mg 11 6 (Ap x6) (DX I (fun e i=>by subst e;have h:=i;exact Df h fun x8 J x9 L h=>.a 4<|.p (WH (k:=.i64) J NU rfl)<|.ca (aIC x8 x9 L)<|.aW<|EK))<|.aW<|Cm
def dz (j:ByteArray) (q:ByteArray):Option (ByteArray×ByteArray×Bool):=(bif (j.toList==BP.toList)then some true else(Hf j 0).bind fun L=>(strings_IndexByte q L).bind fun M=>some (decide (M<0))).bind fun O=>(bif O then some (BP,BP,false)else(NW j 1 ((j).size)).bind fun U=>(strings_Cut U lZ).bind fun u=>(bif (!u.2.2)then some true else(aAN u.1).bind fun z=>some (!z)).bind fun Y=>(bif Y then some true else(aAE u.2.1).bind fun I=>some (!I)).bind fun J=>(bif J then some (BP,BP,false)else some (u.1,u.2.1,true)))
def aXd (PD alT r) (h:dz PD alT=some r):BI 78 [Dl PD,Dl alT] [] (.eu [Dl r.1,Dl r.2.1,Ap r.2.2]) []:=Ar.aN Tryz.func78 rfl<|AZ<|Ad<|AP<|.a 2<|AU h fun x1 z h=>.mg 12 6 (Ap x1) (.bi z (k2:=fun h=>Df h fun x3 I x4 J h=>.a 2<|.p (WH (k:=.i64) I NU rfl)<|.ca (apF alT x3 x4 J)<|.aW<|EK))<|.bU<|BN h CZ fun h=>Df h fun x6 L M O h=>AP<|.a 1<|.p (aM8 L Un (fun _=>rfl) NU rfl)<|.ca (ajL x6 lZ M O)<|.aW<|Ad<|AP<|.a 2<|AU h fun x8 U h=>.mg 28 4 (Ap x8) (.bi U (k2:=fun h=>AU h fun Y j h=>.a 1<|.ca (aoB M.1 Y j)<|.aW<|EK))<|.a 1<|AU h fun Z q h=>.mg 34 3 (Ap Z) (DX q (k2:=fun e i=>by subst e;have h:=i;exact AU h fun GK u h=>.a 1<|.ca (acn M.2.1 GK u)<|.aW<|EK))<|.bU<|SX
def oD (q:ByteArray) (j:ByteArray):Option Int:=(dz q j).bind fun u=>(bif (!u.2.2)then some 3 else some 0)
def aXv (fH aoO r) (h:oD fH aoO=some r):BI 272 [Dl fH,Dl aoO] [] (AY r) []:=Ar.aN Tryz.func272 rfl<|AZ<|Ad<|AU h fun q j h=>AP<|.a 2<|.ca (aXd fH aoO q j)<|.aW<|AZ<|SX
def vK (j:ByteArray):Option Int:=(oD j nM).bind fun q=>some q
def aYJ (fH r) (h:vK fH=some r):BI 169 [Dl fH] [] (AY r) []:=Ar.aN Tryz.func169 rfl<|AZ<|AU h fun q j h=>AP<|.a 1<|.ca (aXv fH nM q j)<|.aW<|Cm
def aH (j:ByteArray):Option Int:=(oD j uI).bind fun q=>some q
def aDL (fH r) (h:aH fH=some r):BI 170 [Dl fH] [] (AY r) []:=Ar.aN Tryz.func170 rfl<|AZ<|AU h fun q j h=>AP<|.a 1<|.ca (aXv fH uI q j)<|.aW<|Cm
def aN9 (j:ByteArray) (k2:(Int→Option Bool)):Int→Option Bool:=fun q=>(bif decide (q<(j.size:Int))then(Hf j q).bind fun u=>(bif decide (u<33)then some true else(Hf j q).bind fun z=>some (decide (z>126))).bind fun I=>(bif I then some false else k2 (Ai (q+1)))else(bif decide ((j.size:Int)≥1)then some (decide ((j.size:Int)≤32))else some false).bind fun J=>some J)
def aV9 (j:ByteArray):Int→Option Bool:=bI (aN9 j) Ag
def aCG (j:ByteArray):Option Bool:=aV9 j 0
def ahv (anj r) (h:aCG anj=some r):BI 171 [Dl anj] [] (Ap r) []:=Ar.aN Tryz.func171 rfl<|AZ<|Ad<|AZ<|AQ.block<|Fl (fun J=>⟨BM 28 [(0,Dl anj),(5,AY (anj.size:Int)),(6,AY J)],[],0⟩) _ _ _ (Ae 28 97 []) h<|fun L k2 j J h=>AZ<|Ad<|CU h (fun h=>Ad<|AQ.block<|AZ<|AU h fun U q h=>AP<|.a 2<|.p (WH (k:=.i64) q NU rfl)<|.a 1<|AU h fun M u h=>.mg 13 5 (Ap M) (.bi u (k2:=fun h=>AU h fun Y z h=>.a 2<|.p (WH (k:=.i64) z NU rfl)<|.aW<|EK))<|.bU<|BN h CZ fun h=>BJ<|.a 2<|.nil<|j _ _ (Ae 28 97 []) h) fun h=>AQ.exit<|AP<|.a 3<|AU h fun O I h=>.mg 23 4 (Ap O) (.bi I)<|.aW<|Cm
def aBL (j:AL):Option Bool:=(vK j.Room).bind fun q=>(bif (q != 0)then some true else(aH j.aQ).bind fun u=>some (u != 0)).bind fun z=>(bif z then some false else(bif (j.Kind==2)then(aH j.Key).bind fun I=>some (I==0)else(bif (j.Kind==9)then(aCG j.Key).bind fun J=>some J else some true)))
def apT (bG r) (h:aBL bG=some r):BI 101 [DW bG] [] (Ap r) []:=Ar.aN Tryz.func101 rfl<|AZ<|Ad<|AU h fun J j h=>AP<|.a 2<|.ca (aYJ bG.Room J j)<|.a 1<|AU h fun L q h=>.mg 7 5 (Ap L) (.bi q (k2:=fun h=>AU h fun M u h=>.a 2<|.ca (aDL bG.aQ M u)<|.aW<|EK))<|.bU<|BN h CZ fun h=>Ad<|AZ<|AQ.block<|AZ<|EC h (fun h=>AU h fun O z h=>AP<|.a 2<|.ca (aDL bG.Key O z)<|.aW<|Cm) fun h=>AZ<|BN h (fun h=>AU h fun U I h=>AP<|.a 2<|.ca (ahv bG.Key U I)<|.aW<|Cm) fun h=>AZ<|Cm
def aIN (j:AB) (k2:(Int→Option Bool)):Int→Option Bool:=fun q=>(bif decide (q<(j.length:Int))then(Af j q).bind fun u=>(bif decide (u<0)then some true else(bif decide (q>0)then(Af j (Ai (q-1))).bind fun z=>some (decide (z≥u))else some false).bind fun I=>some I).bind fun J=>(bif J then some false else k2 (Ai (q+1)))else some true)
def abN (j:AB):Int→Option Bool:=bI (aIN j) Ag
def nS (j:AB):Option Bool:=abN j 0
def aXA (aA r) (h:nS aA=some r):BI 102 [CM aA] [] (Ap r) []:=Ar.aN Tryz.func102 rfl<|AZ<|Ad<|AP<|.a 1<|.p (BR Ac aA CQ rfl)<|.aW<|AQ.block<|Fl (fun J=>⟨BM 28 [(0,CM aA),(5,CM aA),(6,AY (aA.length:Int)),(7,AY J)],[],0⟩) _ _ _ (Ae 28 225 []) h<|fun L k2 j J h=>AZ<|Ad<|CU h (fun h=>Ad<|AQ.block<|AU h fun U q h=>AP<|.a 1<|.p (Bc Ac q CQ Dt rfl)<|.aW<|AP<|.a 2<|AU h fun M u h=>.mg 14 12 (Ap M) (.bi u (k2:=fun h=>.a 2<|AU h fun O z h=>.mg 17 8 (Ap O) (.bi z (fun h=>AU h fun Y I h=>.a 3<|.p (Bc Ac I CQ Dt rfl)<|.aW<|EK))<|.aW<|EK))<|.bU<|BN h CZ fun h=>BJ<|.a 2<|.nil<|j _ _ (Ae 28 225 []) h) fun h=>I8
def uN (j:Int):Option Bool:=(bif decide (j≥1)then some (decide (j≤14))else some false).bind fun q=>some q
def aQi (iR r) (h:uN iR=some r):BI 173 [AY iR] [] (Ap r) []:=Ar.aN Tryz.func173 rfl<|AZ<|AP<|.a 2<|AU h fun q j h=>.mg 5 3 (Ap q) (.bi j)<|.aW<|Cm
def aDp (j:Bf):Option Bool:=(bif ((j.Users.length:Int)==0)then some ((j.Kinds.length:Int)==0)else some false).bind fun I=>(bif I then some (j.User==0)else some false).bind fun J=>(bif J then some (j.Message==0)else some false).bind fun L=>(bif L then some (j.State==0)else some false).bind fun M=>(bif M then some (j.fG==0)else some false).bind fun O=>(bif O then some (j.jR==0)else some false).bind fun q=>(bif q then some (j.mZ==0)else some false).bind fun u=>(bif u then some (j.gB==0)else some false).bind fun z=>some z
def apv (aA r) (h:aDp aA=some r):BI 273 [NV aA] [] (Ap r) []:=Ar.aN Tryz.func273 rfl<|AZ<|AP<|.a 2<|.p (BR FN aA.Users IG rfl)<|.a 1<|AU h fun Z z h=>.mg 7 5 (Ap Z) (.bi z (fun h=>.a 2<|.p (BR Fp aA.Kinds Ij rfl)<|.aW<|EK))<|.a 1<|AU h fun x3 I h=>.mg 14 3 (Ap x3) (DX I)<|.a 1<|AU h fun x5 J h=>.mg 19 3 (Ap x5) (DX J)<|.a 1<|AU h fun x7 L h=>.mg 24 3 (Ap x7) (DX L)<|.a 1<|AU h fun x9 M h=>.mg 29 3 (Ap x9) (DX M)<|.a 1<|AU h fun O j h=>.mg 34 3 (Ap O) (DX j)<|.a 1<|AU h fun U q h=>.mg 39 3 (Ap U) (DX q)<|.a 1<|AU h fun Y u h=>.mg 44 3 (Ap Y) (DX u)<|.aW<|Cm
def aB3 (j:Int):Option Int:=some j
def aDu (j:Bj) (u:Int):Option Int:=(aDp j.Levels).bind fun q=>(bif (!q)then aB3 (ET .or .i64 u 128)else aB3 u)
def aAw (j:Bj) (q:Int):Option Int:=(bif decide ((j.gJ.length:Int)>0)then aDu j (ET .or .i64 q 64)else aDu j q)
def zJ (j:Bj) (q:Int):Option Int:=(bif decide ((j.Allow.length:Int)>0)then aAw j (ET .or .i64 q 32)else aAw j q)
def aEF (j:Bj) (q:Int):Option Int:=(bif (!(j.Via.toList==BP.toList))then zJ j (ET .or .i64 q 16)else zJ j q)
def aBH (j:Bj) (q:Int):Option Int:=(bif j.Thread then aEF j (ET .or .i64 q 8)else aEF j q)
def aBB (j:Bj) (q:Int):Option Int:=(bif (j.Target != 0)then aBH j (ET .or .i64 q 4)else aBH j q)
def aET (j:Bj) (q:Int):Option Int:=(bif (j.N != 0)then aBB j (ET .or .i64 q 2)else aBB j q)
def uZ (j:Bj):Option Int:=(bif (!(j.Text.toList==BP.toList))then aET j (ET .or .i64 0 1)else aET j 0)
def aQt (jD r) (h:uZ jD=some r):BI 174 [Ld jD] [] (AY r) []:=Ar.aN Tryz.func174 rfl<|AZ<|AZ<|Dv (fun s=>∃(j:Int),CX s ⟨BM 47 [(1,.ptr 0 0),(3,AY j)],[.box (BG (GU jD))],0⟩∧aET jD j=some r) (by rintro s ⟨j,hs,h⟩;exact DI hs<|Dv (fun s=>∃(q:Int),CX s ⟨BM 47 [(1,.ptr 0 0),(3,AY q)],[.box (BG (GU jD))],0⟩∧aBB jD q=some r) (by rintro s ⟨q,hs,h⟩;exact DI hs<|Dv (fun s=>∃(z:Int),CX s ⟨BM 47 [(1,.ptr 0 0),(3,AY z)],[.box (BG (GU jD))],0⟩∧aBH jD z=some r) (by rintro s ⟨z,hs,h⟩;exact DI hs<|Dv (fun s=>∃(I:Int),CX s ⟨BM 47 [(1,.ptr 0 0),(3,AY I)],[.box (BG (GU jD))],0⟩∧aEF jD I=some r) (by rintro s ⟨I,hs,h⟩;exact DI hs<|Dv (fun s=>∃(J:Int),CX s ⟨BM 47 [(1,.ptr 0 0),(3,AY J)],[.box (BG (GU jD))],0⟩∧zJ jD J=some r) (by rintro s ⟨J,hs,h⟩;exact DI hs<|Dv (fun s=>∃(L:Int),CX s ⟨BM 47 [(1,.ptr 0 0),(3,AY L)],[.box (BG (GU jD))],0⟩∧aAw jD L=some r) (by rintro s ⟨L,hs,h⟩;exact DI hs<|Dv (fun s=>∃(M:Int),CX s ⟨BM 47 [(1,.ptr 0 0),(3,AY M)],[.box (BG (GU jD))],0⟩∧aDu jD M=some r) (by rintro s ⟨M,hs,h⟩;exact DI hs<|Dv (fun s=>∃(v8:Int),CX s ⟨BM 47 [(3,AY v8)],[],0⟩∧aB3 v8=some r) (by rintro s ⟨v8,hs,h⟩;exact DI hs<|AZ<|Cm)<|fun K9=>AU h fun x10 O h=>AP<|.a 2<|.ca (apv jD.Levels x10 O)<|.aW<|BN h (fun h=>BJ<|.a 1<|.p (Wp (k:=.i64) (u:=M) (v:=128) rfl)<|.a 1<|.nil<|K9 _ ⟨(ET .or .i64 M 128),Ae 47 8 [],h⟩) fun h=>K9 _ ⟨M,Ae 47 8 [],h⟩)<|fun U=>AP<|.a 2<|.p (BR DK jD.gJ Hl rfl)<|.aW<|BN h (fun h=>BJ<|.a 1<|.p (Wp (k:=.i64) (u:=L) (v:=64) rfl)<|.a 1<|.nil<|U _ ⟨(ET .or .i64 L 64),Ae 47 10 [(0,true)],h⟩) fun h=>U _ ⟨L,Ae 47 10 [(0,true)],h⟩)<|fun Y=>AP<|.a 2<|.p (BR DK jD.Allow Hl rfl)<|.aW<|BN h (fun h=>BJ<|.a 1<|.p (Wp (k:=.i64) (u:=J) (v:=32) rfl)<|.a 1<|.nil<|Y _ ⟨(ET .or .i64 J 32),Ae 47 10 [(0,true)],h⟩) fun h=>Y _ ⟨J,Ae 47 10 [(0,true)],h⟩)<|fun Z=>AZ<|BN h (fun h=>BJ<|.a 1<|.p (Wp (k:=.i64) (u:=I) (v:=16) rfl)<|.a 1<|.nil<|Z _ ⟨(ET .or .i64 I 16),Ae 47 10 [(0,true)],h⟩) fun h=>Z _ ⟨I,Ae 47 10 [(0,true)],h⟩)<|fun K18=>AZ<|BN h (fun h=>BJ<|.a 1<|.p (Wp (k:=.i64) (u:=z) (v:=8) rfl)<|.a 1<|.nil<|K18 _ ⟨(ET .or .i64 z 8),Ae 47 10 [(0,true)],h⟩) fun h=>K18 _ ⟨z,Ae 47 10 [(0,true)],h⟩)<|fun K20=>AZ<|BN h (fun h=>BJ<|.a 1<|.p (Wp (k:=.i64) (u:=q) (v:=4) rfl)<|.a 1<|.nil<|K20 _ ⟨(ET .or .i64 q 4),Ae 47 10 [(0,true)],h⟩) fun h=>K20 _ ⟨q,Ae 47 10 [(0,true)],h⟩)<|fun K22=>AZ<|BN h (fun h=>BJ<|.a 1<|.p (Wp (k:=.i64) (u:=j) (v:=2) rfl)<|.a 1<|.nil<|K22 _ ⟨(ET .or .i64 j 2),Ae 47 10 [(0,true)],h⟩) fun h=>K22 _ ⟨j,Ae 47 10 [(0,true)],h⟩)<|fun K24=>AZ<|BN h (fun h=>BJ<|.a 1<|.p (Wp (k:=.i64) (u:=0) (v:=1) rfl)<|.a 1<|.nil<|K24 _ ⟨(ET .or .i64 0 1),Ae 47 10 [(0,true)],h⟩) fun h=>K24 _ ⟨0,Ae 47 10 [(0,true)],h⟩
def aKU (j:ByteArray) (u:(Int→Option Int)):Int→Option Int:=fun q=>(bif decide (q<(j.size:Int))then(Hf j q).bind fun z=>(bif decide (z<33)then some true else(Hf j q).bind fun I=>some (decide (I>126))).bind fun J=>(bif J then some 3 else u (Ai (q+1)))else some 0)
def aI4 (j:ByteArray):Int→Option Int:=bI (aKU j) Ag
def wZ (j:ByteArray):Option Int:=(bif (j.toList==BP.toList)then some 9 else(bif decide ((j.size:Int)>64)then some 7 else aI4 j 0))
def aTz (alU r) (h:wZ alU=some r):BI 274 [Dl alU] [] (AY r) []:=Ar.aN Tryz.func274 rfl<|AZ<|Ad<|AQ.block<|AZ<|EC h CZ fun h=>AZ<|BN h CZ fun h=>Ad<|AZ<|AQ.block<|Fl (fun I=>⟨BM 27 [(0,Dl alU),(12,AY (alU.size:Int)),(13,AY I)],[],0⟩) _ _ _ (Ae 27 12289 []) h<|fun J M j I h=>AZ<|Ad<|CU h (fun h=>Ad<|AQ.block<|AZ<|AU h fun O q h=>AP<|.a 2<|.p (WH (k:=.i64) q NU rfl)<|.a 1<|AU h fun L u h=>.mg 20 5 (Ap L) (.bi u (k2:=fun h=>AU h fun U z h=>.a 2<|.p (WH (k:=.i64) z NU rfl)<|.aW<|EK))<|.bU<|BN h CZ fun h=>BJ<|.a 2<|.nil<|j _ _ (Ae 27 12289 []) h) fun h=>I8
def aOJ (j:Fe) (z:(Int→Option Int)):Int→Option Int:=fun q=>(bif decide (q<(j.length:Int))then(Af j q).bind fun I=>(wZ I).bind fun u=>(bif (u != 0)then some u else z (Ai (q+1)))else some 0)
def aTQ (j:Fe):Int→Option Int:=bI (aOJ j) Ag
def Wx (j:Fe):Option Int:=(bif decide ((j.length:Int)>100)then some 7 else aTQ j 0)
def aS3 (aA r) (h:Wx aA=some r):BI 181 [Jd aA] [] (AY r) []:=Ar.aN Tryz.func181 rfl<|AZ<|Ad<|AP<|.a 1<|.p (BR DK aA Hl rfl)<|.aW<|BN h CZ fun h=>Ad<|AP<|.a 1<|.p (BR DK aA Hl rfl)<|.aW<|AQ.block<|Fl (fun z=>⟨BM 21 [(9,Jd aA),(10,AY (aA.length:Int)),(11,AY z)],[],0⟩) _ _ _ (Ae 21 3584 []) h<|fun L M j z h=>AZ<|Ad<|CU h (fun h=>Ad<|AQ.block<|AU h fun I q h=>AP<|.p (Bc DK q Hl Nr rfl)<|.aW<|AU h fun J u h=>AP<|.a 1<|.ca (aTz I J u)<|.aW<|AZ<|BN h CZ fun h=>BJ<|.a 2<|.nil<|j _ _ (Ae 21 3584 []) h) fun h=>I8
def iO (j:Int):Option Bool:=(bif decide (j<(-1000))then some true else some (decide (j>1000))).bind fun q=>some q
def aKJ (aEK r) (h:iO aEK=some r):BI 277 [AY aEK] [] (Ap r) []:=Ar.aN Tryz.func277 rfl<|AZ<|AP<|.a 2<|AU h fun q j h=>.mg 5 3 (Ap q) (.bi j)<|.aW<|Cm
def aAX (q:Hz) (u:(Int→Option Int)) (z:Int) (I:Bool):Option Int:=(bif I then some 8 else(iO q.N).bind fun j=>(bif j then some 2 else u (Ai (z+1))))
abbrev MG:=List Hz
def aG8 (j:MG) (I:(Int→Option Int)):Int→Option Int:=fun q=>(bif decide (q<(j.length:Int))then(Af j q).bind fun u=>(aH u.User).bind fun J=>(bif (J != 0)then some 3 else(bif decide (q>0)then(Af j (Ai (q-1))).bind fun z=>aAX u I q (Op.bytesLess (u.User.toList) (z.User.toList)||u.User.toList==z.User.toList)else aAX u I q false))else some 0)
def aXD (j:MG):Int→Option Int:=bI (aG8 j) Ag
def aCk (j:MG):Option Int:=(bif decide ((j.length:Int)>100)then some 7 else aXD j 0)
def anD (aA r) (h:aCk aA=some r):BI 275 [Qe aA] [] (AY r) []:=Ar.aN Tryz.func275 rfl<|AZ<|Ad<|AP<|.a 1<|.p (BR FN aA IG rfl)<|.aW<|BN h CZ fun h=>Ad<|AP<|.a 1<|.p (BR FN aA IG rfl)<|.aW<|AQ.block<|Fl (fun L=>⟨BM 39 [(0,Qe aA),(8,Qe aA),(9,AY (aA.length:Int)),(10,AY L)],[],0⟩) _ _ _ (Ae 39 1793 []) h<|fun J15 k3 M L h=>AZ<|Ad<|CU h (fun h=>Ad<|AQ.block<|AU h fun q O h=>AP<|.a 1<|.p (Bc FN O IG Ot rfl)<|.aW<|AQ.block<|AU h fun x6 U h=>AP<|.a 2<|.ca (aDL q.User x6 U)<|.aW<|EC h CZ fun h=>Dv (fun s=>∃(Y:Bool),CX s ⟨BM 39 [(0,Qe aA),(4,.ptr 0 0),(8,Qe aA),(9,AY (aA.length:Int)),(10,AY L),(20,Ap Y)],[.box (BG (FN q))],0⟩∧aAX q k3 L Y=some r) (by rintro s ⟨Y,hs,h⟩;exact DI hs<|EC h CZ fun h=>AU h fun Z u h=>AP<|.a 2<|.ca (aKJ q.N Z u)<|.aW<|BN h CZ fun h=>BJ<|.a 2<|.nil<|M _ _ (Ae 39 1793 []) h)<|fun z=>G6 h (fun j h=>AU h fun I J h=>AQ.draw A8 A8 A8 (.a 2<|.c (Aq some j)<|.a 5<|.p (Bc FN J IG Ot rfl)<|.a 5<|.nil _)<|z _ ⟨(Op.bytesLess (q.User.toList) (I.User.toList)||q.User.toList==I.User.toList),Ae 39 1050385 [(0,true)],h⟩) fun j h=>AQ.draw A8 A8 A8 (.a 2<|.c (Aq some j)<|.a 11<|.nil _)<|z _ ⟨false,Ae 39 1050385 [(0,true)],h⟩) fun h=>I8
def SPr (q:J8) (u:(Int→Option Int)) (z:Int) (I:Bool):Option Int:=(bif I then some 8 else(iO q.N).bind fun j=>(bif j then some 2 else u (Ai (z+1))))
abbrev MX:=List J8
def aHs (j:MX) (I:(Int→Option Int)):Int→Option Int:=fun q=>(bif decide (q<(j.length:Int))then(Af j q).bind fun u=>(uN u.Kind).bind fun J=>(bif (!J)then some 1 else(bif decide (q>0)then(Af j (Ai (q-1))).bind fun z=>SPr u I q (decide (u.Kind≤z.Kind))else SPr u I q false))else some 0)
def aWJ (j:MX):Int→Option Int:=bI (aHs j) Ag
def aFT (j:MX):Option Int:=(bif decide ((j.length:Int)>100)then some 7 else aWJ j 0)
def aiN (aA r) (h:aFT aA=some r):BI 276 [Qr aA] [] (AY r) []:=Ar.aN Tryz.func276 rfl<|AZ<|Ad<|AP<|.a 1<|.p (BR Fp aA Ij rfl)<|.aW<|BN h CZ fun h=>Ad<|AP<|.a 1<|.p (BR Fp aA Ij rfl)<|.aW<|AQ.block<|Fl (fun J=>⟨BM 39 [(0,Qr aA),(8,Qr aA),(9,AY (aA.length:Int)),(10,AY J)],[],0⟩) _ _ _ (Ae 39 1793 []) h<|fun J15 k3 L J h=>AZ<|Ad<|CU h (fun h=>Ad<|AQ.block<|AU h fun q M h=>AP<|.a 1<|.p (Bc Fp M Ij Px rfl)<|.aW<|AQ.block<|AU h fun x6 O h=>AP<|.a 2<|.ca (aQi q.Kind x6 O)<|.aW<|EC h CZ fun h=>Dv (fun s=>∃(U:Bool),CX s ⟨BM 39 [(0,Qr aA),(4,.ptr 0 0),(8,Qr aA),(9,AY (aA.length:Int)),(10,AY J),(20,Ap U)],[.box (BG (Fp q))],0⟩∧SPr q k3 J U=some r) (by rintro s ⟨U,hs,h⟩;exact DI hs<|EC h CZ fun h=>AU h fun Y u h=>AP<|.a 2<|.ca (aKJ q.N Y u)<|.aW<|BN h CZ fun h=>BJ<|.a 2<|.nil<|L _ _ (Ae 39 1793 []) h)<|fun z=>G6 h (fun j h=>AU h fun Z I h=>AQ.draw A8 A8 A8 (.a 2<|.c (Aq some j)<|.a 5<|.p (Bc Fp I Ij Px rfl)<|.a 5<|.nil _)<|z _ ⟨(decide (q.Kind≤Z.Kind)),Ae 39 1050385 [(0,true)],h⟩) fun j h=>AQ.draw A8 A8 A8 (.a 2<|.c (Aq some j)<|.a 11<|.nil _)<|z _ ⟨false,Ae 39 1050385 [(0,true)],h⟩) fun h=>I8
def aVV (j:Bf) (u:(Int→Option Int)):Int→Option Int:=fun q=>(bif decide (q<7)then(Af ([j.User,j.Message,j.State,j.fG,j.jR,j.mZ,j.gB]:AB) q).bind fun z=>(iO z).bind fun I=>(bif I then some 2 else u (Ai (q+1)))else some 0)
def aH7 (j:Bf):Int→Option Int:=bI (aVV j) Ag
def cG (j:Bf):Option Int:=(aCk j.Users).bind fun q=>(bif (q != 0)then some q else(aFT j.Kinds).bind fun u=>(bif (u != 0)then some u else aH7 j 0))
def abt (aA r) (h:cG aA=some r):BI 182 [NV aA] [] (AY r) []:=Ar.aN Tryz.func182 rfl<|AZ<|Ad<|AU h fun L j h=>AP<|.a 2<|.ca (anD aA.Users L j)<|.aW<|AZ<|BN h CZ fun h=>Ad<|AU h fun M q h=>AP<|.a 2<|.ca (aiN aA.Kinds M q)<|.aW<|AZ<|BN h CZ fun h=>Ad<|AZ<|AQ.block<|Fl (fun J=>⟨BM 40 [(33,.d ((MN Ac) ([aA.User,aA.Message,aA.State,aA.fG,aA.jR,aA.mZ,aA.gB]:(List Int)))),(34,AY J)],[],0⟩) _ _ _ (Ae 40 25769803776 []) h<|fun O Z u J h=>AZ<|Ad<|CU h (fun h=>Ad<|AQ.block<|AU h fun U z h=>AP<|.p (aDc (k:=.i64) Ac z aAn Dt A8 rfl)<|.aW<|AU h fun Y I h=>AP<|.a 1<|.ca (aKJ U Y I)<|.bU<|BN h CZ fun h=>BJ<|.a 2<|.nil<|u _ _ (Ae 40 25769803776 []) h) fun h=>I8
def aF3 (j:Bool):Option Int:=(bif j then some 7 else some 0)
def Qd (q:Int) (j:Bj):Option Int:=(bif (q==9)then some (!(j.Text.toList==BP.toList))else some false).bind fun z=>(bif z then(wZ j.Text).bind fun I=>some I else(bif (q==12)then some (j.Text.toList==BP.toList)else some false).bind fun J=>(bif J then some 9 else(bif (q==12)then some (decide ((j.Text.size:Int)>32))else some false).bind fun u=>(bif u then aF3 u else aF3 (decide ((j.Text.size:Int)>400)))))
def aoh (iR jE r) (h:Qd iR jE=some r):BI 175 [AY iR,Ld jE] [] (AY r) []:=Ar.aN Tryz.func175 rfl<|AZ<|Ad<|AQ.block<|AP<|.a 2<|AU h fun L u h=>.mg 8 4 (Ap L) (.bi u)<|.aW<|EC h (fun h=>AU h fun M z h=>AP<|.a 2<|.ca (aTz jE.Text M z)<|.aW<|Cm) fun h=>AP<|.a 2<|AU h fun O I h=>.mg 19 4 (Ap O) (.bi I)<|.aW<|EC h CZ fun h=>Dv (fun s=>∃(J:Bool),CX s ⟨BM 37 [(24,Ap J)],[],0⟩∧aF3 J=some r) (by rintro s ⟨J,hs,h⟩;exact DI hs<|SX)<|fun K10=>AP<|.a 2<|AU h fun j q h=>.mg 27 5 (Ap j) (.bi q)<|.aW<|CU h (fun h=>K10 _ ⟨j,Ae 37 16777216 [],h⟩) fun h=>BJ<|.a 5<|.nil<|K10 _ ⟨(decide ((jE.Text.size:Int)>400)),Ae 37 16777216 [],h⟩
def oV (j:Bj) (q:Int) (u:Int):Option Int:=(bif decide (j.N<q)then some true else some (decide (j.N>u))).bind fun z=>(bif z then some 2 else some 0)
def OQ (q:Int) (j:Bj):Option Int:=(bif (q==2)then oV j 0 4 else(bif (q==8)then oV j 0 1000000000 else(bif (q==10)then oV j 1 10000 else(bif (q==9)then(bif (j.N==1)then some true else some (j.N==2)).bind fun u=>(bif u then some true else some (j.N==6)).bind fun z=>(bif z then some 0 else some 2)else oV j 0 3))))
def afV (iR jE r) (h:OQ iR jE=some r):BI 176 [AY iR,Ld jE] [] (AY r) []:=Ar.aN Tryz.func176 rfl<|AZ<|AZ<|Dv (fun s=>∃(u:Int) (z:Int),CX s ⟨BM 39 [(3,.ptr 0 0),(5,AY u),(6,AY z)],[.box (BG (GU jE))],0⟩∧oV jE u z=some r) (by rintro s ⟨u,z,hs,h⟩;exact DI hs<|Ad<|AP<|.a 4<|AU h fun M I h=>.mg 33 5 (Ap M) (.bi I)<|.bU<|SX)<|fun K6=>AZ<|AQ.block<|AZ<|EC h (fun h=>BJ<|.a 1<|.nil<|K6 _ ⟨0,4,Ae 39 104 [(0,true)],h⟩) fun h=>AZ<|EC h (fun h=>BJ<|.a 1<|.nil<|K6 _ ⟨0,1000000000,Ae 39 104 [(0,true)],h⟩) fun h=>AZ<|EC h (fun h=>BJ<|.a 2<|.nil<|K6 _ ⟨1,10000,Ae 39 104 [(0,true)],h⟩) fun h=>AZ<|BN h (fun h=>Ad<|AZ<|AP<|.a 2<|AU h fun J j h=>.mg 21 3 (Ap J) (.bi j)<|.a 1<|AU h fun L q h=>.mg 26 2 (Ap L) (DX q)<|.bU<|SX) fun h=>K6 _ ⟨0,3,Ae 39 104 [(0,true)],h⟩
def SH (q:Int) (j:Bj):Option Int:=(bif decide (j.Target<0)then some true else(bif (j.Target==0)then some (q != 11)else some false).bind fun u=>some u).bind fun z=>(bif z then some 2 else some 0)
def amH (iR jE r) (h:SH iR jE=some r):BI 177 [AY iR,Ld jE] [] (AY r) []:=Ar.aN Tryz.func177 rfl<|AZ<|Ad<|AP<|.a 3<|AU h fun u j h=>.mg 8 8 (Ap u) (.bi j (k2:=fun h=>.a 3<|AU h fun z q h=>.mg 12 3 (Ap z) (.bi q)<|.aW<|EK))<|.bU<|SX
def dJ (q:Int) (j:Bj):Option Int:=(bif j.Thread then some (j.Target==0)else some false).bind fun u=>(bif u then some 1 else some 0)
def afx (iR jE r) (h:dJ iR jE=some r):BI 178 [AY iR,Ld jE] [] (AY r) []:=Ar.aN Tryz.func178 rfl<|AZ<|Ad<|AP<|.a 2<|AU h fun q j h=>.mg 7 4 (Ap q) (.bi j)<|.bU<|SX
def aC (q:Int) (j:Bj):Option Int:=(bif (j.Via.toList==BP.toList)then some 0 else(bif (j.N != 3)then some 1 else(aH j.Via).bind fun u=>some u))
def anQ (iR jE r) (h:aC iR jE=some r):BI 179 [AY iR,Ld jE] [] (AY r) []:=Ar.aN Tryz.func179 rfl<|AZ<|Ad<|AQ.block<|AZ<|EC h CZ fun h=>AZ<|BN h CZ fun h=>AU h fun q j h=>AP<|.a 2<|.ca (aDL jE.Via q j)<|.aW<|Cm
def aLK (j:Bj) (L:(Int→Option Int)):Int→Option Int:=fun u=>(bif decide (u<(j.Allow.length:Int))then(Af j.Allow u).bind fun q=>(vK q).bind fun I=>(bif (I != 0)then some 3 else(bif decide (u>0)then(Af j.Allow (Ai (u-1))).bind fun z=>some (Op.bytesLess (q.toList) (z.toList)||q.toList==z.toList)else some false).bind fun J=>(bif J then some 8 else L (Ai (u+1))))else some 0)
def abI (j:Bj):Int→Option Int:=bI (aLK j) Ag
def WL (q:Int) (j:Bj):Option Int:=(bif (q==6)then(Wx j.Allow).bind fun u=>some u else(bif decide ((j.Allow.length:Int)>0)then some (j.N != 3)else some false).bind fun z=>(bif z then some 1 else(bif decide ((j.Allow.length:Int)>100)then some 7 else abI j 0)))
def amV (iR jE r) (h:WL iR jE=some r):BI 180 [AY iR,Ld jE] [] (AY r) []:=Ar.aN Tryz.func180 rfl<|AZ<|Ad<|AQ.block<|AZ<|EC h (fun h=>AU h fun Z I h=>AP<|.a 2<|.ca (aS3 jE.Allow Z I)<|.aW<|Cm) fun h=>AP<|.a 2<|.p (BR DK jE.Allow Hl rfl)<|.a 1<|AU h fun x3 J h=>.mg 18 4 (Ap x3) (.bi J)<|.aW<|EC h CZ fun h=>AP<|.a 2<|.p (BR DK jE.Allow Hl rfl)<|.aW<|BN h CZ fun h=>Ad<|AP<|.a 2<|.p (BR DK jE.Allow Hl rfl)<|.aW<|AQ.block<|Fl (fun Y=>⟨BM 52 [(3,.ptr 0 0),(29,Jd jE.Allow),(30,AY (jE.Allow.length:Int)),(31,AY Y)],[.box (BG (GU jE))],0⟩) _ _ _ (Ae 52 3758096392 [(0,true)]) h<|fun J17 k8 L Y h=>AZ<|Ad<|CU h (fun h=>Ad<|AQ.block<|AU h fun M j h=>AP<|.a 1<|.p (Bc DK j Hl Nr rfl)<|.aW<|Ad<|AU h fun O q h=>AP<|.a 1<|.ca (aYJ M O q)<|.aW<|BN h CZ fun h=>AP<|.a 2<|AU h fun U u h=>.mg 41 9 (Ap U) (.bi u (fun h=>AU h fun x15 z h=>.a 5<|.p (Bc DK z Hl Nr rfl)<|.aW<|EK))<|.bU<|BN h CZ fun h=>BJ<|.a 2<|.nil<|L _ _ (Ae 52 3758096392 [(0,true)]) h) fun h=>I8
def aAA (n:Nat) (a0:Int) (j:Bj):Option Int:=bif n==175 then Qd a0 j else bif n==176 then OQ a0 j else bif n==177 then SH a0 j else bif n==178 then dJ a0 j else bif n==179 then aC a0 j else bif n==180 then WL a0 j else none
def ake (n a0 j r) (h:aAA n a0 j=some r):WV Tryz.prog Ac GU Ac (aTg n) (aAA n):=by
 by_cases u:n=175
 ·subst u;exact⟨175,[],rfl,agl,fun a0 j c q=>aoh a0 j c q⟩
 by_cases z:n=176
 ·subst z;exact⟨176,[],rfl,ace,fun a0 j c q=>afV a0 j c q⟩
 by_cases I:n=177
 ·subst I;exact⟨177,[],rfl,agp,fun a0 j c q=>amH a0 j c q⟩
 by_cases J:n=178
 ·subst J;exact⟨178,[],rfl,ao4,fun a0 j c q=>afx a0 j c q⟩
 by_cases L:n=179
 ·subst L;exact⟨179,[],rfl,afH,fun a0 j c q=>anQ a0 j c q⟩
 by_cases M:n=180
 ·subst M;exact⟨180,[],rfl,ahW,fun a0 j c q=>amV a0 j c q⟩
 rw[aAA,eG u,eG z,eG I,eG J,eG L,eG M]at h;have h:(none:Option Int)=some r:=h;cases h
def ZG :(List OZ):=[(⟨1,175⟩:OZ),(⟨2,176⟩:OZ),(⟨4,177⟩:OZ),(⟨8,178⟩:OZ),(⟨16,179⟩:OZ),(⟨32,180⟩:OZ)]
def aNT (j:(Int→Bj→Option Int)) (q:Int) (u:Bj):Option Int:=j (Ai (q+1)) u
def YK (L:Int) (u:Int) (z:(Int→Bj→Option Int)):Int→Bj→Option Int:=fun q j=>(bif decide (q<(ZG.length:Int))then(Af ZG q).bind fun I=>(bif ((ET .and .i64 L I.aAy)==0)then aNT z q j else(aAA I.asL u j).bind fun J=>(bif (J != 0)then some J else aNT z q j))else(bif ((ET .and .i64 L 64) != 0)then(Wx j.gJ).bind fun M=>some M else(bif ((ET .and .i64 L 128) != 0)then(cG j.Levels).bind fun O=>some O else some 0)))
def Lh (q:Int) (j:Int):Int→Bj→Option Int:=aV (YK q j) Ag
def L9 (j:Int) (q:Bj):Option Int:=(fF j).bind fun z=>(uN j).bind fun I=>(bif (!I)then some true else(uZ q).bind fun J=>some ((ET .andNot .i64 J z) != 0)).bind fun L=>(bif L then some 1 else(uZ q).bind fun M=>(bif (M==0)then(kZ j).bind fun u=>some (u==0)else some false).bind fun O=>(bif O then some 0 else Lh z j 0 q))
def ahN (iR jE r) (h:L9 iR jE=some r):BI 103 [AY iR,Ld jE] [] (AY r) []:=Ar.aN Tryz.func103 rfl<|AZ<|AU h fun I hx1 h=>AP<|.a 1<|.ca (aYx iR I hx1)<|.aW<|Ad<|AU h fun x2 hx2 h=>AP<|.a 1<|.ca (aQi iR x2 hx2)<|.a 1<|AU h fun x3 hx3 h=>.mg 15 6 (Ap x3) (.bi hx3 (k2:=fun h=>AU h fun x5 hx5 h=>.a 1<|.ca (aQt jE x5 hx5)<|.a 1<|.p (abY (k:=.i64) (u:=x5) (v:=I) rfl)<|.aW<|EK))<|.bU<|BN h CZ fun h=>Ad<|AU h fun x7 hx7 h=>AP<|.a 1<|.ca (aQt jE x7 hx7)<|.a 1<|AU h fun x8 Cb h=>.mg 25 4 (Ap x8) (.bi Cb (fun h=>AU h fun x10 J h=>.a 1<|.ca (aaQ iR x10 J)<|.aW<|EK))<|.bU<|BN h CZ fun h=>AP<|.a 6<|.p (F6 an6 aPr [V5 (⟨1,175⟩:OZ),V5 (⟨2,176⟩:OZ),V5 (⟨4,177⟩:OZ),V5 (⟨8,178⟩:OZ),V5 (⟨16,179⟩:OZ),V5 (⟨32,180⟩:OZ)] rfl)<|.aW<|Ad<|AP<|.a 1<|.p (BR V5 ZG aVv rfl)<|.aW<|AQ.block<|Em (fun q j=>⟨BM 69 [(0,AY iR),(3,.ptr 0 0),(5,AY I),(37,.d ((BL V5) ZG)),(38,AY (ZG.length:Int)),(39,AY q)],[.box (BG (GU j))],0⟩) _ _ _ _ (Ae 69 962072674345 [(0,true)]) h<|fun J25 k14 L q j h=>AZ<|Ad<|CU h (fun h=>Dv (fun s=>CX s ⟨BM 69 [(0,AY iR),(3,.ptr 0 0),(5,AY I),(37,.d ((BL V5) ZG)),(38,AY (ZG.length:Int)),(39,AY q)],[.box (BG (GU j))],0⟩∧aNT k14 q j=some r) (by rintro s ⟨hs,h⟩;exact DI hs<|BJ<|.a 2<|.nil<|L _ _ _ (Ae 69 962072674345 [(0,true)]) h)<|fun M=>AQ.block<|AU h fun O U h=>AP<|.p (Bc V5 U aVv aQl rfl)<|.aW<|Ad<|AP<|.a 3<|.p (Qz (k:=.i64) (u:=I) (v:=O.aAy) rfl)<|.aW<|BN h (fun h=>AQ.exit<|M _ ⟨Ae 69 962072674345 [(0,true)],h⟩) fun h=>AU h fun x19 z h=>AP<|.a 4<|.p (Xm (ake O.asL iR j x19 z) z rfl)<|.aW<|AZ<|BN h CZ fun h=>M _ ⟨Ae 69 962072674345 [(0,true)],h⟩) fun h=>AQ.exit<|Ad<|AP<|.a 1<|.p (Qz (k:=.i64) (u:=I) (v:=64) rfl)<|.aW<|BN h (fun h=>AU h fun Gz Y h=>AP<|.a 2<|.ca (aS3 j.gJ Gz Y)<|.aW<|Cm) fun h=>Ad<|AP<|.a 1<|.p (Qz (k:=.i64) (u:=I) (v:=128) rfl)<|.aW<|BN h (fun h=>AU h fun x24 Z h=>AP<|.a 2<|.ca (abt j.Levels x24 Z)<|.aW<|Cm) fun h=>AZ<|Cm
def Y0 (j:AL) (U:Bool):Option Int:=(bif U then some 1 else(aBL j).bind fun Y=>(bif (!Y)then some 3 else(bif decide (j.Time<0)then some true else some (decide (j.Time>1000000000))).bind fun Z=>(bif Z then some true else some (decide (j.Depth<1))).bind fun x9=>(bif x9 then some true else some (decide (j.Depth>100000))).bind fun q=>(bif q then some 2 else(bif decide ((j.aU.length:Int)>10)then some true else some (decide ((j.aZ.length:Int)>8))).bind fun u=>(bif u then some 7 else(nS j.aU).bind fun z=>(bif (!z)then some true else(nS j.aZ).bind fun I=>some (!I)).bind fun J=>(bif J then some 8 else(bif ((j.aU.length:Int)==0)then some (j.Kind != 1)else some false).bind fun L=>(bif L then some 9 else(bif (j.Kind==1)then some (decide ((Ai ((j.aU.length:Int)+(j.aZ.length:Int)))>0))else some false).bind fun M=>(bif M then some 6 else(L9 j.Kind j.Content).bind fun O=>some O)))))))
def QW (j:AL):Option Int:=(bif (j.Kind==2)then some true else some (j.Kind==9)).bind fun u=>(bif decide (j.Kind<1)then Y0 j true else(bif decide (j.Kind>14)then Y0 j true else(Yl j.Kind).bind fun q=>(bif (!(j.State==q))then Y0 j true else(bif (!(j.Key.toList==BP.toList))then Y0 j (!u)else Y0 j false))))
def zD (bG r) (h:QW bG=some r):BI 46 [DW bG] [] (AY r) []:=Ar.aN Tryz.func46 rfl<|AZ<|AP<|.a 3<|AU h fun x1 hx1 h=>.mg 7 4 (Ap x1) (.bi hx1)<|.aW<|Ad<|AQ.block<|Dv (fun s=>∃(v3:Bool),CX s ⟨BM 112 [(1,.ptr 0 0),(12,Ap v3)],[.box (BG (BH bG))],0⟩∧Y0 bG v3=some r) (by rintro s ⟨v3,hs,h⟩;exact DI hs<|EC h CZ fun h=>AU h fun x5 hx5 h=>AP<|.a 1<|.ca (apT bG x5 hx5)<|.aW<|EC h CZ fun h=>AP<|.a 3<|AU h fun x7 hx7 h=>.mg 46 4 (Ap x7) (.bi hx7)<|.a 1<|AU h fun x9 Aa h=>.mg 52 3 (Ap x9) (DX Aa)<|.a 1<|AU h fun x11 M h=>.mg 57 3 (Ap x11) (DX M)<|.aW<|EC h CZ fun h=>AP<|.a 2<|.p (BR Ac bG.aU CQ rfl)<|.a 1<|AU h fun x14 O h=>.mg 66 5 (Ap x14) (.bi O (k2:=fun h=>.a 2<|.p (BR Ac bG.aZ CQ rfl)<|.aW<|EK))<|.aW<|EC h CZ fun h=>AU h fun x17 U h=>AP<|.a 2<|.ca (aXA bG.aU x17 U)<|.a 1<|AU h fun x18 Y h=>.mg 77 5 (Ap x18) (.bi Y (k2:=fun h=>AU h fun La Z h=>.a 2<|.ca (aXA bG.aZ La Z)<|.aW<|EK))<|.aW<|EC h CZ fun h=>AP<|.a 2<|.p (BR Ac bG.aU CQ rfl)<|.a 1<|AU h fun Gz YF h=>.mg 88 4 (Ap Gz) (.bi YF)<|.aW<|EC h CZ fun h=>AP<|.a 3<|AU h fun x25 hx25 h=>.mg 97 9 (Ap x25) (.bi hx25 (fun h=>.a 2<|.p (BR Ac bG.aU CQ rfl)<|.a 2<|.p (BR Ac bG.aZ CQ rfl)<|.aW<|EK))<|.aW<|BN h CZ fun h=>AU h fun x28 hx28 h=>AP<|.a 4<|.ca (ahN bG.Kind bG.Content x28 hx28)<|.aW<|Cm)<|fun z=>G6 h (fun j h=>AQ.draw A8 A8 A8 (.a 3<|.c (Aq some j)<|.a 22<|.nil _)<|z _ ⟨true,Ae 112 4098 [(0,true)],h⟩) fun j h=>G6 h (fun q h=>AQ.draw A8 A8 A8 (.a 3<|.c (Aq some j)<|.a 4<|.c (Aq some q)<|.a 17<|.nil _)<|z _ ⟨true,Ae 112 4098 [(0,true)],h⟩) fun q h=>AU h fun L I h=>G6 h (fun u h=>AQ.draw A8 A8 A8 (.a 3<|.c (Aq some j)<|.a 4<|.c (Aq some q)<|.a 4<|.ca (Zf bG.Kind L I)<|.a 2<|.c (Aq some u)<|.a 9<|.nil _)<|z _ ⟨true,Ae 112 4098 [(0,true)],h⟩) fun u h=>G6 h (fun J h=>AQ.draw A8 A8 A8 (.a 3<|.c (Aq some j)<|.a 4<|.c (Aq some q)<|.a 4<|.ca (Zf bG.Kind L I)<|.a 2<|.c (Aq some u)<|.a 3<|.c (Aq some J)<|.a 5<|.nil _)<|z _ ⟨(!x1),Ae 112 4098 [(0,true)],h⟩) fun J h=>AQ.draw A8 A8 A8 (.a 3<|.c (Aq some j)<|.a 4<|.c (Aq some q)<|.a 4<|.ca (Zf bG.Kind L I)<|.a 2<|.c (Aq some u)<|.a 3<|.c (Aq some J)<|.a 5<|.nil _)<|z _ ⟨false,Ae 112 4098 [(0,true)],h⟩
def aLv (j:Fe) (q:Fe) (z:(Int→Option Bool)):Int→Option Bool:=fun u=>(bif decide (u<(j.length:Int))then(Af j u).bind fun I=>(Af q u).bind fun J=>(bif (!(I.toList==J.toList))then some false else z (Ai (u+1)))else some true)
def aQh (j:Fe) (q:Fe):Int→Option Bool:=bI (aLv j q) Ag
def vI (j:Fe) (q:Fe):Option Bool:=(bif ((j.length:Int) != (q.length:Int))then some false else aQh j q 0)
def aRd (gK gY r) (h:vI gK gY=some r):BI 132 [Jd gK,Jd gY] [] (Ap r) []:=Ar.aN Tryz.func132 rfl<|AZ<|Ad<|AP<|.a 1<|.p (BR DK gK Hl rfl)<|.a 1<|.p (BR DK gY Hl rfl)<|.aW<|BN h CZ fun h=>Ad<|AP<|.a 1<|.p (BR DK gK Hl rfl)<|.aW<|AQ.block<|Fl (fun z=>⟨BM 26 [(0,Jd gK),(1,Jd gY),(12,AY (gK.length:Int)),(13,AY z)],[],0⟩) _ _ _ (Ae 26 12291 []) h<|fun I J j z h=>AZ<|Ad<|CU h (fun h=>Ad<|AQ.block<|AZ<|Df h fun L q M u h=>HY A8 A8 A8 (.a 2<|.p (Bc DK q Hl Nr rfl)<|.a 3<|.p (Bc DK u Hl Nr rfl)<|.a 2<|.nil _)<|BN h CZ fun h=>BJ<|.a 2<|.nil<|j _ _ (Ae 26 12291 []) h) fun h=>I8
def aK9 (j:MG) (q:MG) (z:(Int→Option Bool)):Int→Option Bool:=fun u=>(bif decide (u<(j.length:Int))then(Af j u).bind fun I=>(Af q u).bind fun J=>(bif (!aCp I J)then some false else z (Ai (u+1)))else some true)
def aUY (j:MG) (q:MG):Int→Option Bool:=bI (aK9 j q) Ag
def aAb (j:MG) (q:MG):Option Bool:=(bif ((j.length:Int) != (q.length:Int))then some false else aUY j q 0)
def adC (gK gY r) (h:aAb gK gY=some r):BI 133 [Qe gK,Qe gY] [] (Ap r) []:=Ar.aN Tryz.func133 rfl<|AZ<|Ad<|AP<|.a 1<|.p (BR FN gK IG rfl)<|.a 1<|.p (BR FN gY IG rfl)<|.aW<|BN h CZ fun h=>Ad<|AP<|.a 1<|.p (BR FN gK IG rfl)<|.aW<|AQ.block<|Fl (fun J=>⟨BM 26 [(0,Qe gK),(1,Qe gY),(12,AY (gK.length:Int)),(13,AY J)],[],0⟩) _ _ _ (Ae 26 12291 []) h<|fun L M u J h=>AZ<|Ad<|CU h (fun h=>Ad<|AQ.block<|AZ<|Df h fun j z q I h=>HY A8 A8 A8 (.a 2<|.p (Bc FN z IG Ot rfl)<|.a 3<|.p (Bc FN I IG Ot rfl)<|.a 1<|.p (x:=(Ap (!aCp j q))) (aMq [.string j.User,.int .i64 j.N] [.string q.User,.int .i64 q.N] (agA j q) BK ajV rfl)<|.nil _)<|BN h CZ fun h=>BJ<|.a 2<|.nil<|u _ _ (Ae 26 12291 []) h) fun h=>I8
def aL7 (j:MX) (q:MX) (z:(Int→Option Bool)):Int→Option Bool:=fun u=>(bif decide (u<(j.length:Int))then(Af j u).bind fun I=>(Af q u).bind fun J=>(bif (!aEm I J)then some false else z (Ai (u+1)))else some true)
def aS4 (j:MX) (q:MX):Int→Option Bool:=bI (aL7 j q) Ag
def aEA (j:MX) (q:MX):Option Bool:=(bif ((j.length:Int) != (q.length:Int))then some false else aS4 j q 0)
def akK (gK gY r) (h:aEA gK gY=some r):BI 134 [Qr gK,Qr gY] [] (Ap r) []:=Ar.aN Tryz.func134 rfl<|AZ<|Ad<|AP<|.a 1<|.p (BR Fp gK Ij rfl)<|.a 1<|.p (BR Fp gY Ij rfl)<|.aW<|BN h CZ fun h=>Ad<|AP<|.a 1<|.p (BR Fp gK Ij rfl)<|.aW<|AQ.block<|Fl (fun J=>⟨BM 26 [(0,Qr gK),(1,Qr gY),(12,AY (gK.length:Int)),(13,AY J)],[],0⟩) _ _ _ (Ae 26 12291 []) h<|fun L M u J h=>AZ<|Ad<|CU h (fun h=>Ad<|AQ.block<|AZ<|Df h fun j z q I h=>HY A8 A8 A8 (.a 2<|.p (Bc Fp z Ij Px rfl)<|.a 3<|.p (Bc Fp I Ij Px rfl)<|.a 1<|.p (x:=(Ap (!aEm j q))) (aMq [.int .i64 j.Kind,.int .i64 j.N] [.int .i64 q.Kind,.int .i64 q.N] (ac3 j q) BK alB rfl)<|.nil _)<|BN h CZ fun h=>BJ<|.a 2<|.nil<|u _ _ (Ae 26 12291 []) h) fun h=>I8
def Res (j:Bj) (q:Bj):Option Bool:=(bif (!(j.Text.toList==q.Text.toList))then some true else some (j.N != q.N)).bind fun x1=>(bif x1 then some true else some (j.Target != q.Target)).bind fun x3=>(bif x3 then some true else some (!(j.Thread==q.Thread))).bind fun x5=>(bif x5 then some true else some (!(j.Via.toList==q.Via.toList))).bind fun x7=>(bif x7 then some true else(vI j.Allow q.Allow).bind fun u=>some (!u)).bind fun x9=>(bif x9 then some true else(vI j.gJ q.gJ).bind fun z=>some (!z)).bind fun I=>(bif I then some false else(aAb j.Levels.Users q.Levels.Users).bind fun J=>(bif J then(aEA j.Levels.Kinds q.Levels.Kinds).bind fun L=>some L else some false).bind fun M=>(bif M then some (j.Levels.User==q.Levels.User)else some false).bind fun O=>(bif O then some (j.Levels.Message==q.Levels.Message)else some false).bind fun U=>(bif U then some (j.Levels.State==q.Levels.State)else some false).bind fun Y=>(bif Y then some (j.Levels.fG==q.Levels.fG)else some false).bind fun Z=>(bif Z then some (j.Levels.jR==q.Levels.jR)else some false).bind fun x28=>(bif x28 then some (j.Levels.mZ==q.Levels.mZ)else some false).bind fun x30=>(bif x30 then some (j.Levels.gB==q.Levels.gB)else some false).bind fun x32=>some x32)
def ajp (gK gY r) (h:Res gK gY=some r):BI 75 [Ld gK,Ld gY] [] (Ap r) []:=Ar.aN Tryz.func75 rfl<|AZ<|AQ.asJ [] 108 0x68383206638310641830062182f064302e062302d05c082c05a082b060102a05e1029060302805c182805e302705a182705c202605a28250580024056002305818220500822056182104e0821058202004c0820056281f04a081f054301e050101e052301d04e101d050201c04c181c04e281b04a181b04c281a04a201a048181904400190461818042001804820170400017046281603e0016044101503c0815042101403a0814044201304018130380813042281203e18120360812040281103e2011034081103c2010038101003a280f036100f038280e036200e034180e032100d02a000d030100c028000c032200b02e180b026000b030280a02c180a024000a02e280902c2009022000902a2008026100802008080282807024100701e080702628060242006022180601c0806020280501e200501c100501a2004016100401000040182803014100300e000301628020142002012180200c0002010280100e200100c100100a08010082800006200000410000020000 [51,52] ⟨BM 121 [(2,.ptr 0 0),(3,.ptr 1 0),(5,.ptr 2 0),(6,.ptr 3 0)],[.box (BG (GU gK)),.box (BG (GU gY)),.box (BG (Gm gK.Levels)),.box (BG (Gm gY.Levels))],0⟩ ⟨fK (Ae 121 108 [(0,true),(1,true),(2,true),(3,true)]),fK (Ae 121 108 [(0,true),(1,true),(3,true),(2,true)]),trivial⟩<|Ad<|AP<|.a 5<|AU h fun x1 hx1 h=>.mg 16 6 (Ap x1) (.bi hx1)<|.a 1<|AU h fun x3 hx3 h=>.mg 24 5 (Ap x3) (DX hx3)<|.a 1<|AU h fun x5 hx5 h=>.mg 31 5 (Ap x5) (DX hx5)<|.a 1<|AU h fun x7 hx7 h=>.mg 38 5 (Ap x7) (DX hx7)<|.a 1<|AU h fun x9 Aa h=>.mg 45 6 (Ap x9) (DX Aa (k2:=fun e i=>by subst e;have h:=i;exact AU h fun x11 j h=>.a 4<|.ca (aRd gK.Allow gY.Allow x11 j)<|.aW<|EK))<|.a 1<|AU h fun x12 q h=>.mg 53 6 (Ap x12) (DX q (k2:=fun e i=>by subst e;have h:=i;exact AU h fun x14 u h=>.a 4<|.ca (aRd gK.gJ gY.gJ x14 u)<|.aW<|EK))<|.bU<|BN h CZ fun h=>AU h fun x16 z h=>AP<|.a 4<|.ca (adC gK.Levels.Users gY.Levels.Users x16 z)<|.a 1<|AU h fun x17 I h=>.mg 66 5 (Ap x17) (DX I (fun e i=>by subst e;have h:=i;exact AU h fun x19 J h=>.a 4<|.ca (akK gK.Levels.Kinds gY.Levels.Kinds x19 J)<|.aW<|EK))<|.a 1<|AU h fun La L h=>.mg 73 5 (Ap La) (DX L)<|.a 1<|AU h fun Gz M h=>.mg 80 5 (Ap Gz) (DX M)<|.a 1<|AU h fun x24 O h=>.mg 87 5 (Ap x24) (DX O)<|.a 1<|AU h fun WI U h=>.mg 94 5 (Ap WI) (DX U)<|.a 1<|AU h fun x28 Y h=>.mg 101 5 (Ap x28) (DX Y)<|.a 1<|AU h fun x30 Z h=>.mg 108 5 (Ap x30) (DX Z)<|.a 1<|AU h fun x32 hx32 h=>.mg 115 5 (Ap x32) (DX hx32)<|.aW<|Cm
def VB (j:ByteArray):Option ByteArray:=(dz j nJ).bind fun q=>some q.2.1
def ZT (PD r) (h:VB PD=some r):BI 30 [Dl PD] [] (Dl r) []:=Ar.aN Tryz.func30 rfl<|AZ<|AU h fun q j h=>AP<|.a 1<|.ca (aXd PD nJ q j)<|.aW<|AZ<|Cm
def Zq (j:AL) (q:Bool):Option Int:=(bif q then some 6 else(sG j).bind fun u=>(bif (u != j.Id)then some 11 else(VB j.aQ).bind fun z=>(bif (!Fn2 j.ng (⟨z,j.Id⟩:Nu))then some 12 else some 0)))
def Ym (j:AL):Option Int:=(QW j).bind fun I=>(bif (I != 0)then some I else(Uz j).bind fun q=>(bif (!q)then(qA j.Kind j.Content).bind fun u=>(Res j.Content u).bind fun z=>Zq j (!z)else Zq j false))
def Nc (bG r) (h:Ym bG=some r):BI 29 [DW bG] [] (AY r) []:=Ar.aN Tryz.func29 rfl<|AZ<|Ad<|AU h fun x1 O h=>AP<|.a 1<|.ca (zD bG x1 O)<|.aW<|AZ<|BN h CZ fun h=>Ad<|AQ.block<|Dv (fun s=>∃(U:Bool),CX s ⟨BM 40 [(1,.ptr 0 0),(9,Ap U)],[.box (BG (BH bG))],0⟩∧Zq bG U=some r) (by rintro s ⟨U,hs,h⟩;exact DI hs<|EC h CZ fun h=>AU h fun x5 Y h=>HY A8 A8 A8 (.a 1<|.ca (aT7 bG x5 Y)<|.a 4<|.nil _)<|EC h CZ fun h=>AU h fun u Z h=>HY A8 A8 A8 (.a 4<|.ca (ZT bG.aQ u Z)<|.a 3<|.p (x:=(Ap (!Fn2 bG.ng (⟨u,bG.Id⟩:Nu)))) (aMq [.string bG.ng.Server,.int .i64 bG.ng.Sum] [.string ((⟨u,bG.Id⟩:Nu).Server),.int .i64 ((⟨u,bG.Id⟩:Nu).Sum)] (agX bG.ng (⟨u,bG.Id⟩:Nu)) BK aeM rfl)<|.a 1<|.nil _)<|SX)<|fun K9=>AU h fun z q h=>G6 h (fun j h=>Df h fun I J L M h=>AQ.draw A8 A8 A8 (.a 1<|.ca (aFH bG z q)<|.a 1<|.c (Aq some j)<|.a 6<|.ca (aWE bG.Kind bG.Content I J)<|.ca (ajp bG.Content I L M)<|.a 3<|.nil _)<|K9 _ ⟨(!L),Ae 40 514 [(0,true)],h⟩) fun j h=>AQ.draw A8 A8 A8 (.a 1<|.ca (aFH bG z q)<|.a 1<|.c (Aq some j)<|.a 11<|.nil _)<|K9 _ ⟨false,Ae 40 514 [(0,true)],h⟩
def zy (j:AX) (u:(Int→Option Int)):Int→Option Int:=fun q=>(bif decide (q<(j.length:Int))then(Af j q).bind fun z=>(Af j (Ai (q-1))).bind fun I=>(bif decide (z.Id≤I.Id)then some 8 else u (Ai (q+1)))else some 0)
def aFR (j:AX):Int→Option Int:=bI (zy j) Ag
def Yr (j:AX) (I:(Int→Option Int)):Int→Option Int:=fun q=>(bif decide (q<(j.length:Int))then(Af j q).bind fun u=>(Af j 0).bind fun z=>(bif (!(u.Room.toList==z.Room.toList))then some 13 else I (Ai (q+1)))else aFR j 1)
def xZ (j:AX):Int→Option Int:=bI (Yr j) Ag
def wY (j:AX) (z:(Int→Option Int)):Int→Option Int:=fun q=>(bif decide (q<(j.length:Int))then(Af j q).bind fun I=>(Ym I).bind fun u=>(bif (u != 0)then some u else z (Ai (q+1)))else xZ j 0)
def aPV (j:AX):Int→Option Int:=bI (wY j) Ag
def Md (j:AX):Option Int:=(bif decide ((j.length:Int)>2000)then some 7 else aPV j 0)
def agq (aA r) (h:Md aA=some r):BI 42 [BQ aA] [] (AY r) []:=Ar.aN Tryz.func42 rfl<|AZ<|Ad<|AP<|.a 1<|.p (BR BH aA DL rfl)<|.aW<|BN h CZ fun h=>Ad<|AP<|.a 1<|.p (BR BH aA DL rfl)<|.aW<|AQ.block<|Fl (fun Y=>⟨BM 56 [(0,BQ aA),(12,BQ aA),(13,AY (aA.length:Int)),(14,AY Y)],[],0⟩) _ _ _ (Ae 56 28673 []) h<|fun J22 k3 L Y h=>AZ<|Ad<|CU h (fun h=>Ad<|AQ.block<|AU h fun x5 M h=>AP<|.p (Bc BH M DL Dy rfl)<|.aW<|AU h fun x6 O h=>AP<|.a 1<|.ca (Nc x5 x6 O)<|.aW<|AZ<|BN h CZ fun h=>BJ<|.a 2<|.nil<|L _ _ (Ae 56 28673 []) h) fun h=>AQ.exit<|Ad<|AP<|.a 1<|.p (BR BH aA DL rfl)<|.aW<|AQ.block<|Fl (fun Z=>⟨BM 56 [(0,BQ aA),(24,BQ aA),(25,AY (aA.length:Int)),(26,AY Z)],[],0⟩) _ _ _ (Ae 56 117440513 []) h<|fun J21 k9 U Z h=>AZ<|Ad<|CU h (fun h=>Ad<|AQ.block<|AU h fun x11 j h=>AP<|.p (Bc BH j DL Dy rfl)<|.aW<|AU h fun x12 q h=>HY A8 A8 A8 (.a 3<|.p (Bc BH q DL Dy rfl)<|.a 3<|.nil _)<|BN h CZ fun h=>BJ<|.a 2<|.nil<|U _ _ (Ae 56 117440513 []) h) fun h=>AQ.exit<|Ad<|AZ<|AQ.block<|Fl (fun u=>⟨BM 56 [(0,BQ aA),(8,AY u)],[],0⟩) _ _ _ (Ae 56 257 []) h<|fun J20 k15 z u h=>Ad<|AP<|.a 2<|.p (BR BH aA DL rfl)<|.aW<|CU h (fun h=>Ad<|AQ.block<|Df h fun x17 I x18 J h=>HY A8 A8 A8 (.a 2<|.p (Bc BH I DL Dy rfl)<|.a 5<|.p (Bc BH J DL Dy rfl)<|.a 3<|.nil _)<|BN h CZ fun h=>BJ<|.a 3<|.nil<|z _ _ (Ae 56 257 []) h) fun h=>I8
def aTr (j:AX) (z:(Int→(List (Int×Int))→Option (List (Int×Int)))):Int→(List (Int×Int))→Option (List (Int×Int)):=fun q u=>(bif decide (q≥0)then(Af j q).bind fun I=>z (Ai (q-1)) (Ec u I.Id q)else some u)
def aYn (j:AX):Int→(List (Int×Int))→Option (List (Int×Int)):=aV (aTr j) Ag
def Xd (j:AX):Option (List (Int×Int)):=aYn j (Ai ((j.length:Int)-1)) []
def mJ (aA r) (h:Xd aA=some r):BI 153 [BQ aA] [] (.mp 0) [.map (List.map (Bl CP Ac) r)]:=Ar.aN Tryz.func153 rfl<|AZ<|AP<|.a 1<|.p (BR BH aA DL rfl)<|.f (x:=.mp 0) (ad3 (kd:=.i64) (n:=(aA.length:Int)) Qv rfl)<|.aW<|Ad<|AP<|.a 1<|.p (BR BH aA DL rfl)<|.aW<|AQ.block<|Em (fun j q=>⟨BM 23 [(0,BQ aA),(3,.mp 0),(4,AY j)],[.map (List.map (Bl CP Ac) q)],0⟩) _ _ _ _ (Ae 23 25 [(0,true)]) h<|fun J L u j q h=>Ad<|AZ<|CU h (fun h=>Ad<|AQ.block<|AU h fun I z h=>BJ<|.a 3<|.p (Bc BH z DL Dy rfl)<|.a 3<|.f (rU (k:=0) (key:=I.Id) (val:=j) (m:=q) Ac Qv IZ A8 rfl)<|.nil<|BJ<|.a 3<|.nil<|u _ _ _ (Ae 23 25 [(0,true)]) h) fun h=>Ux
def aKI (j:AB) (q:(List (Int×Int))) (k2:(Int→Option Bool)):Int→Option Bool:=fun u=>(bif decide (u<(j.length:Int))then(Af j u).bind fun z=>(bif (!((CB q z).isSome))then some false else k2 (Ai (u+1)))else some true)
def ab4 (j:AB) (q:(List (Int×Int))):Int→Option Bool:=bI (aKI j q) Ag
def yB (j:AB) (q:(List (Int×Int))):Option Bool:=ab4 j q 0
def aYb (adF ae9 r) (h:yB adF ae9=some r):BI 311 [CM adF,.ptr 0 0] [.box [.mp 1],.map (List.map (Bl CP Ac) ae9)] (Ap r) [.box [.mp 1],.map (List.map (Bl CP Ac) ae9)]:=Ar.aN Tryz.func311 rfl<|AZ<|Ad<|AP<|.a 1<|.p (BR Ac adF CQ rfl)<|.aW<|AQ.block<|Fl (fun z=>⟨BM 23 [(1,.ptr 0 0),(8,CM adF),(9,AY (adF.length:Int)),(10,AY z)],[.box [.mp 1],.map (List.map (Bl CP Ac) ae9)],2⟩) _ _ _ (Ae 23 1794 [(0,true),(1,true)]) h<|fun I k2 j z h=>AZ<|Ad<|CU h (fun h=>Ad<|AQ.block<|AU h fun q u h=>AP<|.p (Bc Ac u CQ Dt rfl)<|.aW<|AP<|.a 2<|.p (x:=.eu [AY ((CB ae9 q).getD 0),Ap ((CB ae9 q).isSome)]) (aCi (k:=1) (key:=q) (m:=ae9) Ac 0 Qv IZ zero3 A8 A8 A8 rfl)<|.aW<|AZ<|BN h (fun h=>AZ<|aUB) fun h=>BJ<|.a 2<|.nil<|j _ _ (Ae 23 1794 [(0,true),(1,true)]) h) fun h=>AQ.exit<|AZ<|aUB
def aGF (j:AX) (J:(Int→(List (Int×Int))→Option Bool)):Int→(List (Int×Int))→Option Bool:=fun q u=>(bif decide (q<(j.length:Int))then(Af j q).bind fun L=>(yB L.aU u).bind fun M=>(bif (!M)then some true else(Af j q).bind fun z=>(yB z.aZ u).bind fun I=>some (!I)).bind fun O=>(bif O then some false else J (Ai (q+1)) u)else some true)
def aaT (j:AX):Int→(List (Int×Int))→Option Bool:=aV (aGF j) Ag
def aEW (j:AX):Option Bool:=(Xd j).bind fun q=>aaT j 0 q
def ahk (aA r) (h:aEW aA=some r):BI 217 [BQ aA] [] (Ap r) []:=Ar.aN Tryz.func217 rfl<|AZ<|AU h fun x1 J h=>AP<|.a 1<|.f (x:=.mp 0) (EZ [] [BQ aA] (mJ aA x1 J) rfl)<|.aW<|AP<|.p (x:=.fn (.func 311) [] [.ptr 1 0]) (Pz (fi:=[]) (ca:=[.ptr 1 0]) rfl rfl rfl)<|.aW<|Ad<|AP<|.a 1<|.p (BR BH aA DL rfl)<|.aW<|AQ.block<|Em (fun Y I=>⟨BM 33 [(0,BQ aA),(4,.fn (.func 311) [] [.ptr 0 0]),(10,AY (aA.length:Int)),(11,AY Y)],[.box [.mp 1],.map (List.map (Bl CP Ac) I)],0⟩) _ _ _ _ (Ae 33 3089 [(1,true),(0,true)]) h<|fun J13 k4 L Y I h=>AZ<|Ad<|CU h (fun h=>Ad<|AQ.block<|AZ<|Df h fun Z M x7 O h=>AP<|.a 3<|.p (Bc BH M DL Dy rfl)<|.a 2<|.f (x:=(Ap x7)) (Zk [.ent 0,.ent 1] [] [.ptr 0 0] [CM Z.aU] (aYb Z.aU I x7 O) rfl (hE:=(P6 A8<|P6 A8<|trivial)))<|.a 1<|AU h fun x8 U h=>.mg 22 9 (Ap x8) (.bi U (k2:=fun h=>Df h fun j q u z h=>.a 3<|.p (Bc BH q DL Dy rfl)<|.a 2<|.f (x:=(Ap u)) (Zk [.ent 0,.ent 1] [] [.ptr 0 0] [CM j.aZ] (aYb j.aZ I u z) rfl (hE:=(P6 A8<|P6 A8<|trivial)))<|.aW<|EK))<|.bU<|BN h CZ fun h=>BJ<|.a 2<|.nil<|L _ _ _ (Ae 33 3089 [(0,true),(1,true)]) h) fun h=>I8
def aOx (j:AL) (I:AX) (q:(List (Int×Int))) (J:(Int→Int→Option (Bool×(List (Int×Int))))):Int→Int→Option (Bool×(List (Int×Int))):=fun u z=>(bif decide (z<(j.aU.length:Int))then(Af j.aU z).bind fun L=>(Af I ((CB q L).getD 0)).bind fun M=>J (QE u M.Depth) (Ai (z+1))else(bif decide (j.Depth>u)then some ((Ai (j.Depth-u))==1)else some false).bind fun O=>some (O,q))
def aWg (q:AL) (u:AX) (j:(List (Int×Int))):Int→Int→Option (Bool×(List (Int×Int))):=aV (aOx q u j) Ag
def aH9 (j:AL) (u:AX) (q:(List (Int×Int))) (k2:(Int→Option (Bool×(List (Int×Int))))):Int→Option (Bool×(List (Int×Int))):=fun z=>(bif decide (z<(j.aZ.length:Int))then(Af j.aZ z).bind fun I=>(Af u ((CB q I).getD 0)).bind fun J=>(bif decide (J.Depth≥j.Depth)then some (false,q)else k2 (Ai (z+1)))else(bif ((j.aU.length:Int)==0)then some ((j.Depth==1),q)else(Af j.aU 0).bind fun L=>(Af u ((CB q L).getD 0)).bind fun M=>aWg j u q M.Depth 0))
def aUp (q:AL) (u:AX) (j:(List (Int×Int))):Int→Option (Bool×(List (Int×Int))):=bI (aH9 q u j) Ag
def aEa (q:AX) (j:(List (Int×Int))) (u:AL):Option (Bool×(List (Int×Int))):=aUp u q j 0
def apx (aA Ub jK r) (h:aEa aA Ub jK=some r):BI 218 [BQ aA,.mp 0,DW jK] [.map (List.map (Bl CP Ac) Ub)] (Ap r.1) [.map (List.map (Bl CP Ac) r.2)]:=Ar.aN Tryz.func218 rfl<|AZ<|Ad<|AP<|.a 2<|.p (BR Ac jK.aZ CQ rfl)<|.aW<|AQ.block<|Fl (fun v1=>⟨BM 75 [(0,BQ aA),(1,.mp 0),(5,.ptr 1 0),(13,CM jK.aZ),(14,AY (jK.aZ.length:Int)),(15,AY v1)],[.map (List.map (Bl CP Ac) Ub),.box (BG (BH jK))],1⟩) _ _ _ (Ae 75 57379 [(0,true),(1,true)]) h<|fun J19 k2 M v1 h=>AZ<|Ad<|CU h (fun h=>Ad<|AQ.block<|AU h fun x4 O h=>AP<|.p (Bc Ac O CQ Dt rfl)<|.aW<|AU h fun x5 U h=>HY A8 A8 A8 (.a 3<|.p (x:=(AY ((CB Ub x4).getD 0))) (ZY (k:=0) (key:=x4) (m:=Ub) Ac 0 Qv IZ zero3 A8 A8 A8 rfl)<|.p (Bc BH U DL Dy rfl)<|.a 5<|.nil _)<|BN h (fun h=>AZ<|Zo) fun h=>BJ<|.a 2<|.nil<|M _ _ (Ae 75 57379 [(0,true),(1,true)]) h) fun h=>AQ.exit<|Ad<|AP<|.a 2<|.p (BR Ac jK.aU CQ rfl)<|.aW<|BN h (fun h=>AZ<|Zo) fun h=>Df h fun x8 Y x9 Z h=>AP<|.a 4<|.p (Bc Ac Y CQ Dt rfl)<|.a 1<|.p (x:=(AY ((CB Ub x8).getD 0))) (ZY (k:=0) (key:=x8) (m:=Ub) Ac 0 Qv IZ zero3 A8 A8 A8 rfl)<|.p (Bc BH Z DL Dy rfl)<|.aW<|Ad<|AP<|.a 2<|.p (BR Ac jK.aU CQ rfl)<|.aW<|AQ.block<|Em (fun j q=>⟨BM 75 [(0,BQ aA),(1,.mp 0),(5,.ptr 1 0),(9,AY j),(48,CM jK.aU),(49,AY (jK.aU.length:Int)),(50,AY q)],[.map (List.map (Bl CP Ac) Ub),.box (BG (BH jK))],1⟩) _ _ _ _ (Ae 75 1970324836975139 [(0,true),(1,true)]) h<|fun J18 k12 u j q h=>AZ<|Ad<|CU h (fun h=>Ad<|AQ.block<|AU h fun z I h=>AP<|.p (Bc Ac I CQ Dt rfl)<|.aW<|AU h fun x15 J h=>BJ<|.a 4<|.p (x:=(AY ((CB Ub z).getD 0))) (ZY (k:=0) (key:=z) (m:=Ub) Ac 0 Qv IZ zero3 A8 A8 A8 rfl)<|.p (Bc BH J DL Dy rfl)<|.a 2<|.p (x:=(AY (QE j x15.Depth))) (aQ1 rfl)<|.a 1<|.nil<|BJ<|.a 2<|.nil<|u _ _ _ (Ae 75 1970324836975139 [(0,true),(1,true)]) h) fun h=>AQ.exit<|AP<|.a 4<|AU h fun x16 L h=>.mg 68 6 (Ap x16) (.bi L)<|.aW<|Zo
def aLA (j:AX) (z:(Int→(List (Int×Int))→Option Int)):Int→(List (Int×Int))→Option Int:=fun q I=>(bif decide (q<(j.length:Int))then(Af j q).bind fun J=>(aEa j I J).bind fun u=>(bif (!u.1)then some 15 else z (Ai (q+1)) u.2)else some 0)
def aX2 (j:AX):Int→(List (Int×Int))→Option Int:=aV (aLA j) Ag
def aEI (j:AX):Option Int:=(aEW j).bind fun q=>(bif (!q)then some 14 else(Xd j).bind fun u=>aX2 j 0 u)
def agT (aA r) (h:aEI aA=some r):BI 127 [BQ aA] [] (AY r) []:=Ar.aN Tryz.func127 rfl<|AZ<|Ad<|AU h fun U j h=>AP<|.a 1<|.ca (ahk aA U j)<|.aW<|BN h CZ fun h=>AU h fun Y q h=>AP<|.a 1<|.f (x:=.mp 0) (EZ [] [BQ aA] (mJ aA Y q) rfl)<|.aW<|Ad<|AP<|.a 1<|.p (BR BH aA DL rfl)<|.aW<|AQ.block<|Em (fun L u=>⟨BM 24 [(0,BQ aA),(3,.mp 0),(11,AY (aA.length:Int)),(12,AY L)],[.map (List.map (Bl CP Ac) u)],0⟩) _ _ _ _ (Ae 24 6153 [(0,true)]) h<|fun Z k6 z L u h=>AZ<|Ad<|CU h (fun h=>Ad<|AQ.block<|AZ<|Df h fun M I O J h=>AP<|.a 4<|.p (Bc BH I DL Dy rfl)<|.a 1<|.f (x:=(Ap O.1)) (EZ [.ent 0] [BQ aA,.mp 0,DW M] (apx aA u M O J) rfl)<|.aW<|BN h CZ fun h=>BJ<|.a 2<|.nil<|z _ _ _ (Ae 24 6153 [(0,true)]) h) fun h=>I8
end Go.Proofs.YtkkdimcnpacjhaaGreat
end
