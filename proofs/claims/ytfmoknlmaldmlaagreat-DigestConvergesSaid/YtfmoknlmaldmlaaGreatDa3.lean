/- Part 3 of the laws' proofs (short forms by wip/shrink2.py). -/
import Derived.Test.YtfmoknlmaldmlaaGreatDa2
set_option linter.defProp false
set_option linter.unnecessarySimpa false
set_option linter.unusedSectionVars false
set_option linter.unusedVariables false
set_option linter.unusedSimpArgs false
namespace Go.Proofs.YtfmoknlmaldmlaaGreat
open Go.RowKit Go.Proofs.Tryz
section
def DL.freeze {C:Ee} {ok:Nat->Prop} {H:A8 Bv} {es:A8 BK} {w:BG} (hm:DL C ok H es w) {k:Nat} {e:BK} {hd:Bv} (hk:es[k]? =some e) (hl:e.live=true) (O:H[k]? =some hd):DL C (fun b=>ok b\/DZ hd.v=some b) H (es.set k .dead) w:=by
 have z:k<es.length:=(G7.1 hk).1;have L:=fun b q=>hm.blk k _ hd b hk hl O q;have hg:Ej ok w (fun b=>ok b\/DZ hd.v=some b) w:=fun b q=>⟨.inl q,rfl⟩
 refine⟨hm.fr,fun b q=>.inl (hm.yQ b q),?_,?_,hm.names,ZR,?_,?_,?_⟩
 ·rintro b (q|q)
  ·exact hm.yR b q
  exact .inr (L b q).2.2
 ·rintro b (q|q)
  ·exact hm.kC b q
  exact(L b q).2.1
 ·intro j e' h' he I;rcases NR z he with⟨rfl,rfl⟩|⟨_,J⟩
  ·trivial
  exact(hm.ent j e' h' J I).mono hg (.refl _) (fun _ _ _=>rfl)
 ·intro j e' h' b he M I q;rcases NR z he with⟨rfl,rfl⟩|⟨hne,J⟩
  ·cases M
  have h3:=hm.blk j e' h' b J M I q;refine⟨fun u=>?_,h3.2⟩;rcases u with u|u
  ·exact h3.1 u
  exact hne (hm.Gg j k e' _ h' hd b J hk M hl I O q u)
 intro i j e1 e2 h1 h2 b he1 he2 U Y hh1 hh2 hb1 hb2;rcases NR z he1 with⟨rfl,rfl⟩|⟨_,Z⟩
 ·cases U
 rcases NR z he2 with⟨rfl,rfl⟩|⟨_,amu⟩
 ·cases Y
 exact hm.Gg i j e1 e2 h1 h2 b Z amu U Y hh1 hh2 hb1 hb2
section
variable {P:CS} {o:Oper} {es:A8 BK}
def aQW {t L M:Bj} {x:Bg} {k:Nat} {m:A8 (Ai×D)} (ht:P.underlying t=some (.map L M)) (O:es[k]? =some (.map m)) (ho:o.op=.range t x):Bz P o [(x,.mp k)] es (.ptr es.length 0) (es.set k .dead++[.iter m []]):=
 .eff fun C ok H a w hm hn=>by
  obtain⟨hd,U,u⟩:=GX hm.ent hm.hlen O;obtain⟨b,ms,clock,Y,z,h3⟩:=u;have Z:=SC (hn (x,.mp k) BR) U;simp only at Z;have hb:b<w.heap.size:=(Gn.1 z).1;have m0:=hm.freeze O rfl U;have g0:Ej ok w (fun c=>ok c\/DZ hd.v=some c) w:=fun c q=>⟨.inl q,rfl⟩
  have I:DZ hd.v=some b:=by rw[Y];rfl
  have g1:Ej (fun c=>ok c\/DZ hd.v=some c) w (fun c=>ok c\/DZ hd.v=some c) (w.alloc (.mapIter (some b) clock #[] clock)):=fun c q=>⟨q,KC _ _ _ (m0.kC c q)⟩
  have J:FB (fun c=>ok c\/DZ hd.v=some c) (w.alloc (.mapIter (some b) clock #[] clock)) (H++[⟨.pointer (some ⟨w.heap.size,0,none⟩),0⟩]) ⟨.pointer (some ⟨w.heap.size,0,none⟩),0⟩ (.iter m []):=
   ⟨w.heap.size,b,ms,clock, #[],rfl,eS _ _,.inr I,(KC _ _ _ hb).trans z,(h3.mono g0).mono g1,rfl,fun j i hj=>by simp at hj⟩
  obtain⟨m1,g2⟩:=m0.push (.mapIter (some b) clock #[] clock) ⟨.pointer (some ⟨w.heap.size,0,none⟩),0⟩ _ (aBQ w) J;refine⟨.pointer (some ⟨w.heap.size,0,none⟩),_,_,_,.inl ?_,g0.trans g2,I7 _ _,m1,.ptr _ _ w.heap.size 0 Pn⟩;have hr:=run_range_map (P:=P) w t L M b ms clock ht z;simp[execOp,ho,Z,Y,hr]
def born_inj {ok:Nat->Prop} {w:BG} {es:A8 (Ai×D)} {ms:BQ MapEntry} {clock:Nat} (h:Je ok w es ms clock) {i j:Nat} {m n:MapEntry} (hi:ms[i]? =some m) (u:ms[j]? =some n) (z:m.born=n.born):i=j:=by
 rcases lH i j with q|q|q
 ·have :=h.inc i j m n q hi u;omega
 ·exact q
 have :=h.inc j i n m q u hi;omega
def aeC {ok:Nat->Prop} {w:BG} {es:A8 (Ai×D)} {ms:BQ MapEntry} {clock:Nat} (h:Je ok w es ms clock):(ms.toList.map (·.born)).Nodup:=by
 unfold List.Nodup;rw[KI];intro i j hi q u;simp only[Cm,TY]at hi q;have z:ms[i]? =some ms[i]:=U1
 have I:ms[j]? =some ms[j]:=eu
 simp only[Nl,Array.getElem_toList];intro e;have :=born_inj h z I e;omega
def aQD {K V:Type} {x:Bg} {n i:Nat} {ek:K->Ai} {ev:V->D} {m:A8 (K×V)} {vis:A8 Nat} {p:K×V} (hp:m[i]? =some p) (he:es[n]? =some (.iter (m.map (CM ek ev)) (vis++[i]))) (ho:o.op=.entry x):
 Bz P o [(x,.ptr n 0)] es (.eH [.d (.lit (ek p.1)),.d (ev p.2)]) es:=
 .pure fun ok H a w u hl hn=>by
  obtain⟨hd,hh,I⟩:=GX u hl he;obtain⟨bi,M,ms,clock,seen,O,h2,h3,h4,U,h6,h7⟩:=I;have J:=hn (x,.ptr n 0) BR;simp only at J;generalize hv:a.eval x=v at J;cases J with
  |ptr _ _ b' s Y=>
   rw[hh]at Y;obtain rfl:=Ch Y;simp only[Value.pointer.injEq,Lc,Addr.mk.injEq]at O;obtain⟨rfl,_⟩:=O;obtain⟨e,Z,q2⟩:=h7 vis.length i BR;have L:(m.map (CM ek ev))[i]? =some (CM ek ev p):=by rw[JI,hp];rfl
   obtain⟨r1,r2,_⟩:=U.ent i _ e L Z;refine⟨.tuple #[e.key,e.val],?_,.eH _ _ rfl fun j hj=>?_⟩
   ·have q:seen.back?=some e.born:=by
     rw[Array.back?_eq_getElem?,h6];simpa using q2
    have z:e∈ms.toList:=by
     rw[Array.mem_toList_iff];exact Array.mem_of_getElem? Z
    have hf:ms.find? (·.born==e.born)=some e:=by rw[←Array.find?_toList];exact find_born e ms.toList (aeC U) z
    have g1:(getObj b').run P w=.ok (.mapIter (some M) clock seen clock) w:=by simp[getObj,Sem.run,h2]
    have g2:(getObj M).run P w=.ok (.map ms clock) w:=PS h4;simp[execOp,ho,hv,Instr.entry,g1,g2,q,hf]
   match j,hj with
   |0,_=>rw[show([Aa.d (.lit (ek p.1)),.d (ev p.2)]:A8 Aa).getD 0 .junk=.d (.lit (ek p.1))from rfl,show(#[e.key,e.val]:BQ Ai).getD 0 undef=e.key from rfl,r1];exact .d _ _ (.lit _)
   |1,_=>exact .d _ _ r2
end
def aj2 {P:CS} {w:BG} {ok:Nat->Prop} {ty:Bj} {bi Y clock:Nat} {seen:BQ Nat} {ms:BQ MapEntry} {es:A8 (Ai×D)} (hi:w.heap[bi]? =some (.mapIter (some Y) clock seen clock)) (hb:w.heap[Y]? =some (.map ms clock)) (hM:Je ok w es ms clock):
 ((leftOf ms seen).size=0/\(Instr.next (.pointer (some ⟨bi,0,none⟩)) false ty).run P w=.ok (.tuple #[.bool false]) w)\/
 ∃e∈(leftOf ms seen).toList,∃q:BG,(q=w\/q=w.drew)/\(Instr.next (.pointer (some ⟨bi,0,none⟩)) false ty).run P w=.ok (.tuple #[.bool true,e.key,e.val]) (q.putObj bi (.mapIter (some Y) clock (seen.push e.born) clock)):=by
 have z:∀x∈ms.toList,x.born<clock:=fun x I=>by
  obtain⟨i,hi,rfl⟩:=Gf I;have J:i<ms.size:=Gt
  have Z:i<es.length:=by rw[←hM.len];exact J
  have :=(hM.ent i es[i] ms[i] (by simp[Z]) (by simp[J])).2.2;simpa using this
 simp only[Instr.next,getObj,FW,Sem.run,hi,hb,Result.andThen,next_test_false seen ms clock clock z (EW _),UD,L6];unfold leftOf;have u:∀x∈(Array.filter (fun e=> !seen.contains e.born) ms).toList,x.born<clock:=fun x I=>z x (by simp at I ⊢;exact I.1);generalize Array.filter (fun e=> !seen.contains e.born) ms=L at u ⊢;have e1:L.filter (fun x=>x.born<clock)=L:=Array.filter_eq_self.2 (fun x I=>by simpa using u x SA)
 have e2:L.filter (fun x=>x.born>=clock)= #[]:=by
  rw[Array.filter_eq_empty_iff];intro x I;have :=u x SA;simp;omega
 simp only[e1,e2,Array.append_empty];by_cases h0:L.size=0
 ·left;have :L= #[]:=ZF h0;subst this;refine⟨rfl,?_⟩;simp[choose,Sem.run,Question.forced]
 right;have hne:L.isEmpty=false:=by simp[Array.isEmpty,h0]
 simp only[hne,UD,L6,Array.empty_append,Array.size_map]
 have hch:∃(j:Nat) (q:BG),j<L.size/\(q=w\/q=w.drew)/\(choose (Question.mapNext L.size)).run P w=.ok j q:=by
  by_cases hf:L.size<=1
  ·exact⟨0,w,AB,.inl rfl,by simp[choose,Sem.run,Question.forced,hf]⟩
  exact⟨_,w.drew,YN _ AB,.inr rfl,by
   simp only[choose,Sem.run,Question.forced,Ht,hf,L6,Question.cut]
   rfl⟩
 obtain⟨j,q,hj,M,O⟩:=hch;refine⟨L[j],BR,q,M,?_⟩;have hi1:q.heap[bi]? =some (.mapIter (some Y) clock seen clock):=by rcases M with rfl|rfl<;>exact hi
 have U:∀(o':Obj),(setObj bi o').run P q=.ok () (q.putObj bi o'):=fun o'=>by simp[setObj,Sem.run,hi1,World.putObj]
 simp only[O,Array.getElem?_map,eA hj,JF,FW,U,Result.andThen];rfl
section
variable {P:CS} {ops:BQ Oper} {o:Oper} {rest l:A8 Oper} {σ:Ap} {Q:Exit->Ap->Prop} {K V:Type}
def al3 {ms:BQ MapEntry} {seen:BQ Nat} {e:MapEntry} (h:e∈(leftOf ms seen).toList):e∈ms.toList/\e.born∉seen:=by
 unfold leftOf at h;simp at h;exact⟨by simpa using h.1,h.2⟩
def DK.next {ek:K->Ai} {ev:V->D} {x:Bg} {ty:AQ} (n:Nat) (m:A8 (K×V)) (vis:A8 Nat) (hn:σ.ents[n]? =some (.iter (m.map (CM ek ev)) vis)) (ho:o.op=.next x false) (hx:σ.get x=.ptr n 0) (hg:J4 ops σ o.guard=some true)
 (h0:(∀i,i<m.length->i∈vis)->DK P ops rest (σ.qU o.dst (.eH [.d (Dt false)])) Q)
 (h1:∀i p,m[i]? =some p->i∉vis->DK P ops rest (σ.put o.dst (.eH [.d (Dt true),.d (.lit (ek p.1)),.d (ev p.2)]) (σ.ents.set n (.iter (m.map (CM ek ev)) (vis++[i])))) Q):DK P ops (o::rest) σ Q:=by
 refine⟨fun ro l2 Q' C ok H a w z hk=>?_⟩;show wpListIn (JD ro) 0 P ops Q' (o::(rest++l2)) a w;unfold wpListIn;rw[D8 (PV z (NK hg))];have hv:=hx▸z.get x;obtain⟨hd,Z,hent⟩:=GX z.mem.ent z.mem.hlen hn;obtain⟨bi,L,ms,clock,seen,q1,q2,q3,q4,q5,q6,q7⟩:=hent
 have J:a.eval x=.pointer (some ⟨bi,0,none⟩):=by
  generalize a.eval x=v at hv;cases hv with
  |ptr _ _ b' s hH=>
   rw[Z]at hH;obtain rfl:=Ch hH;simp only[Value.pointer.injEq,Lc,Addr.mk.injEq]at q1;obtain⟨rfl,_⟩:=q1;rfl
 have hlen:ms.size=m.length:=by rw[q5.len,Cm]
 unfold Oper.wpIn;rw[fQ _ _ _ (by rw[ho];intro c h;cases h)];rcases aj2 (P:=P) (ty:=o.type) q2 q4 q5 with⟨hs,hr⟩|⟨e,M,w1,hw1,hr⟩
 ·have he:(execOp a.eval o).run P w=.ok (.value (.tuple #[.bool false])) w:=by simp[execOp,ho,J,hr]
  rw[he];refine⟨fun _ _=>trivial,?_⟩
  refine(h0 fun i hi=>?_).run ro l2 Q' C ok H _ w (z.put o.dst (.refl _ _) (.refl _) z.mem (.eH _ _ rfl fun j q=>by
   match j,q with
   |0,_=>exact .d _ _ (.lit _))) hk
  have O:i<ms.size:=AB
  have hnot:ms[i]∉(leftOf ms seen).toList:=by
   have :leftOf ms seen= #[]:=ZF hs;rw[this];simp
  have hin:ms[i].born∈seen:=by
   apply X8;intro hc;refine hnot ?_;unfold leftOf;simp[hc]
  obtain⟨j,q,U⟩:=Array.getElem_of_mem hin;have hjv:j<vis.length:=AB
  obtain⟨e,r1,r2⟩:=q7 j vis[j] (by simp[hjv])
  have hb:e.born=ms[i].born:=by
   have e3:seen[j]? =some seen[j]:=eu
   rw[e3,U]at r2;exact(Ch r2).symm
  have :=born_inj q5 r1 (show ms[i]? =some ms[i] by simp[O]) hb;rw[←this];simp
 have he:(execOp a.eval o).run P w=.ok (.value (.tuple #[.bool true,e.key,e.val])) (w1.putObj bi (.mapIter (some L) clock (seen.push e.born) clock)):=by simp[execOp,ho,J,hr]
 rw[he];refine⟨fun _ _=>trivial,?_⟩;obtain⟨aA1,hes⟩:=al3 M;obtain⟨i,hi,hie⟩:=Gf aA1;have O:i<ms.size:=Gt
 have Y:ms[i]? =some e:=by rw[←hie];simp[O]
 have him:i<m.length:=AB
 have hpe:(m.map (CM ek ev))[i]? =some (CM ek ev m[i]):=by simp[him]
 obtain⟨r1,r2,_⟩:=q5.ent i _ e hpe Y
 have aA2:i∉vis:=fun hc=>by
  obtain⟨j,q,U⟩:=Gf hc;obtain⟨e2,s1,s2⟩:=q7 j i (by simp[←U,q]);rw[Y]at s1;obtain rfl:=Ch s1;exact hes (Array.mem_of_getElem? s2)
 have I:DL C ok H σ.ents w1/\Ej ok w ok w1:=by
  rcases hw1 with rfl|rfl
  ·exact⟨z.mem,.refl _ _⟩
  exact z.mem.drew
 have hi1:w1.heap[bi]? =some (.mapIter (some L) clock seen clock):=by rcases hw1 with rfl|rfl<;>exact q2
 have u:w1.heap[L]? =some (.map ms clock):=(I.2 L q3).2.trans q4;have hne:L≠bi:=fun e=>by rw[e,hi1]at u;cases u
 obtain⟨m2,g2⟩:=I.1.ae3 (o:=.mapIter (some L) clock (seen.push e.born) clock) (e':=.iter (m.map (CM ek ev)) (vis++[i])) hn rfl Z (by rw[q1];rfl)
  (fun g=>⟨bi,L,ms,clock,seen.push e.born,q1,Vq (Gn.1 hi1).1,q3,(XY hne).trans u,(q5.mono I.2).mono g,by simp[q6],fun j i' q=>by
   by_cases hjl:j<vis.length
   ·rw[Hw hjl]at q;obtain⟨e2,s1,s2⟩:=q7 j i' q;exact⟨e2,s1,by rw[Array.getElem?_push_lt AB];simpa[eA (show j<seen.size by omega)]using s2⟩
   have hj2:j=vis.length:=by
    have :=(G7.1 q).1;simp at this;omega
   subst hj2;simp at q;subst q
   exact⟨e,Y,by rw[←q6];simp⟩⟩)
 have g3:=I.2.trans g2
 have hp:=(h1 i m[i] (by simp[him]) aA2).run ro l2 Q' C ok H (a.put o.dst (.tuple #[.bool true,e.key,e.val])) _ (z.put o.dst (x:=.eH [.d (Dt true),.d (.lit (ek m[i].1)),.d (ev m[i].2)]) g3 (.refl _) m2 (.eH _ _ rfl fun j q=>by
  match j,q with
  |0,_=>exact .d _ _ (.lit _)
  |1,_=>
   show R ok _ H (.d (.lit (ek m[i].1))) e.key;rw[r1];exact .d _ _ (.lit _)
  |2,_=>exact .d _ _ (r2.mono g3))) hk
 exact hp
def BZ.apX {A Rr:Type} {cd:Code} (S:A8 Nat->A->Ap) (m:A8 (K×V)) (step:A->K×V->AL A) (Kf:A->AL Rr) (r:Rr) (a0:A) (hs:Cj σ (S [] a0))
 (L:∀vis:A8 Nat,vis.Nodup->(∀i,i∈vis↔i<m.length)->((vis.filterMap fun(i:Nat)=>m[i]?).foldlM step a0).bind Kf=some r)
 (round:∀(J:Ap->Prop) (vis:A8 Nat) (a:A),((∀i,i<m.length->i∈vis)->Kf a=some r)->(∀i p,m[i]? =some p->i∉vis->∃a',step a p=some a'/\∀s,Cj s (S (vis++[i]) a')->J s)->BZ P cd (S vis a) (Jg J Q)):BZ P (.loop cd) σ Q:=by
 have U:∀vis:A8 Nat,vis.Nodup->(∀i∈vis,i<m.length)->∃rest,(vis++rest).Nodup/\(∀i,i∈vis++rest↔i<m.length):=fun vis q u=>by
  refine⟨(List.range m.length).filter fun i=> !vis.contains i,?_,fun i=>?_⟩
  ·refine kD.2 ⟨q,List.Pairwise.filter _ List.nodup_range,fun a ha b Y e=>?_⟩;subst e;rw[Fa]at Y;simp[ha]at Y
  rw[Gx,Fa];constructor
  ·rintro(h|h)
   ·exact u i h
   simpa using h.1
  intro h;by_cases hc:i∈vis
  ·exact .inl hc
  exact .inr ⟨LC,by simp[hc]⟩
 refine BZ.loop (fun n s=>∃vis a,n=m.length-vis.length/\vis.Nodup/\(∀i∈vis,i<m.length)/\(vis.filterMap fun(i:Nat)=>m[i]?).foldlM step a0=some a/\Cj s (S vis a)) (m.length) ⟨[],a0,BR,Wu,fun i h=>IL,rfl,hs⟩ ?_;rintro n s ⟨vis,a,rfl,q,u,hf,M⟩;refine DW M (round _ vis a (fun hc=>?_) (fun i p hp hi=>?_))
 ·have :=L vis q (fun i=>⟨u i,hc i⟩);rw[hf]at this;exact this
 have him:i<m.length:=(G7.1 hp).1;have z:(vis++[i]).Nodup:=kD.2 ⟨q,BR,fun a ha b Y e=>by simp at Y;subst Y;subst e;exact hi ha⟩
 have I:∀j∈vis++[i],j<m.length:=fun j Z=>by
  rcases Gx.1 Z with h|h
  ·exact u j h
  simp at h;subst h;exact him
 obtain⟨rest,h1,h2⟩:=U (vis++[i]) z I;have h3:=L _ h1 h2;rw[ZO,ZO]at h3;simp only[Ob,List.filterMap_nil,hp,List.foldlM_append,SV,List.foldlM_nil,hf,bind,pure,Ad]at h3;cases hst:step a p with
 |none=>rw[hst]at h3;simp at h3
 |some a'=>
  refine⟨a',rfl,fun s hs=>⟨m.length-(vis++[i]).length,?_,vis++[i],a',rfl,z,I,?_,hs⟩⟩
  ·have :vis.length<m.length:=by
    have M:vis.length<=(List.range m.length).length:=by
     refine aaB q ?_;intro j Z;simpa using u j Z
    have O:(vis++[i]).length<=(List.range m.length).length:=by
     refine aaB z ?_;intro j Z;simpa using I j Z
    simp at O;omega
   simp;omega
  rw[ZO,List.foldlM_append,hf];simp[hp,hst]
end
def aME {α:Type}:∀(m:A8 α) (vis:A8 Nat),vis.Nodup->(∀i,i∈vis↔i<m.length)->(vis.filterMap fun(i:Nat)=>m[i]?).Perm m:=fun m vis j q=>by
 have u:vis.Perm (List.range m.length):=by
  rw[List.perm_iff_count];intro a;rw[j.count,List.nodup_range.count];simp[q a]
 have z:((List.range m.length).filterMap fun(i:Nat)=>m[i]?)=m:=by
  apply dD;intro i
  have :∀(n:Nat),n<=m.length->((List.range n).filterMap fun(i:Nat)=>m[i]?)=m.take n:=by
   intro n
   induction n with
   |zero=>intro _;simp
   |succ n I=>
    intro L;rw[List.range_succ,ZO,I AB];have hl:n<m.length:=AB
    simp[hl]
  rw[this m.length (EW _),J7]
 have J:=u.filterMap (fun(i:Nat)=>m[i]?)
 rwa [z]at J
def aGc {α β:Type} {c:α->AQ} {f:α->β} {b:Nat}:∀(l:A8 α) (v:A8 β),
 l.foldlM (fun v p=>bif c p then(Dc b v [f p]).bind fun x=>some x else some v) v=if(v.length+(l.filter c).length)*b<=140737488355328\/l.filter c=[]then some (v++(l.filter c).map f)else none
 | [],v=>BR
 |p::l,v=>by
  rw[SV];cases u:c p with
  |false=>
   have q:=aGc (c:=c) (f:=f) (b:=b) l v;simp only[BH,bind,Ad,q,Vj,u,UD,L6]
  |true=>
   simp only[Bq,Vj,u,Lp];have I:Dc b v [f p]=if(v.length+[f p].length)*b<=140737488355328 then some (v++[f p])else none:=rfl
   rw[I];by_cases j:(v.length+[f p].length)*b<=140737488355328
   ·rw[D8 j];have q:=aGc (c:=c) (f:=f) (b:=b) l (v++[f p]);simp only[Ad,bind,q];have z:(v++[f p]).length+(l.filter c).length=v.length+(p::l.filter c).length:=Et
    rw[z];by_cases hl:l.filter c=[]
    ·rw[hl]at z ⊢;simp only[GI,Qo]at j ⊢;simp[j]
    simp[hl]
   rw[DU j];simp only[Option.bind_none,bind];rw[DU];rintro(h|h)
   ·refine j (EY (Js _ ?_) h);simp
   cases h
def aOZ {α β Rr:Type} {c:α->AQ} {f:α->β} {b:Nat} {u q:A8 α} {v:A8 β} {Kf:A8 β->AL Rr} {r:Rr} (hp:u.Perm q) (I:∀x y,x.Perm y->Kf x=Kf y)
 (h:(q.foldlM (fun v p=>bif c p then(Dc b v [f p]).bind fun x=>some x else some v) v).bind Kf=some r):
 (u.foldlM (fun v p=>bif c p then(Dc b v [f p]).bind fun x=>some x else some v) v).bind Kf=some r:=by
 rw[aGc]at h ⊢;have j:=hp.filter c
 have e:((v.length+(u.filter c).length)*b<=140737488355328\/u.filter c=[])↔((v.length+(q.filter c).length)*b<=140737488355328\/q.filter c=[]):=by
  rw[j.length_eq];constructor
  ·rintro(h|h)
   ·exact .inl h
   exact .inr (by rw[h]at j;exact j.symm.eq_nil)
  rintro(h|h)
  ·exact .inl h
  exact .inr (by rw[h]at j;exact j.eq_nil)
 by_cases z:((v.length+(q.filter c).length)*b<=140737488355328\/q.filter c=[])
 ·rw[D8 z]at h;rw[D8 (e.2 z)];simp only[Ad]at h ⊢;rw[←h];exact I _ _ ((j.map f).append_left v)
 rw[DU z]at h;cases h
section
variable {K V:Type} [BEq K]
def Fr :A8 (K×V)->K->Nat
 | [],_=>0
 |p::m,k=>bif k==p.1 then 0 else Fr m k+1
def aOs {ek:K->Ai} {kd:TypeDesc} (hs:∀a b,Instr.sameNow kd (ek a) (ek b)=some (a==b)) (k:K) (v:V):∀(m:A8 (K×V)) (l:A8 MapEntry) (i:Nat),l.map (·.key)=m.map (fun p=>ek p.1)->
 (Instr.findNow kd (ek k) l i=some none/\Ce m k=none/\EM m k v=m++[(k,v)]/\Fr m k=m.length)\/
 ∃e p,Instr.findNow kd (ek k) l i=some (some (i+Fr m k,e.val))/\l[Fr m k]? =some e/\m[Fr m k]? =some p/\Ce m k=some p.2/\(k==p.1)=true/\EM m k v=m.set (Fr m k) (k,v)
 | [],[],_,_=>.inl ⟨rfl,rfl,rfl,rfl⟩
 | [],_::_,_,h=>IL
 |_::_,[],_,h=>IL
 |p::m,e::l,i,h=>by
  simp only[Gv,aAD]at h;cases j:(k==p.1)with
  |true=>
   refine .inr ⟨e,p,?_,?_,?_,?_,j,?_⟩
   ·simp[Instr.findNow,h.1,hs,j,Fr]
   ·simp[Fr,j]
   ·simp[Fr,j]
   ·simp[Ce,j]
   simp[EM,Fr,j]
  |false=>
   rcases aOs hs k v m l (i+1) h.2 with⟨q,u,z,I⟩|⟨e',J,q,u,z,I,L,M⟩
   ·refine .inl ⟨?_,?_,?_,?_⟩
    ·simp[Instr.findNow,h.1,hs,j,q]
    ·simp[Ce,j,u]
    ·simp[EM,j,z]
    simp[Fr,j,I]
   refine .inr ⟨e',J,?_,by simpa[Fr,j]using u,by simpa[Fr,j]using z,?_,L,?_⟩
   ·simp[Instr.findNow,h.1,hs,j,q,Fr];omega
   ·simp[Ce,j,I]
   simp[EM,j,M,Fr]
def aMN (k:K) (v:V):∀m:A8 (K×V),(EM m k v)[Fr m k]? =some (k,v)
 | []=>rfl
 |p::m=>by
  cases j:(k==p.1)with
  |true=>simp[EM,Fr,j]
  |false=>simp[EM,Fr,j,aMN k v m]
def aN8 (k:K) (v u:V):∀m:A8 (K×V),(EM m k v).set (Fr m k) (k,u)=EM m k u
 | []=>rfl
 |p::m=>by
  cases j:(k==p.1)with
  |true=>simp[EM,Fr,j]
  |false=>simp[EM,Fr,j,aN8 k v u m]
end
section
variable {ok:Nat->Prop} {w:BG} {es:A8 (Ai×D)} {ms:BQ MapEntry} {clock:Nat}
def SB.nil:SB #[] 0:=⟨rfl,fun i e h=>IL⟩
def SB.push (h:SB ms clock) {k v:Ai}:SB (ms.push { key:=k,val:=v,born:=clock }) (clock+1):=by
 refine⟨by simp[h.1],fun i e j=>?_⟩;rw[aKY]at j;split at j
 ·rename_i q;obtain rfl:=Ch j;rw[q];exact h.1
 exact h.2 i e j
def SB.modify (h:SB ms clock) (j:Nat) (f:MapEntry->MapEntry) (u:∀e,(f e).born=e.born):SB (ms.modify j f) clock:=by
 refine⟨by simp[h.1],fun i e q=>?_⟩;rw[Ou]at q;split at q
 ·rw[VB]at q;obtain⟨z,I,rfl⟩:=q;rw[u];exact h.2 i z I
 exact h.2 i e q
def SB.find (h:SB ms clock) {n:Nat} (q:n<ms.size):ms.findIdx? (fun e=>(e.born:Int)==(n:Int))=some n:=by
 rw[Array.findIdx?_eq_some_iff_getElem];refine⟨q,?_,fun j u=>?_⟩
 ·have :=h.2 n ms[n] eu;simp[this]
 have :=h.2 j ms[j] (by simp[Nat.lt_trans u q]);simp[this];omega
def afP (ms:BQ MapEntry) (j:Nat) (k v:Ai) (q:∀e,ms[j]? =some e->e.key=k):(ms.modify j fun e=>{ e with val:=v })=ms.modify j fun e=>{ e with key:=k,val:=v }:=by
 apply oK;intro i;rw[Ou,Ou];split
 ·rename_i e;subst e;cases hm:ms[j]? with
  |none=>rfl
  |some e=>simp[q e hm]
 rfl
def alO (ms:BQ MapEntry) (j:Nat) (k v:Ai) (q:∀e,ms[j]? =some e->e.val=v):(ms.modify j fun e=>{ e with key:=k })=ms.modify j fun e=>{ e with key:=k,val:=v }:=by
 apply oK;intro i;rw[Ou,Ou];split
 ·rename_i e;subst e;cases hm:ms[j]? with
  |none=>rfl
  |some e=>simp[q e hm]
 rfl
end
section
variable {P:CS} {o:Oper} {es:A8 BK} {K V:Type} [BEq K]
def alY {t:Bj} {j:BQ (Nat×Bg)} {q:A8 (Nat×Nat)} {z:Ai} {cs:A8 Aa} (u:JB P t q z) (vs:A8 Aa) (I:Jy (fun(i:Nat)=>q[i]?) (Fh z) j.toList vs=cs) (hp:NW (fun(i:Nat)=>q[i]?) (Fh z).length j.toList vs=true) (J:o.op=.build t j):
 Bz P o (NU j.toList vs) es (.ag cs) es:=I▸afp u vs hp J
def Va (x y:Int):Int:=bif y>x then y else x
def ae5 {x y:Bg} {ats:BQ Bj} {kd:IntKind} {a b:Int} (z:o.op=.call { callee:=.builtin .max,args:= #[x,y],argTypes:=ats }):
 Bz P o [(x,.d (.lit (.int kd a))),(y,.d (.lit (.int kd b)))] es (.d (.lit (.int kd (Va a b)))) es:=
 .pure fun ok H c w _ _ j=>by
  have q:=(F8 j).1.lit;have u:=(F8 j).2.lit;simp only at q u;have e:Va a b=if b>a then b else a:=by unfold Va;by_cases h:b>a<;>simp[h]
  refine⟨.int kd (Va a b),?_,.d _ _ (.lit _)⟩;rw[e];simp[execOp,z,resolve,invoke,builtin,q,u,Go.run_max_int2]
def aGB {t:Bj} (u:o.op=.makeMap t none):Bz P o [] es (.mp es.length) (es++[.eU []]):=
 .eff fun C ok H a w hm M=>by
  have q:FB ok (w.alloc (.map #[] 0)) (H++[⟨.map (some w.heap.size),0⟩]) ⟨.map (some w.heap.size),0⟩ (.eU []):=
   ⟨w.heap.size, #[],0,rfl,(aJh w _).1,⟨rfl,fun i e m z=>vM,fun i j m n _ hm=>by simp at hm⟩,.nil⟩
  obtain⟨I,J⟩:=hm.push (.map #[] 0) ⟨.map (some w.heap.size),0⟩ _ (fun b q=>aEu) q;refine⟨.map (some w.heap.size),_,ok,_,.inl ?_,J,I7 _ _,I,.mp _ _ 0 rfl Pn⟩;have L:(newObj (.map #[] 0)).run P w=.ok w.heap.size (w.alloc (.map #[] 0)):=rfl;simp[execOp,u,Instr.makeMap,L]
def iJ {t J L:Bj} {x y:Bg} {k:Nat} {ek:K->Ai} (ev:V->D) (M:V) {z:Ai} {m:A8 (K×V)} {key:K} (Z:P.underlying t=some (.map J L)) (hk:KeyTy P J ek) (hz:(P.info? L).bind (·.zero)=some z) (q:Y6 z=ev M) (u:z.cells.all (·.oneCell')=true)
 (he:es[k]? =some (.eU (m.map (CM ek ev)))) (ho:o.op=.lookup t x y false):Bz P o [(x,.mp k),(y,.d (.lit (ek key)))] es (.d (ev ((Ce m key).getD M))) es:=
 .pure fun ok H a w j hl O=>by
  obtain⟨hd,hh,I⟩:=GX j hl he;obtain⟨b,ms,clock,h1,h2,h3,_⟩:=I;have U:=SC (F8 O).1 hh;have Y:=(F8 O).2.lit;simp only at U Y;obtain⟨v,hr,hv⟩:=aEp (key:=key) ev Z hk hz q u h2 h3 false;refine⟨v,?_,.d _ _ hv⟩;simp[execOp,ho,U,Y,h1,hr]
def aiu {t J L:Bj} {x y:Bg} {k:Nat} {ek:K->Ai} (ev:V->D) (M:V) {z:Ai} {m:A8 (K×V)} {key:K} (Z:P.underlying t=some (.map J L)) (hk:KeyTy P J ek) (hz:(P.info? L).bind (·.zero)=some z) (q:Y6 z=ev M) (u:z.cells.all (·.oneCell')=true)
 (he:es[k]? =some (.eU (m.map (CM ek ev)))) (ho:o.op=.lookup t x y true):Bz P o [(x,.mp k),(y,.d (.lit (ek key)))] es (.eH [.d (ev ((Ce m key).getD M)),.d (Dt (Ce m key).isSome)]) es:=
 .pure fun ok H a w j hl O=>by
  obtain⟨hd,hh,I⟩:=GX j hl he;obtain⟨b,ms,clock,h1,h2,h3,_⟩:=I;have U:=SC (F8 O).1 hh;have Y:=(F8 O).2.lit;simp only at U Y;obtain⟨v,hr,hv⟩:=aEp (key:=key) ev Z hk hz q u h2 h3 true;refine⟨.tuple #[v,.bool (Ce m key).isSome],?_,.eH _ _ rfl fun i hi=>?_⟩
  ·simp[execOp,ho,U,Y,h1,hr]
  match i,hi with
  |0,_=>exact .d _ _ hv
  |1,_=>exact .d _ _ (.lit _)
def uK {C:Ee} {ok:Nat->Prop} {H:A8 Bv} {w:BG} (hm:DL C ok H es w) {k:Nat} {es0 u:A8 (Ai×D)} {b clock j:Nat} {ms q:BQ MapEntry} {hd:Bv} (J:es[k]? =some (.eU es0)) (L:H[k]? =some hd) (z:hd.v=.map (some b)) (I:w.heap[b]? =some (.map ms clock))
 (M:Je ok w u q j) (O:SB q j):(setObj b (.map q j)).run P w=.ok () (w.putObj b (.map q j))/\DL C ok H (es.set k (.eU u)) (w.putObj b (.map q j))/\Ej ok w ok (w.putObj b (.map q j)):=by
 refine⟨by simp[setObj,Sem.run,I,World.putObj],hm.ae3 J rfl L (by rw[z];rfl) fun U=>⟨b,q,j,z,Vq (Gn.1 I).1,M.mono U,O⟩⟩
def alo {t kt vt:Bj} {x y u:Bg} {k:Nat} {ek:K->Ai} (ev:V->D) {m:A8 (K×V)} {key:K} {val:V} (ht:P.underlying t=some (.map kt vt)) (J:KeyTy P kt ek) (U:es[k]? =some (.eU (m.map (CM ek ev)))) (ho:o.op=.mapUpdate t x y u):
 Bz P o [(x,.mp k),(y,.d (.lit (ek key))),(u,.d (ev val))] es .junk (es.set k (.eU ((EM m key val).map (CM ek ev)))):=
 .eff fun C ok H a w hm Y=>by
  obtain⟨hd,Z,hok⟩:=GX hm.ent hm.hlen U;obtain⟨b,ms,clock,L,M,O,h4⟩:=hok;have hx:=SC (Y (x,.mp k) BR) Z;have hy:=(Y (y,.d (.lit (ek key))) BR).lit;have hu:Dq ok w (ev val) (a.eval u):=by have :=Y (u,.d (ev val)) BR;cases this with |d _ _ h=>exact h
  simp only at hx hy;obtain⟨kd,q,hs⟩:=J.same;have hks:ms.toList.map (·.key)=m.map (fun p=>ek p.1):=by rw[O.keys];simp[CM,gu]
  have z:=J.check;rcases aEB (i:=0) hs key val m ms.toList hks with⟨q1,_,q3⟩|⟨j,e,p,q1,q2,q3,_,q5,q6⟩
  ·have hM:=O.push (k:=ek key) hu;obtain⟨r1,r2,r3⟩:=uK (P:=P) hm U Z L M hM h4.push;refine⟨undef,_,ok,H,.inr ⟨rfl,?_⟩,r3,.refl _,?_,.junk _⟩
   ·simp[execOp,ho,hx,hy,L,Instr.mapUpdate,underlying,ht,PS M,z,Instr.findKey,q,q1,r1]
   rw[q3,LY];exact r2
  have hM:=O.modify (k:=ek key) hu j;obtain⟨r1,r2,r3⟩:=uK (P:=P) hm U Z L M hM (h4.modify j _ fun _=>rfl)
  have I:e.key=ek key:=by
   have h5:(m.map (CM ek ev))[j]? =some (CM ek ev p):=by rw[JI,q3];rfl
   rw[(O.ent j _ e h5 dZ).1,J.eq _ _ q5];rfl
  have hst:∀w,(Instr.keyThatStays (ek key) (ek key)).run P w=.ok (ek key) w:=fun w=>by simp[Instr.keyThatStays,J.bits]
  have hms:ms[j]? =some e:=dZ
  refine⟨undef,_,ok,H,.inr ⟨rfl,?_⟩,r3,.refl _,?_,.junk _⟩
  ·simp[execOp,ho,hx,hy,L,Instr.mapUpdate,underlying,ht,PS M,z,Instr.findKey,q,q1,hms,I,hst,r1]
  rw[q6,aBa];exact r2
def aK1 {t kt vt:Bj} {x y:Bg} {k:Nat} {ek:K->Ai} (ev:V->D) (J:V) {z:Ai} {m:A8 (K×V)} {key:K} (ht:P.underlying t=some (.map kt vt)) (hk:KeyTy P kt ek) (hz:(P.info? vt).bind (·.zero)=some z) (hzv:Y6 z=ev J) (hzl:z.cells.all (·.oneCell')=true)
 (he:es[k]? =some (.eU (m.map (CM ek ev)))) (ho:o.op=.mapEntry t x y):
 Bz P o [(x,.mp k),(y,.d (.lit (ek key)))] es (.eH [.d (ev ((Ce m key).getD J)),.d (Ae (Fr m key:Nat))]) (es.set k (.eU ((EM m key ((Ce m key).getD J)).map (CM ek ev)))):=
 .eff fun C ok H a w hm hn=>by
  obtain⟨hd,hh,hok⟩:=GX hm.ent hm.hlen he;obtain⟨b,ms,clock,h1,h2,L,h4⟩:=hok;have hx:=SC (F8 hn).1 hh;have hy:=(F8 hn).2.lit;simp only at hx hy;obtain⟨kd,M,hs⟩:=hk.same;have hks:ms.toList.map (·.key)=m.map (fun p=>ek p.1):=by rw[L.keys];simp[CM,gu]
  have O:=hk.check;have hml:ms.size=m.length:=by have :=L.len;simpa using this
  obtain⟨i0,hi0,hz'⟩:=ig.1 hz;rcases aOs (i:=0) hs key ((Ce m key).getD J) m ms.toList hks with⟨q1,q2,q3,q4⟩|⟨e,p,q1,q2,q3,q4,q5,q6⟩
  ·have U:Dq ok w (ev ((Ce m key).getD J)) z:=by
    rw[q2];have :=aPM (ok:=ok) (w:=w) hzl;rw[hzv]at this;exact this
   have hM:=L.push (k:=ek key) U;obtain⟨r1,r2,Y⟩:=uK (P:=P) hm he hh h1 h2 hM h4.push;refine⟨.tuple #[z,goInt clock],_,ok,H,.inl ?_,Y,.refl _,?_,.eH _ _ rfl fun i hi=>?_⟩
   ·simp[execOp,ho,hx,hy,h1,Instr.mapEntry,underlying,ht,PS h2,O,Instr.findKey,M,q1,r1,zeroValue,typeInfo,hi0,hz']
   ·rw[q3,LY];exact r2
   match i,hi with
   |0,_=>
    have u:=U.mono Y;exact .d _ _ u
   |1,_=>
    have :goInt (clock:Nat)=.int .i64 (Fr m key:Nat):=by rw[q4,←hml,←h4.1];rfl
    show R ok _ H (.d (Ae (Fr m key:Nat))) (goInt clock);rw[this];exact .d _ _ (.lit _)
  have h5:(m.map (CM ek ev))[Fr m key]? =some (CM ek ev p):=by rw[JI,q3];rfl
  have j:ms[Fr m key]? =some e:=dZ
  have q:=L.ent _ _ e h5 j;have U:Dq ok w (ev ((Ce m key).getD J)) e.val:=by rw[q4];exact q.2.1
  have hM:=L.modify (k:=ek key) U (Fr m key);have hmk:=alO ms (Fr m key) (ek key) e.val (fun e' Z=>by rw[j]at Z;rw[←Ch Z]);rw[←hmk]at hM;have hkey:e.key=ek key:=by rw[q.1,hk.eq _ _ q5];rfl
  obtain⟨r1,r2,Y⟩:=uK (P:=P) hm he hh h1 h2 hM (h4.modify _ _ fun _=>rfl);have hst:∀w,(Instr.keyThatStays (ek key) (ek key)).run P w=.ok (ek key) w:=fun w=>by simp[Instr.keyThatStays,hk.bits]
  have I:e.born=Fr m key:=h4.2 _ e j;refine⟨.tuple #[e.val,goInt (Fr m key:Nat)],_,ok,H,.inl ?_,Y,.refl _,?_,.eH _ _ rfl fun i hi=>?_⟩
  ·simp[execOp,ho,hx,hy,h1,Instr.mapEntry,underlying,ht,PS h2,O,Instr.findKey,M,q1,j,hkey,hst,r1,I]
  ·rw[q6,aBa];exact r2
  match i,hi with
  |0,_=>
   have u:=U.mono Y;exact .d _ _ u
  |1,_=>exact .d _ _ (.lit _)
def aFI {t kt:Bj} {x s u:Bg} {k:Nat} {ek:K->Ai} (ev:V->D) {m:A8 (K×V)} {key:K} {z0 val:V} (hk:KeyTy P kt ek) (Y:es[k]? =some (.eU ((EM m key z0).map (CM ek ev)))) (ho:o.op=.entryStore t x s u):
 Bz P o [(x,.mp k),(s,.d (Ae (Fr m key:Nat))),(u,.d (ev val))] es .junk (es.set k (.eU ((EM m key val).map (CM ek ev)))):=
 .eff fun C ok H a w hm L=>by
  obtain⟨hd,Z,M⟩:=GX hm.ent hm.hlen Y;obtain⟨b,ms,clock,h1,h2,O,h4⟩:=M;have hx:=SC (L (x,.mp k) BR) Z;have hy:a.eval s=.int .i64 (Fr m key:Nat):=(L (s,.d (Ae (Fr m key:Nat))) BR).lit;have hu:Dq ok w (ev val) (a.eval u):=by have :=L (u,.d (ev val)) BR;cases this with |d _ _ h=>exact h
  simp only at hx;have j:=aMN key z0 m;have h5:((EM m key z0).map (CM ek ev))[Fr m key]? =some (CM ek ev (key,z0)):=by rw[JI,j];rfl
  have q:Fr m key<ms.size:=by
   have h6:=(G7.1 j).1;have :=O.len;rw[Cm]at this;omega
  have z:ms[Fr m key]? =some ms[Fr m key]:=eu
  have I:=O.ent _ _ _ h5 z;have hM:=O.modify (k:=ek key) hu (Fr m key);have U:=afP ms (Fr m key) (ek key) (a.eval u) (fun e' J=>by rw[z]at J;rw[←Ch J];exact I.1);rw[←U]at hM;obtain⟨r1,r2,r3⟩:=uK (P:=P) hm Y Z h1 h2 hM (h4.modify _ _ fun _=>rfl);refine⟨undef,_,ok,H,.inr ⟨rfl,?_⟩,r3,.refl _,?_,.junk _⟩
  ·simp[execOp,ho,hx,hy,h1,Instr.entryStore,PS h2,asInt,asIntOf,h4.find q,r1]
  have e1:((EM m key z0).map (CM ek ev)).set (Fr m key) (ek key,ev val)=(EM m key val).map (CM ek ev):=by
   rw[←aN8 key z0 val m,aBa];rfl
  rw[←e1];exact r2
end
section
variable {P:CS} {σ:Ap} {Q:Exit->Ap->Prop} {c:Bg} {x y:Code}
def Dv {A:Type} {b:AQ} {u v z:A} (h:(bif b then u else v)=z) (j:u=z->BZ P x σ Q) (q:v=z->BZ P y σ Q) (I:σ.get c=.d (.lit (.bool b)):=by kernel_rfl):BZ P (.cond c x y) σ Q:=
 BZ.cond b I (fun e=>j (P8 e h)) (fun e=>q (PD e h))
def Cc {A:Type} {b:AQ} {u v z:A} (h:(bif b then u else v)=z) (j:u=z->Q .normal σ) (q:v=z->BZ P y σ Q) (I:σ.get c=.d (.lit (.bool b)):=by kernel_rfl):BZ P (.cond c .skip y) σ Q:=Dv h (fun e=>FQ (j e)) q I
def Bc {A:Type} {b:AQ} {u v z:A} (h:(bif b then u else v)=z) (j:u=z->BZ P x σ Q) (q:v=z->Q .normal σ) (I:σ.get c=.d (.lit (.bool b)):=by kernel_rfl):BZ P (.cond c x .skip) σ Q:=Dv h j (fun e=>FQ (q e)) I
end
section
variable {P:CS} {ops:BQ Oper} {o:Oper} {rest:A8 Oper} {σ σ':Ap} {K:Exit->Ap->Prop} {ns:A8 (Bg×Aa)} {x:Aa} {es':A8 BK}
def DK.f (h:Bz P o ns σ.ents x es') (k:DK P ops rest (σ.put o.dst x es') K) (j:(ns.map fun n=>σ.get n.1)=ns.map (·.2):=by kernel_rfl) (q:J4 ops σ o.guard=some true:=by kernel_rfl) (u:(Lm ns).all (tmpsOf o).contains=true:=by kernel_rfl):DK P ops (o::rest) σ K:=DK.e es' h k rfl j q u
def Chain.f (h:Bz P o ns σ.ents x es') (k:Chain P ops rest (σ.put o.dst x es') σ') (j:(ns.map fun n=>σ.get n.1)=ns.map (·.2):=by kernel_rfl) (q:J4 ops σ o.guard=some true:=by kernel_rfl):Chain P ops (o::rest) σ σ':=Chain.e es' h k rfl j q
def FH.f {rs:A8 Aa} {ess:A8 (A8 BK)} {bs:A8 AQ} (h:Bz P o ns σ.ents x es') (k:FH P ops rest (σ.put o.dst x es') rs ess bs σ') (j:(ns.map fun n=>σ.get n.1)=ns.map (·.2):=by kernel_rfl) (q:J4 ops σ o.guard=some true:=by kernel_rfl)
 (u:(Lm ns).all (tmpsOf o).contains=true:=by kernel_rfl):FH P ops (o::rest) σ (x::rs) (es'::ess) (true::bs) σ':=FH.e es' h k rfl j q u
end
def aPB {A:Type} {b:AQ} {u v z:A} (h:(bif b then u else v)=z):(b=true/\u=z)\/(b=false/\v=z):=by
 cases b with
 |true=>exact .inl ⟨rfl,h⟩
 |false=>exact .inr ⟨rfl,h⟩
def Ci {A:Type} {a b:A} (h:some a=some b):a=b:=Ch h
def rH {α β γ:Type} {x:AL α} {y:α->AL β} {f:α->β->AL γ} {z:γ} (h:(x.bind fun a=>(y a).bind (f a))=some z):∃a,x=some a/\∃b,y a=some b/\f a b=some z:=by
 obtain⟨a,j,h⟩:=DT h;obtain⟨b,q,h⟩:=DT h;exact⟨a,j,b,q,h⟩
def aCx {α β γ δ:Type} {x:AL α} {y:α->AL β} {w:α->β->AL δ} {f:α->β->δ->AL γ} {z:γ} (h:(x.bind fun a=>(y a).bind fun b=>(w a b).bind (f a b))=some z):∃a,x=some a/\∃b,y a=some b/\∃d,w a b=some d/\f a b d=some z:=by
 obtain⟨a,j,b,q,h⟩:=rH h;obtain⟨d,u,h⟩:=DT h;exact⟨a,j,b,q,d,u,h⟩
def AU {α β:Type} {x:AL α} {f:α->AL β} {z:β} {G:Prop} (h:x.bind f=some z) (k:∀a,x=some a->f a=some z->G):G:=by
 obtain⟨a,j,h⟩:=DT h;exact k a j h
def DF {α β γ:Type} {x:AL α} {y:α->AL β} {f:α->β->AL γ} {z:γ} {G:Prop} (h:(x.bind fun a=>(y a).bind (f a))=some z) (k:∀a,x=some a->∀b,y a=some b->f a b=some z->G):G:=by
 obtain⟨a,j,b,q,h⟩:=rH h;exact k a j b q h
def OJ {α β γ δ:Type} {x:AL α} {y:α->AL β} {w:α->β->AL δ} {f:α->β->δ->AL γ} {z:γ} {G:Prop} (h:(x.bind fun a=>(y a).bind fun b=>(w a b).bind (f a b))=some z) (k:∀a,x=some a->∀b,y a=some b->∀d,w a b=some d->f a b d=some z->G):G:=by
 obtain⟨a,j,b,q,d,u,h⟩:=aCx h;exact k a j b q d u h
section
variable {P:CS} {o:Oper} {es:A8 BK} {α:Type}
def BU {x y:Bg} {t e:Bj} {i:Int} {agg:AQ} {size:Nat} (enc:α->D) {l:A8 α} {a:α} (h:BF l i=some a) (j:P.underlying t=some (.slice e)) (q:EC P e agg size) (u:o.op=.indexAddr t x y) (hs:(enc a).cells.length=size:=by kernel_rfl):
 Bz P o [(x,.d (BO enc l)),(y,.d (.lit (.int .i64 i)))] es (.d (.ref (enc a).cells 0)) es:=ajT enc h j q hs u
def Eu {t e:Bj} {size q len:Nat} {z:Ai} (hE:GU P t e size q) (J:(P.info? e).bind (·.zero)=some z) (ys:A8 D) {j:BQ (Nat×Bg)} (L:o.op=.buildSlice t len j) (M:z.cells.all (·.oneCell')=true:=by kernel_rfl) (u:z.cells.size=size:=by kernel_rfl) (hlen:Nat.ble (len*size) 16777216=true:=by kernel_rfl)
 (hp:NW (fun i=>some (i*size,size)) (len*size) j.toList (ys.map .d)=true:=by kernel_rfl) (O:Jy (fun i=>some (i*size,size)) (Qb z (len*size)) j.toList (ys.map .d)=flat ys:=by kernel_rfl) (hl:ys.length=len:=by kernel_rfl) (I:ys.all (fun y=>y.cells.length=size)=true:=by kernel_rfl):
 Bz P o (NU j.toList (ys.map .d)) es (.d (.sl ys)) es:=Xt hE J M u (ED hlen) (ys.map .d) ys hp O hl I L
def Sv {t e:Bj} {size q len:Nat} {z:Ai} (hE:GU P t e size q) (J:(P.info? e).bind (·.zero)=some z) (ys:A8 D) {j:BQ (Nat×Bg)} (L:o.op=.buildSlice t len j) (M:z.cells.all (·.oneCell')=true:=by kernel_rfl) (u:z.cells.size=size:=by kernel_rfl) (hlen:Nat.ble (len*size) 16777216=true:=by kernel_rfl)
 (hp:NW (fun i=>some (i*size,size)) (len*size) j.toList (ys.map .d)=true:=by kernel_rfl) (O:Jy (fun i=>some (i*size,size)) (Qb z (len*size)) j.toList (ys.map .d)=flat ys:=by kernel_rfl) (hl:ys.length=len:=by kernel_rfl) (I:ys.all (fun y=>y.cells.length=size)=true:=by kernel_rfl):
 Bz P o (NU j.toList (ys.map .d)) es (.aS es.length) (es++[.arr e size ys]):=aM0 hE J M u (ED hlen) (ys.map .d) ys hp O hl I L
def DK.aM {ops:BQ Oper} {l:A8 Oper} {σ:Ap} {K:Exit->Ap->Prop} [T:Kn P] {M:Ap->Prop} (n:Nat) (k:M (OV (GN T ops n l σ))) (hl:l.length=n:=by kernel_rfl) (h:(GN T ops n l σ).isSome=true:=by kernel_rfl):DK P ops l σ (Jg M K):=
 .a n (by rw[aA5 (Yy hl)];exact .bC k) h
end
def He {A:Type} {b:AQ} {u v z:A} {G:Prop} (h:(bif b then u else v)=z) (j:b=true->u=z->G) (k2:b=false->v=z->G):G:=by
 rcases aPB h with⟨e,h⟩|⟨e,h⟩
 ·exact j e h
 exact k2 e h
def acN {A:Type} (o:AL A) (f:A->Aa):Aa:=match o with
 |none=>.d (.lit (.pointer none))
 |some a=>f a
def agv {A:Type} (o:AL A) (f:A->A8 BK):A8 BK:=match o with
 |none=>[]
 |some a=>f a
def ah {A B:Type} (o:AL A) (x:AL B) (f:A->AL B):AL B:=match o with
 |none=>x
 |some a=>f a
def aDH {A B:Type} {x z:AL B} {f:A->AL B} (h:ah none x f=z):x=z:=h
def yY {A B:Type} {x z:AL B} {a:A} {f:A->AL B} (h:ah (some a) x f=z):f a=z:=h
section
variable {P:CS} {o:Oper} {es:A8 BK}
def aDn {t t':Bj} {x y:Bg} {k off:Nat} (I:P.underlying t=some (.pointer (P.pointee t))) (J:o.op=.binOp .eql t x y t'):Bz P o [(x,.ptr k off),(y,.d (.lit (.pointer none)))] es (.d (Dt false)) es:=
 .pure fun _ _ a w _ _ q=>⟨.bool false,by
  have j:=(F8 q).1;have z:=(F8 q).2.lit;simp only at j z;generalize L:a.eval x=u at j;cases j with
  |ptr _ _ b s O=>
   have M:(eqGuard .eql t x y (Value.pointer (some ⟨b,off,none⟩)) (.pointer none)).run P w=.ok () w:=by
    unfold eqGuard;simp[pure,Sem.run_pure']
   simp only[execOp,J,L,z,FW,M,Fj,run_eql_pointer_nil w t _ I,Gi]
   rfl,.d _ _ (.lit _)⟩
def aAx {t t':Bj} {x y:Bg} (z:P.underlying t=some (.pointer (P.pointee t))) (I:o.op=.binOp .eql t x y t'):Bz P o [(x,.d (.lit (.pointer none))),(y,.d (.lit (.pointer none)))] es (.d (Dt true)) es:=
 .pure fun _ _ a w _ _ j=>⟨.bool true,by
  have q:=(F8 j).1.lit;have u:=(F8 j).2.lit;simp only at q u
  have J:(eqGuard .eql t x y (Value.pointer none) (.pointer none)).run P w=.ok () w:=by
   unfold eqGuard;simp[pure,Sem.run_pure']
  simp only[execOp,I,q,u,FW,J,Fj,run_eql_pointer_nil w t _ z,Gi]
  rfl,.d _ _ (.lit _)⟩
end
def aK9 :A8 ResultVar->AQ
 | []=>true
 | .tmp _::rs=>aK9 rs
 |_::_=>false
def aDI (σ:Ap):A8 ResultVar->A8 Aa
 | []=>[]
 | .tmp t::rs=>σ.slots.getD t .junk::aDI σ rs
 |_::rs=>.junk::aDI σ rs
def aMF {P:CS} {σ:Ap}:∀{rs:A8 ResultVar},aK9 rs=true->YA P σ rs (aDI σ rs)
 | [],_=>trivial
 | .tmp _::_,h=>⟨rfl,aMF h⟩
def FM {P:CS} {σ:Ap} {rs:A8 ResultVar} {j:Aa} {E':A8 BK} (π:A8 (Nat×AQ)) (ha:aK9 rs=true:=by kernel_rfl) (q:UG σ.base σ.ents π=true:=by kernel_rfl) (u:j=(je (aDI σ rs)).back π:=by kernel_rfl) (z:E'=SH σ.ents π:=by kernel_rfl):
 ∃xs π,YA P σ rs xs/\UG σ.base σ.ents π=true/\j=(je xs).back π/\E'=SH σ.ents π:=⟨_,π,aMF ha,q,u,z⟩
def Yb :Nat->Nat->A8 (Nat×Nat×Nat)
 |0,_=>[]
 |n+1,x=>(x % 2048,x/2048 % 64,x/131072 % 2048)::Yb n (x/268435456)
def aG7 :A8 (Nat×Nat×Nat)->A8 (A8 Nat)->Nat->A8 (A8 Nat)
 | [],N,_=>N
 |t::Tr,N,n=>bif Nat.beq t.2.2 n then aG7 Tr (N++[t.2.1::N.getD t.1 []]) (n+1)else aG7 Tr N n
def Ue (n x:Nat):A8 (A8 Nat):=aG7 (Yb n x) [[]] 1
section
variable {P:CS} [T:Kn P] {id:Nat} {ops:BQ Oper} {σ:Ap} {Q:Exit->Ap->Prop} {y:Code}
def BZ.am4 (L:A8 (Ls P)) (n x j:Nat) (q:BZ P y (MG T L ops σ ((Ue n x).getD j [])) Q) (hm:P.follows .mixedOrders=true:=by kernel_rfl) (u:nC ops (Ue n x) (Yb n x) [j]=true:=by kernel_rfl)
 (z:((Yb n x).map fun t=>X9 T L ops (MG T L ops σ ((Ue n x).getD t.1 [])) t.2.1)=(Yb n x).map fun t=>some (MG T L ops σ ((Ue n x).getD t.2.2 []),Xb L t.2.1):=by kernel_rfl) (I:(Ue n x).getD 0 [0]=[]:=by kernel_rfl):BZ P (.seq (.region id ops true) y) σ Q:=
 BZ.azX L _ _ j q hm u I z
def BZ.am5 (L:A8 (Ls P)) (n x:Nat) (F:A8 Nat) (j:Ap) (q:QX (fun k=>pz (MG T L ops σ ((Ue n x).getD k [])) j) F) (u:BZ P y j Q) (hm:P.follows .mixedOrders=true:=by kernel_rfl) (z:nC ops (Ue n x) (Yb n x) F=true:=by kernel_rfl)
 (I:((Yb n x).map fun t=>X9 T L ops (MG T L ops σ ((Ue n x).getD t.1 [])) t.2.1)=(Yb n x).map fun t=>some (MG T L ops σ ((Ue n x).getD t.2.2 []),Xb L t.2.1):=by kernel_rfl) (J:(Ue n x).getD 0 [0]=[]:=by kernel_rfl):BZ P (.seq (.region id ops true) y) σ Q:=
 BZ.azY L _ _ F j q u hm z J I
end
end
end Go.Proofs.YtfmoknlmaldmlaaGreat
section
namespace Go
open Go.Proofs.YtfmoknlmaldmlaaGreat
variable {P:CS}
def yX (w:BG) (U Y ty q:Bj) (b o u I:Nat) (a:Addr) (z J k n:Nat) (cs:A8 Ai)
 (Z:P.underlying U=some (.slice q)) (hs:(P.info? q).map (·.size)=some k) (hn:n=Nat.min z u) (hl:cs.length=n*k)
 (L:∀j v,cs[j]? =some v->w.cell? (a.add j)=some v) (hc:∀j,j<cs.length->(w.cell? ⟨b,o+j,none⟩).isSome=true) (hf:∀j,j<cs.length->w.frozen? ⟨b,o+j,none⟩=false) (h1:∀v∈cs,v.oneCell'=true):
 (Builtin.copy_ #[U,Y] ty #[.slice (some ⟨b,o,none⟩) u I,.slice (some a) z J]).run P w=.ok (goInt n) (w.setCells b o cs):=by
 have M:=aJi (P:=P) w a cs L;have hst:=run_storeCells_cells (P:=P) b o cs 0 w (by simpa using hc) (by simpa using hf) h1;rw[hl]at M;cases O:P.info? q with
 |none=>simp[O]at hs
 |some i=>
  have hi:i.size=k:=by simpa[O]using hs
  simp[Builtin.copy_,aBT Z,Builtin.lenOf,Builtin.firstCells,sizeOf,typeInfo,O,hi,←hn,M,hst]
end Go
namespace Go.Proofs.YtfmoknlmaldmlaaGreat
open Go.Proofs.Tryz
open Go.Shelf Go.RowKit Go.Lib
section
variable {K V:Type} [BEq K]
def aLN {α β:Type} (f:α->β):∀(l:A8 α) (j:Nat),(l.map f).eraseIdx j=(l.eraseIdx j).map f
 | [],_=>rfl
 |_::_,0=>rfl
 |x::l,j+1=>Bo (f x:: ·) (aLN f l j)
def KE :A8 (K×V)->K->A8 (K×V)
 | [],_=>[]
 |p::l,k=>bif k==p.1 then l else p::KE l k
def aLZ {ek:K->Ai} {kd:TypeDesc} (hs:∀a b,Instr.sameNow kd (ek a) (ek b)=some (a==b)) (k:K):∀(m:A8 (K×V)) (l:A8 MapEntry) (i:Nat),l.map (·.key)=m.map (fun p=>ek p.1)->
 (Instr.findNow kd (ek k) l i=some none/\KE m k=m)\/∃(j:Nat) (e:MapEntry),Instr.findNow kd (ek k) l i=some (some (i+j,e.val))/\j<l.length/\KE m k=m.eraseIdx j
 | [],[],_,_=>.inl ⟨rfl,rfl⟩
 | [],_::_,_,h=>IL
 |_::_,[],_,h=>IL
 |p::m,e::l,i,h=>by
  simp only[Gv,aAD]at h;cases q:(k==p.1)with
  |true=>
   refine .inr ⟨0,e,?_,BR,?_⟩
   ·simp[Instr.findNow,h.1,hs,q]
   simp[KE,q]
  |false=>
   rcases aLZ hs k m l (i+1) h.2 with⟨u,z⟩|⟨j,e',u,z,I⟩
   ·refine .inl ⟨?_,?_⟩
    ·simp[Instr.findNow,h.1,hs,q,u]
    simp[KE,q,z]
   refine .inr ⟨j+1,e',?_,KW,?_⟩
   ·simp[Instr.findNow,h.1,hs,q,u];omega
   simp[KE,q,I]
def Je.erase {ok:Nat->Prop} {w:BG} {es:A8 (Ai×D)} {ms:BQ MapEntry} {clock:Nat} (h:Je ok w es ms clock) {j:Nat} (z:j<ms.size):Je ok w (es.eraseIdx j) (ms.eraseIdxIfInBounds j) clock:=by
 have hE:ms.eraseIdxIfInBounds j=ms.eraseIdx j z:=by simp[Array.eraseIdxIfInBounds,z]
 have hl:=h.len
 have key:∀(i:Nat) (m:MapEntry),(ms.eraseIdx j z)[i]? =some m->∃q,(∀e,(es.eraseIdx j)[i]? =some e->es[q]? =some e)/\ms[q]? =some m/\q=(if i<j then i else i+1):=fun i m hm=>by
  rw[Array.getElem?_eraseIdx]at hm;refine⟨if i<j then i else i+1,fun e u=>?_,?_,rfl⟩
  ·rw[List.getElem?_eraseIdx]at u;split at u<;>rename_i c
   ·rw[D8 c];exact u
   rw[DU c];exact u
  split at hm<;>rename_i c
  ·rw[D8 c];exact hm
  rw[DU c];exact hm
 rw[hE];refine⟨by rw[Array.size_eraseIdx,List.length_eraseIdx];split<;>omega,fun i e m u hm=>?_,fun i k m n J hm L=>?_⟩
 ·obtain⟨q,M,I,_⟩:=key i m hm;exact h.ent q e m (M e u) I
 obtain⟨q,_,I,O⟩:=key i m hm;obtain⟨k',_,U,Y⟩:=key k n L;exact h.inc q k' m n (by rw[O,Y];split<;>split<;>omega) I U
def aej {P:CS} {o:Oper} {es:A8 BK} {t kt vt u:Bj} {x y:Bg} {k:Nat} {ek:K->Ai} (ev:V->D) {m:A8 (K×V)} {key:K} (ht:P.underlying t=some (.map kt vt)) (hk:KeyTy P kt ek) (L:es[k]? =some (.map (m.map (CM ek ev)))) (ho:o.op=.call { callee:=.builtin .delete,args:= #[x,y],argTypes:= #[t,u] }):
 Bz P o [(x,.mp k),(y,.d (.lit (ek key)))] es .junk (es.set k (.map ((KE m key).map (CM ek ev)))):=
 .eff fun C ok H a w hm hn=>by
  obtain⟨hd,M,O⟩:=GX hm.ent hm.hlen L;obtain⟨b,ms,clock,I,J,U⟩:=O;have Y:=SC (hn (x,.mp k) BR) M;have Z:=(hn (y,.d (.lit (ek key))) BR).lit;simp only at Y Z;obtain⟨kd,q,hs⟩:=hk.same;have hks:ms.toList.map (·.key)=m.map (fun p=>ek p.1):=by rw[U.keys];simp[CM,gu]
  have z:=hk.check;rcases aLZ (i:=0) hs key m ms.toList hks with⟨q1,q3⟩|⟨j,e,q1,q2,q3⟩
  ·obtain⟨r1,r2,r3⟩:=ru (P:=P) hm L M I J U;refine⟨.tuple #[],_,ok,H,.inl ?_,r3,.refl _,?_,.junk _⟩
   ·simp[execOp,ho,resolve,invoke,builtin,Builtin.delete_,Y,Z,I,underlying,ht,PS J,z,Instr.findKey,q,q1,r1]
   rw[q3];exact r2
  have hM:=U.erase (j:=j) dZ;obtain⟨r1,r2,r3⟩:=ru (P:=P) hm L M I J hM;refine⟨.tuple #[],_,ok,H,.inl ?_,r3,.refl _,?_,.junk _⟩
  ·simp[execOp,ho,resolve,invoke,builtin,Builtin.delete_,Y,Z,I,underlying,ht,PS J,z,Instr.findKey,q,q1,r1]
  rw[q3,←aLN];exact r2
end
set_option linter.unusedVariables false
set_option linter.unusedSimpArgs false
set_option maxHeartbeats 4000000 in
set_option maxRecDepth 100000 in
def alC (b n c i vb vc:Nat) (cs vs:A8 Ai) (w:BG) (hi:i<n) (hroom:n+1<=c) (hc63:c<=9223372036854775807) (hvb:vb≠b)
 (hcl:cs.length=n*29) (hvl:vs.length=29)
 (hcs:∀j v,cs[j]? =some v->w.cell? ⟨b,j,none⟩=some v) (hsp:∀j,j<(n+1)*29->(w.cell? ⟨b,j,none⟩).isSome=true) (hfz:∀j,j<(n+1)*29->w.frozen? ⟨b,j,none⟩=false)
 (hvs:∀j v,vs[j]? =some v->w.cell? ⟨vb,j,none⟩=some v) (h1c:∀v∈cs,v.oneCell'=true) (h1v:∀v∈vs,v.oneCell'=true)
 (tA tB:Bj) (kA kB:Nat) (hsa:w.shape? vb=some (tA,kA)) (hsb:w.shape? b=some (tB,kB)) (hkB:kB≠0) (hfa:w.frozen? ⟨vb,0,none⟩=false) (hfe:w.frozen? ⟨vb,kA,none⟩=false):
 Calls Ah 140 #[.slice (some ⟨b,0,none⟩) n c,.int .i64 i,.slice (some ⟨vb,0,none⟩) 1 vc] w fun e w'=>
  e=.returned (.slice (some ⟨b,0,none⟩) (n+1) c)/\w'=(w.drew.setCells b ((i+1)*29) (cs.drop (i*29))).setCells b (i*29) vs:=by
 have hz2:¬((i:Int)=(n:Int)):=AB
 have hw1:BA ((i:Int)+1)=(i:Int)+1:=Qz
 have hw2:BA ((n:Int)+1)=(n:Int)+1:=Qz
 have hb1:(0:Int)<=(i:Int)+1:=AB
 have hin:i<=n:=AB
 have htn:((i:Int)+1).toNat=i+1:=AB
 have aE3:((n:Int)+1).toNat=n+1:=AB
 have hb2:¬(c=i+1):=AB
 have hb3:(i:Int)<=(n:Int)+1:=AB
 have hb4:¬(c=i):=AB
 have hb5:¬((c:Int)<(n:Int)+1):=AB
 have z:(Ah.info? 38).map (·.size)=some 29:=AA
 have U:∀w,(Go.sizeOf 38).run Ah w=.ok 29 w:=fun w=>by
  cases Y:Ah.info? 38 with
  |none=>simp[Y]at z
  |some i=>
   have h0:i.size=29:=by simpa[Y]using z
   simp[sizeOf,typeInfo,Y,h0]
 have Z:∀lb cb,(callFunc 218 #[.slice (some ⟨vb,0,none⟩) 1 vc,.slice (some ⟨b,(i+1)*29,none⟩) lb cb]).run Ah w=.ok (.value (.bool false)) w:=fun lb cb=>by
  rw[run_callFunc_extern func218 AA AA AA (e:=Extern.SlicesOverlaps.overlaps #[22,22] #[4]) AA,
   Lib.run_overlaps_apart w 22 4 38 nE 29 U ⟨vb,0,none⟩ ⟨b,(i+1)*29,none⟩ 1 vc lb cb hvb tA tB kA kB hsa hsb hkB hfa hfe]
  rfl
 have I:(cs.drop (i*29)).length=(n-i)*29:=by rw[Ji,hcl,Nat.sub_mul]
 have J:∀ty Au sc,(Builtin.copy_ #[22,22] ty #[.slice (some ⟨b,(i+1)*29,none⟩) (n-i) Au,.slice (some ⟨b,i*29,none⟩) (n+1-i) sc]).run Ah w.drew=.ok (goInt (n-i:Nat)) (w.drew.setCells b ((i+1)*29) (cs.drop (i*29))):=fun ty Au sc=>
  yX w.drew _ _ ty 38 b ((i+1)*29) (n-i) Au ⟨b,i*29,none⟩ (n+1-i) sc 29 (n-i) (cs.drop (i*29)) nE z xM I
   (fun j v q=>by rw[gU];exact hcs (i*29+j) v (by rwa [Px]at q))
   (fun j q=>hsp _ aJ6) (fun j q=>hfz _ aJ6) (fun v hv=>h1c v (aAP hv))
 obtain⟨W1,u⟩:∃W1,W1=w.drew.setCells b ((i+1)*29) (cs.drop (i*29)):=⟨_,rfl⟩
 have L:∀k,k<(n+1)*29->(W1.cell? ⟨b,k,none⟩).isSome=true:=fun k hk=>by
  rw[u];exact isSome_setCells b (cs.drop (i*29)) ((i+1)*29) w.drew (fun j q=>hsp _ aJ6) _ (hsp k hk)
 have M:∀(W:BG),(∀x,W.cell? x=W1.cell? x)->(∀x,W.frozen? x=W1.frozen? x)->∀ty Au,(Builtin.copy_ #[22,22] ty #[.slice (some ⟨b,i*29,none⟩) (n+1-i) Au,.slice (some ⟨vb,0,none⟩) 1 vc]).run Ah W=.ok (goInt (1:Nat)) (W.setCells b (i*29) vs):=fun W O hWf ty Au=>
  yX W _ _ ty 38 b (i*29) (n+1-i) Au ⟨vb,0,none⟩ 1 vc 29 1 vs nE z xM (by rw[hvl])
   (fun j v q=>by
    rw[gU,O,u,World.cell?_setCells_out b _ _ _ _ (fun h _=>absurd h hvb),Jj]
    exact hvs j v q)
   (fun j q=>by rw[O];exact L _ AB) (fun j q=>by rw[hWf,u,World.frozen?_setCells];exact hfz _ AB) h1v
 rw[←u]at J;have mixed:Ah.follows .mixedOrders=true:=AA
 go_enter func140,Tryz.ntmps140
 go_wp2_with (simp only[Z])
 go_region_law_o (refine step_copy_runI rfl _ _ 22 22 rfl _ _ yU yU (J _ _ _) ?_)
 go_wp2_with (at_builtin;refine wpList_copy_runI _ rfl _ _ 22 22 rfl _ _ rfl rfl (M _ (fun _=>rfl) (fun _=>rfl) _ _) ?_)
 go_ret
 first|exact⟨rfl,rfl⟩|exact⟨rfl,by rw[u]⟩
set_option maxHeartbeats 4000000 in
set_option maxRecDepth 100000 in
def ajh (b n c i vb vc:Nat) (cs vs:A8 Ai) (w:BG) (hi:i<n) (hnc:n<=c) (hroom:c<n+1) (hbig:(n+1)*376<=140737488355328)
 (hcl:cs.length=n*29) (hvl:vs.length=29)
 (hcs:∀j v,cs[j]? =some v->w.cell? ⟨b,j,none⟩=some v) (hvs:∀j v,vs[j]? =some v->w.cell? ⟨vb,j,none⟩=some v) (h1c:∀v∈cs,v.oneCell'=true) (h1v:∀v∈vs,v.oneCell'=true):
 Calls Ah 140 #[.slice (some ⟨b,0,none⟩) n c,.int .i64 i,.slice (some ⟨vb,0,none⟩) 1 vc] w fun e w'=>∃G ROW,e=.returned (.slice (some ⟨w.heap.size,0,none⟩) (n+1) G)/\n+1<=G/\G<=maxLen/\G*29<=ROW.size/\ROW.toList.take (i*29)=cs.take (i*29)/\
  w'=(((w.alloc (.cells ROW 38)).drew.setCells w.heap.size (i*29) vs).drew).setCells w.heap.size ((i+1)*29) (cs.drop (i*29)):=by
 have hE:GU Ah 22 38 29 376:=KZ AA;obtain⟨i0,z0,hi0,hz0,hzs,hzb,hzc⟩:=hE.info;have hsz:(Ah.info? 38).map (·.size)=some 29:=by rw[hi0];simp[hzs]
 have mixed:Ah.follows .mixedOrders=true:=AA
 have hz2:¬((i:Int)=(n:Int)):=AB
 have hz3:(c:Int)<(n:Int)+1:=AB
 have hil:i*29<cs.length:=AB
 have hbw:b<w.heap.size:=block_lt_of_cell (hcs 0 _ (E9 AB));have hvw:vb<w.heap.size:=block_lt_of_cell (hvs 0 _ (E9 AB));have hkk:(n:Int)+1-(i:Int)=((n+1-i:Nat):Int):=AB
 have O:i+(n+1-i)=n+1:=AB
 have U:(cs.take (i*29)).length=i*29:=xu
 have L:(Builtin.firstCells i0.size i (.slice (some ⟨b,0,none⟩) i c)).run Ah w.drew=.ok (cs.take (i*29)).toArray w.drew:=by
  rw[hzs]
  exact run_firstCells_some w.drew 29 i ⟨b,0,none⟩ i c (cs.take (i*29)) (by rw[U]) (fun j v q=>by
   rw[gU,Jj];rw[qG]at q;split at q
   ·exact hcs j v q
   cases q)
 have J:∀ty,(Builtin.append_ #[22,3] ty #[.slice (some ⟨b,0,none⟩) i c,.int .i64 ((n:Int)+1-(i:Int))]).run Ah w=
  .ok (.slice (some ⟨w.heap.size,0,none⟩) (n+1) (grownCap w (n+1) c 38)) (w.drew.alloc (.cells ((cs.take (i*29)).toArray++Builtin.zeroCells z0.cells (n+1-i)++Builtin.zeroCells z0.cells (grownCap w (n+1) c 38-(n+1))) 38)):=fun ty=>by
  have h:=Lib.run_append_grow_zeros w 22 3 ty 38 i0 z0 .i64 .i64 hE.und AA hi0 hz0 (some ⟨b,0,none⟩) i c (cs.take (i*29)) L (n+1-i) AB AB AB AB (by rw[hzb];omega) (by rw[hzb,O];exact growslice_fits AB AB);rw[O]at h;rw[hkk];exact h
 have hGn:n+1<=grownCap w (n+1) c 38:=grownCap_ge w _ _ _;have Y:=aGs w (n+1) c 38 vX;obtain⟨G,hG⟩:∃G,G=grownCap w (n+1) c 38:=⟨_,rfl⟩
 obtain⟨ROW,u⟩:∃ROW:BQ Ai,ROW=(cs.take (i*29)).toArray++Builtin.zeroCells z0.cells (n+1-i)++Builtin.zeroCells z0.cells (G-(n+1)):=⟨_,rfl⟩
 rw[←hG]at J hGn Y;rw[←u]at J
 have hRl:ROW.size=G*29:=by
  rw[u];simp[Builtin.zeroCells,hzc];omega
 have hRt:ROW.toList.take (i*29)=cs.take (i*29):=by
  rw[u];simp[IX];rw[nG U]
 obtain⟨W1,z⟩:∃W1,W1=w.drew.alloc (.cells ROW 38):=⟨_,rfl⟩
 rw[←z]at J
 have hN:∀j,j<(n+1)*29->(W1.cell? ⟨w.heap.size,j,none⟩).isSome=true:=fun j q=>by
  rw[z,World.cell?_alloc_at (w:=w.drew) ROW _ w.heap.size j rfl,eA AB];rfl
 have hNf:∀j,W1.frozen? ⟨w.heap.size,j,none⟩=false:=fun j=>by rw[z];exact World.frozen?_alloc_at (w:=w.drew) ROW _ w.heap.size j rfl
 have hOb:∀j v,w.cell? ⟨b,j,none⟩=some v->W1.cell? ⟨b,j,none⟩=some v:=fun j v h=>by rw[z,World.cell?_alloc_past (w:=w.drew) _ b j hbw];exact h
 have hOv:∀j v,w.cell? ⟨vb,j,none⟩=some v->W1.cell? ⟨vb,j,none⟩=some v:=fun j v h=>by rw[z,World.cell?_alloc_past (w:=w.drew) _ vb j hvw];exact h
 have hcpA:∀(W:BG),(∀x,W.cell? x=W1.cell? x)->(∀x,W.frozen? x=W1.frozen? x)->∀ty Au,(Builtin.copy_ #[22,22] ty #[.slice (some ⟨w.heap.size,i*29,none⟩) (n+1-i) Au,.slice (some ⟨vb,0,none⟩) 1 vc]).run Ah W=.ok (goInt (1:Nat)) (W.setCells w.heap.size (i*29) vs):=fun W I Z ty Au=>
  yX W _ _ ty 38 w.heap.size (i*29) (n+1-i) Au ⟨vb,0,none⟩ 1 vc 29 1 vs hE.und hsz xM (by rw[hvl])
   (fun j v q=>by rw[gU,I,Jj];exact hOv _ v (hvs j v q))
   (fun j q=>by rw[I];exact hN _ AB) (fun j q=>by rw[Z];exact hNf _) h1v
 have hG63:G<=9223372036854775807:=by unfold maxLen at Y;omega
 have hGi:¬(G=i):=AB
 have hGim:¬(G=i+1):=AB
 have hci:¬(c=i):=AB
 have hbN:b≠w.heap.size:=AB
 have hdl:(cs.drop (i*29)).length=(n-i)*29:=by rw[Ji,hcl,Nat.sub_mul]
 have M:∀(W:BG),(∀x,W.cell? x=(W1.setCells w.heap.size (i*29) vs).cell? x)->(∀x,W.frozen? x=(W1.setCells w.heap.size (i*29) vs).frozen? x)->∀ty Au sc,(Builtin.copy_ #[22,22] ty #[.slice (some ⟨w.heap.size,(i+1)*29,none⟩) (n-i) Au,.slice (some ⟨b,i*29,none⟩) (n-i) sc]).run Ah W=.ok (goInt (n-i:Nat)) (W.setCells w.heap.size ((i+1)*29) (cs.drop (i*29))):=fun W I Z ty Au sc=>
  yX W _ _ ty 38 w.heap.size ((i+1)*29) (n-i) Au ⟨b,i*29,none⟩ (n-i) sc 29 (n-i) (cs.drop (i*29)) hE.und hsz xM hdl
   (fun j v q=>by
    rw[gU,I,World.cell?_setCells_out _ _ _ _ _ (fun h _=>absurd h hbN)]
    exact hOb _ v (hcs (i*29+j) v (by rwa [Px]at q)))
   (fun j q=>by rw[I];exact isSome_setCells _ vs (i*29) W1 (fun t ht=>hN _ AB) _ (hN _ (by rw[hdl]at q;omega)))
   (fun j q=>by rw[Z,World.frozen?_setCells];exact hNf _) (fun v hv=>h1c v (aAP hv))
 subst z;have hE1:∀x,((w.alloc (.cells ROW 38)).drew).cell? x=(w.drew.alloc (.cells ROW 38)).cell? x:=fun x=>rfl;have hE2:∀x,((w.alloc (.cells ROW 38)).drew).frozen? x=(w.drew.alloc (.cells ROW 38)).frozen? x:=fun x=>rfl;have hF1:∀x,(((w.alloc (.cells ROW 38)).drew.setCells w.heap.size (i*29) vs).drew).cell? x=((w.drew.alloc (.cells ROW 38)).setCells w.heap.size (i*29) vs).cell? x:=fun x=>rfl;have hF2:∀x,(((w.alloc (.cells ROW 38)).drew.setCells w.heap.size (i*29) vs).drew).frozen? x=((w.drew.alloc (.cells ROW 38)).setCells w.heap.size (i*29) vs).frozen? x:=fun x=>rfl;have hw1:BA ((i:Int)+1)=(i:Int)+1:=Qz
 have hw2:BA ((n:Int)+1)=(n:Int)+1:=Qz
 have hw3:BA ((n:Int)+1-(i:Int))=(n:Int)+1-(i:Int):=Qz
 have hb1:(0:Int)<=(i:Int)+1:=AB
 have hin:i<=n:=AB
 have htn:((i:Int)+1).toNat=i+1:=AB
 have hb3:(i:Int)<=(n:Int):=AB
 clear hkk O L u hG hil U
 go_enter func140,Tryz.ntmps140
 go_wp2_with (first
  |(at_builtin;refine aAG _ rfl _ _ _ _ rfl _ _ rfl rfl _ _ (J _) ?_)
  |(at_builtin;refine wpList_copy_runI _ rfl _ _ 22 22 rfl _ _ rfl rfl (hcpA _ hE1 hE2 _ _) ?_)
  |(at_builtin;refine wpList_copy_runI _ rfl _ _ 22 22 rfl _ _ rfl rfl (M _ (fun _=>rfl) (fun _=>rfl) _ _ _) ?_))
 go_region_law_o (refine step_copy_runI rfl _ _ 22 22 rfl (.slice (some ⟨w.heap.size,(i+1)*29,none⟩) (n-i) (G-(i+1))) (.slice (some ⟨b,i*29,none⟩) (n-i) (c-i)) yU yU (M _ hF1 hF2 3 (G-(i+1)) (c-i)) ?_)
 go_wp2
 go_ret
 exact⟨G,ROW,rfl,hGn,Y,Yy hRl.symm,hRt,rfl⟩
def putAt (j:BQ Ai):Nat->A8 Ai->BQ Ai
 |_,[]=>j
 |o,v::r=>putAt (j.setIfInBounds o v) (o+1) r
def Yz :∀(vs:A8 Ai) (o:Nat) (j:BQ Ai),(putAt j o vs).size=j.size
 | [],_,_=>rfl
 |v::r,o,j=>by rw[putAt,Yz r];simp
def tu :∀(vs:A8 Ai) (o:Nat) (q:BQ Ai),o+vs.length<=q.size->(putAt q o vs).toList=q.toList.take o++vs++q.toList.drop (o+vs.length)
 | [],o,q,_=>by simp[putAt]
 |v::r,o,q,h=>by
  simp only[GI]at h;rw[putAt,tu r (o+1) _ Et,aH7];refine dD fun j=>?_;simp only[IX,List.getElem?_append,IB,bG,TY,qG,List.getElem?_set,Px,GI,Yl,aQq]
  grind
def oG (b:Nat):∀(vs:A8 Ai) (o:Nat) (w:BG) (j:BQ Ai) (e:Bj) (fr:Nat×Nat),w.heap[b]? =some (.cells j e fr)->(w.setCells b o vs).heap[b]? =some (.cells (putAt j o vs) e fr)
 | [],_,_,_,_,_,h=>h
 |v::r,o,w,j,e,fr,h=>by
  rw[World.setCells,putAt];refine oG b r (o+1) _ _ e fr ?_;simp[World.setCell,Ou,h]
set_option maxHeartbeats 4000000 in
set_option maxRecDepth 100000 in
def ank {v:Ai} {n vb vc:Nat} {xs news:A8 Ai} {w:BG} (hown:lW w 38 29 v n xs) (hsrc:WW w (.slice (some ⟨vb,0,none⟩) 1 vc) 1 29 news) (hb:(n+1)*376<=140737488355328):
 Calls Ah 140 #[v,.int .i64 n,.slice (some ⟨vb,0,none⟩) 1 vc] w fun e w'=>∃v',e=.returned v'/\lW w' 38 29 v' (n+1) (xs++news)/\w.grownBy w' v.ownBlock/\∀g,DZ v'=some g->DZ v=some g\/w.heap.size<=g:=by
 have hE:GU Ah 22 38 29 376:=KZ AA;obtain⟨v',w',u,z,I,J⟩:=aHx (ty:=22) hE hown hsrc hb vX;have mixed:Ah.follows .mixedOrders=true:=AA
 rcases hown.2 with⟨rfl,M⟩|⟨g,cap,O,rfl,_,Z,U,j,Y,q⟩
 ·subst M
  go_enter func140,Tryz.ntmps140
  go_wp2_with (at_builtin;refine aAG _ rfl _ _ _ _ rfl _ _ rfl rfl _ _ u ?_)
  go_ret
  exact⟨v',rfl,z,I,J⟩
 have L:cap<=9223372036854775807:=by unfold maxLen at j;omega
 go_enter func140,Tryz.ntmps140
 go_wp2_with (at_builtin;refine aAG _ rfl _ _ _ _ rfl _ _ rfl rfl _ _ u ?_)
 all_goals (go_ret;exact⟨v',rfl,z,I,J⟩)
def vU (b:Nat):∀(vs:A8 Ai) (o:Nat) (w:BG),(w.setCells b o vs).os=w.os/\(w.setCells b o vs).tape=w.tape/\(w.setCells b o vs).output=w.output/\(w.setCells b o vs).heap.size=w.heap.size/\∀i,i≠b->(w.setCells b o vs).heap[i]? =w.heap[i]?
 | [],_,_=>⟨rfl,rfl,rfl,rfl,fun _ _=>rfl⟩
 |v::r,o,w=>by
  obtain⟨j,q,u,z,I⟩:=vU b r (o+1) (w.setCell ⟨b,o,none⟩ v);rw[World.setCells];refine⟨j,q,u,by rw[z];simp[World.setCell],fun i hi=>?_⟩;rw[I i hi];simp[World.setCell,Ou,Ne.symm hi]
def abX {j:BQ Ai} {xs vs:A8 Ai} {a N k:Nat} (u:j.toList.take N=xs) (hl:xs.length=N) (q:vs.length=k) (ha:a<=N) (hs:N+k<=j.size):
 (putAt (putAt j (a+k) (xs.drop a)) a vs).toList.take (N+k)=xs.take a++vs++xs.drop a:=by
 have hd:(xs.drop a).length=N-a:=by rw[Ji,hl]
 rw[tu vs a _ (by rw[Yz];omega),tu (xs.drop a) (a+k) j AB,q,hd]
 have z:(j.toList.take (a+k)++xs.drop a++j.toList.drop (a+k+(N-a))).take a=xs.take a:=by
  rw[IX,List.take_append_of_le_length Et,aH4,←u,aH4,aBi AB,aBi ha]
 have I:(j.toList.take (a+k)++xs.drop a++j.toList.drop (a+k+(N-a))).drop (a+k)=xs.drop a++j.toList.drop (a+k+(N-a)):=by
  rw[IX,List.drop_left' Et]
 rw[z,I,←IX,nG (by simp[hd,q,hl];omega)]
def acG {j:BQ Ai} {xs vs:A8 Ai} {a N k:Nat} (u:j.toList.take a=xs.take a) (hl:xs.length=N) (q:vs.length=k) (ha:a<=N) (hs:N+k<=j.size):
 (putAt (putAt j a vs) (a+k) (xs.drop a)).toList.take (N+k)=xs.take a++vs++xs.drop a:=by
 have hd:(xs.drop a).length=N-a:=by rw[Ji,hl]
 rw[tu (xs.drop a) (a+k) _ (by rw[Yz];omega),tu vs a j AB,q,hd,u];have z:(xs.take a++vs++j.toList.drop (a+k)).take (a+k)=xs.take a++vs:=nG (by simp[q,hl];omega);rw[z,nG (by simp[hd,q,hl];omega)]
def tK {w:BG} {g n:Nat} {q:BQ Ai} {xs:A8 Ai} {T:Bj} {fr:Nat×Nat} (u:w.heap[g]? =some (.cells q T fr)) (z:q.toList.take n=xs) (j:Nat) (v:Ai) (h:xs[j]? =some v):w.cell? ⟨g,j,none⟩=some v:=by
 unfold World.cell?;simp only[u];rw[←z,qG]at h;split at h
 ·simpa using h
 cases h
def anH {w:BG} {g:Nat} {q:BQ Ai} {T:Bj} {fr:Nat×Nat} (u:w.heap[g]? =some (.cells q T fr)) (j:Nat) (h:j<q.size):(w.cell? ⟨g,j,none⟩).isSome=true:=by
 unfold World.cell?;simp[u,h]
def aJK {w:BG} {g:Nat} {q:BQ Ai} {T:Bj} (u:w.heap[g]? =some (.cells q T (0,0))) (j:Nat):w.frozen? ⟨g,j,none⟩=false:=by
 unfold World.frozen?;simp[u]
def ai6 {v:Ai} {n vb vc i:Nat} {xs q:A8 Ai} {w:BG} (hi:i<=n) (J:lW w 38 29 v n xs) (h1:∀u∈xs,u.oneCell'=true) (hx:lW w 38 29 (.slice (some ⟨vb,0,none⟩) 1 vc) 1 q) (Z:∀u∈q,u.oneCell'=true) (hne:DZ v≠some vb) (hb:(n+1)*376<=140737488355328):
 Calls Ah 140 #[v,.int .i64 i,.slice (some ⟨vb,0,none⟩) 1 vc] w fun e w'=>∃v',e=.returned v'/\lW w' 38 29 v' (n+1) (xs.take (i*29)++q++xs.drop (i*29))/\Turns v w w'/\∀g,DZ v'=some g->DZ v=some g\/w.heap.size<=g:=by
 have L:=J.1;have M:q.length=29:=by have :=hx.1;omega
 rcases hx.2 with⟨e0,_⟩|⟨vb',aE4,aA3,e0,_,O,hvn,_,hvs,hvt⟩
 ·cases e0
 injection e0 with e1 _ e3
 injection e1 with e1
 injection e1 with e1
 subst e1 e3;rcases pK i n with hin|hin
 ·rcases J.2 with⟨_,h0⟩|⟨g,cap,Y,rfl,_,hg,hnc,hcm,hcs,I⟩
  ·omega
  have hgv:vb≠g:=fun e=>hne wZ;have hil:i*29<=n*29:=Js _ hi;rcases pK n cap with z|z
  ·have hfit:(n+1)*29<=Y.size:=EY (Js _ z) hcs;refine(alC g n cap i vb vc xs q w hin z (by unfold maxLen at hcm;omega) hgv L M (tK hg I) (fun j hj=>anH hg j AB) (fun j _=>aJK hg j) (tK O hvt) h1 Z 38 38 aA3.size Y.size (by simp[World.shape?,O]) (by simp[World.shape?,hg]) AB (aJK O 0) (aJK O _)).mono ?_;rintro e w' ⟨rfl,rfl⟩;have hh:=oG g q (i*29) _ _ _ _ (oG g (xs.drop (i*29)) ((i+1)*29) w.drew Y 38 (0,0) hg);obtain⟨a1,a2,a3,a4,a5⟩:=vU g (xs.drop (i*29)) ((i+1)*29) w.drew;obtain⟨b1,b2,b3,b4,b5⟩:=vU g q (i*29) (w.drew.setCells g ((i+1)*29) (xs.drop (i*29)));refine⟨_,rfl,⟨?_,.inr ⟨g,cap,_,rfl,Ec _,hh,z,hcm,by rw[Yz,Yz];exact hcs,?_⟩⟩,⟨b1.trans a1,b2.trans a2,b3.trans a3,by rw[b4,a4];exact EW _,fun c hc hcb=>?_⟩,fun g' hg'=>.inl hg'⟩
   ·simp[M,L];omega
   ·have :=abX (a:=i*29) (k:=29) I L M hil AB;rw[show(i+1)*29=i*29+29 by omega,show(n+1)*29=n*29+29 by omega];exact this
   have U:c≠g:=fun e=>hcb wZ;rw[b5 c U,a5 c U];rfl
  refine(ajh g n cap i vb vc xs q w hin hnc AB hb L M (tK hg I) (tK O hvt) h1 Z).mono ?_;rintro e w' ⟨G,ROW,rfl,hGn,hGm,hGs,hRt,rfl⟩
  have hal:((w.alloc (.cells ROW 38)).drew).heap[w.heap.size]? =some (.cells ROW 38 (0,0)):=by
   show(w.heap.push (.cells ROW 38 (0,0)))[w.heap.size]? =_;simp
  have hh:=oG w.heap.size (xs.drop (i*29)) ((i+1)*29) _ _ _ _ (show(((w.alloc (.cells ROW 38)).drew.setCells w.heap.size (i*29) q).drew).heap[w.heap.size]? =_ from oG w.heap.size q (i*29) _ ROW 38 (0,0) hal);obtain⟨a1,a2,a3,a4,a5⟩:=vU w.heap.size q (i*29) (w.alloc (.cells ROW 38)).drew;obtain⟨b1,b2,b3,b4,b5⟩:=vU w.heap.size (xs.drop (i*29)) ((i+1)*29) ((w.alloc (.cells ROW 38)).drew.setCells w.heap.size (i*29) q).drew;refine⟨_,rfl,⟨?_,.inr ⟨w.heap.size,G,_,rfl,Ec _,hh,hGn,hGm,by rw[Yz,Yz];exact hGs,?_⟩⟩,⟨b1.trans a1,b2.trans a2,b3.trans a3,?_,fun c hc hcb=>?_⟩,fun g' hg'=>.inr (by simp[DZ]at hg';omega)⟩
  ·simp[M,L];omega
  ·have :=acG (a:=i*29) (k:=29) hRt L M hil (by have :=Js 29 hGn;omega);rw[show(i+1)*29=i*29+29 by omega,show(n+1)*29=n*29+29 by omega];exact this
  ·rw[b4];show w.heap.size<=((w.alloc (.cells ROW 38)).drew.setCells w.heap.size (i*29) q).heap.size;rw[a4];show w.heap.size<=(w.heap.push (.cells ROW 38 (0,0))).size;simp
  have U:c≠w.heap.size:=AB
  rw[b5 c U];show((w.alloc (.cells ROW 38)).drew.setCells w.heap.size (i*29) q).heap[c]? =_;rw[a5 c U];show(w.heap.push (.cells ROW 38 (0,0)))[c]? =_;simp[aKY,U]
 have hni:i=n:=AB
 subst hni;refine(ank J ⟨AB,Z,.inl ⟨_,_,rfl,fun j u hj=>by rw[gU,Jj];exact tK O hvt j u hj⟩⟩ hb).mono ?_;rintro e w' ⟨v',rfl,h2,h3,h4⟩;refine⟨v',rfl,?_,⟨h3.os,h3.tape,h3.output,h3.size,fun k hk hne'=>h3.block k hk ?_⟩,h4⟩
 ·rw[Qs AB,aA5 AB,UW];exact h2
 rcases J.2 with⟨rfl,_⟩|⟨g,cap,Y,rfl,_⟩
 ·simp[Value.ownBlock]
 intro e;exact hne' e.symm
def alp {j:BQ Ai} (hs:j.size=3):j= #[j.getD 0 undef,j.getD 1 undef,j.getD 2 undef]:=by
 refine ZP (by simp[hs]) fun i u q=>?_;simp at q;have :i=0\/i=1\/i=2:=AB
 rcases this with rfl|rfl|rfl<;>simp[Array.getD,hs]
def akj {ok:Nat->Prop} {w:BG} {H:A8 Bv} {xs:A8 Aa} {vs:A8 Ai} (h:G9 ok w H xs vs) (n:Nat):G9 ok w H (xs.take n) (vs.take n):=by
 refine⟨by rw[IB,IB,h.1],fun i hi=>?_⟩;rw[IB]at hi;have :=h.2 i AB;rw[nR,nR]at this ⊢;rw[NZ AB,NZ AB];exact this
def abj {ok:Nat->Prop} {w:BG} {H:A8 Bv} {xs:A8 Aa} {vs:A8 Ai} (h:G9 ok w H xs vs) (n:Nat):G9 ok w H (xs.drop n) (vs.drop n):=by
 refine⟨by rw[Ji,Ji,h.1],fun i hi=>?_⟩;rw[Ji]at hi;have :=h.2 (n+i) AB;rw[nR,nR]at this ⊢;rw[Px,Px];exact this
def aSM {ok:Nat->Prop} {w:BG} {H:A8 Bv} {xs:A8 Aa} {vs:A8 Ai} (h:G9 ok w H xs vs):∀u∈vs,u.oneCell'=true:=fun u q=>by
 obtain⟨i,hi,rfl⟩:=Gf q;have j:=h.2 i (by rw[←h.1];exact hi);have :=j.2.leaf j.1
 rwa [nR,E9 hi]at this
def aQK {size:Nat}:∀{es:A8 D} (i:Nat),(∀x∈es,x.cells.length=size)->flat (es.take i)=(flat es).take (i*size)
 | [],i,_=>TA
 |x::l,0,_=>TA
 |x::l,i+1,h=>by
  have j:(x.cells.map Aa.d).length=size:=by rw[Cm];exact h x (Fz ..)
  rw[List.take_succ_cons,Vt,Vt,aQK i fun y q=>h y (Gp _ q),Xx,aC0,Ug,←j,List.take_length_add_append]
def aOR {size:Nat}:∀{es:A8 D} (i:Nat),(∀x∈es,x.cells.length=size)->flat (es.drop i)=(flat es).drop (i*size)
 | [],i,_=>TA
 |x::l,0,_=>TA
 |x::l,i+1,h=>by
  have j:(x.cells.map Aa.d).length=size:=by rw[Cm];exact h x (Fz ..)
  rw[List.drop_succ_cons,Vt,aOR i fun y q=>h y (Gp _ q),Xx,aC0,Ug,←j,List.drop_length_add_append]
def DL.kill {C:Ee} {ok:Nat->Prop} {H:A8 Bv} {es:A8 BK} {w:BG} (hm:DL C ok H es w) (k:Nat):DL C ok H (es.set k .dead) w:=
 (hm.change (ok':=ok) (H':=H) (w':=w) (es':=es.set k .dead) (fun _=>False) rfl rfl rfl (EW _) (fun _ _ _=>rfl) (fun _ h=>h.elim) (fun _ h=>h) (fun _ h=>.inl h) (.refl _) (by simpa using hm.hlen) (by
  intro j e' h' q u;by_cases z:k=j
  ·subst z;rw[List.getElem?_set]at q;simp only[Lp]at q;split at q
   ·cases q;exact .inr ⟨trivial,fun h=>Gz⟩
   cases q
  rw[Xu z]at q
  exact .inl ⟨q,u,fun _ _ _ h=>h⟩)).1
def xH {α:Type} (l:A8 α) (i:Int) (m:A8 α):AL (A8 α):=match m with
 | [x]=>if(0<=i/\i<=(l.length:Int))/\l.length<=34359738368 then some (l.take i.toNat++x::l.drop i.toNat)else none
 |_=>none
def aoF {α:Type} {e:α->D} (hk:∀x,(e x).cells.length=29) (l:A8 α) (q:Int) (m r:A8 α) (h:xH l q m=some r):
 BL 140 [.aS 0,.d (Ae q),.aS 1] [.arr 38 29 (l.map e),.arr 38 29 (m.map e)] (.aS 2) [.dead,.dead,.arr 38 29 (r.map e)]:=by
 unfold xH at h;split at h
 case h_2=>cases h
 rename_i x;split at h
 case isFalse=>cases h
 rename_i hc;obtain⟨⟨hq0,hql⟩,hb⟩:=hc;obtain rfl:=Ch h;obtain⟨i,rfl⟩:∃i:Nat,q=i:=⟨q.toNat,AB⟩
 have hi:i<=l.length:=AB
 rw[fJ];intro ok X H w L hm hs ha;have h0:=ha 0 BR;have hq:=ha 1 BR;have h2:=ha 2 BR;rw[alp hs];obtain⟨hd,hh,hok⟩:=GX hm.ent hm.hlen (k:=0) rfl;obtain⟨M,O,U⟩:=GX hm.ent hm.hlen (k:=1) rfl;obtain hv:=Pe h0 hh;obtain hv1:=Pe h2 O
 have hq':L.getD 1 undef=.int .i64 i:=by
  simp only[List.getD,qx,oJ,Nb]at hq;cases hq with |d _ _ hq=>exact Dq.Wv hq
 rw[hv,hv1,hq'];obtain⟨hz,Y,xs,Z,J⟩:=hok;obtain⟨hz1,aE5,news,u,I⟩:=U;rw[Cm]at Z
 obtain⟨g1,c1,hg1⟩:∃g1 c1,M.v=.slice (some ⟨g1,0,none⟩) 1 c1:=by
  rcases u.2 with⟨_,h⟩|⟨g,cap,cur,h,_⟩
  ·cases h
  exact⟨g,cap,h⟩
 have hne:DZ hd.v≠some g1:=fun hb=>by
  have :=hm.Gg 0 1 _ _ hd M g1 rfl rfl rfl rfl hh O hb (by rw[hg1];rfl);cases this
 rw[hg1]at u ⊢;refine(ai6 hi Z (aSM J) u (aSM I) hne AB).mono ?_;rintro y w' ⟨v',rfl,j,ht,hblk⟩;have hlen:l.length+1=((l.take i++x::l.drop i).map e).length:=Et
 rw[hlen]at j
 have hfl:flat ((l.take i++x::l.drop i).map e)=(flat (l.map e)).take (i*29)++flat ([x].map e)++(flat (l.map e)).drop (i*29):=by
  rw[←aQK i Y,←aOR i Y,←jv,←jv,LY,Gv,XZ,aA,IX];rfl
 have hg:=hm.turn (e:=.arr 38 29 ((l.take i++x::l.drop i).map e)) (h':=⟨v',29⟩) (w':=w') (k:=0) rfl rfl hh ht.os ht.tape ht.output ht.size ht.block (fun g hg=>⟨tV j hg,hblk g hg⟩) (fun hgr=>⟨rfl,fun y hy=>by
  obtain⟨z,_,rfl⟩:=Ea.1 hy
  exact hk z,_,j,by rw[hfl];exact(aCU (aCU (akj J _) I) (abj J _)).mono hgr (.push _ _)⟩)
 refine⟨v',ok,H++[⟨v',29⟩],rfl,hg.1.kill 1,?_⟩;have hl:H.length=2:=hm.hlen;have hr:(H++[(⟨v',29⟩:Bv)])[2]? =some ⟨v',29⟩:=by rw[←hl];simp
 rcases j.2 with⟨rfl,_⟩|⟨g,cap,cur,rfl,_⟩
 ·exact .aS 2 _ _ _ 29 hr
 exact .aS 2 _ _ _ 29 hr
end Go.Proofs.YtfmoknlmaldmlaaGreat
end
namespace Go.Proofs.YtfmoknlmaldmlaaGreat
open Go.RowKit Go.Proofs.Tryz
section
def aEj {α:Type} (j:Nat) (n:Int):AL (A8 α):=if 0<=n/\n*j<=140737488355328 then some []else none
def aiF (w:BG) (n:Nat) (hb:n*376<=140737488355328):
 Calls Ah 230 #[.slice none 0 0,.int .i64 n] w fun e w'=>(e=.returned (.slice none 0 0)/\w'=w)\/∃G ROW,e=.returned (.slice (some ⟨w.heap.size,0,none⟩) 0 G)/\G<=maxLen/\ROW.size=G*29/\w'=w.drew.alloc (.cells ROW 38):=by
 have hE:GU Ah 22 38 29 376:=KZ AA;obtain⟨Z,z0,I,J,hzs,L,M⟩:=hE.info;have mixed:Ah.follows .mixedOrders=true:=AA
 rcases V4 n with O|O
 ·subst O;refine Calls.mono ?_ (fun e w' h=>Or.inl h)
  go_enter func230,Tryz.ntmps230
  go_wp2
  go_ret
  exact⟨rfl,rfl⟩
 refine Calls.mono ?_ (fun e w' h=>Or.inr h);have U:n<=grownCap w n 0 38:=grownCap_ge w _ _ _;have u:=aGs w n 0 38 vX
 have q:∀ty,(Builtin.append_ #[22,3] ty #[.slice none 0 0,.int .i64 (n:Int)]).run Ah w=.ok (.slice (some ⟨w.heap.size,0,none⟩) n (grownCap w n 0 38)) (w.drew.alloc (.cells (Builtin.zeroCells z0.cells n++Builtin.zeroCells z0.cells (grownCap w n 0 38-n)) 38)):=fun ty=>
  Lib.run_append_nil_zeros w 22 3 ty 38 Z z0 .i64 .i64 hE.und AA I J n O AB AB (by rw[L];omega)
 obtain⟨G,Y⟩:∃G,G=grownCap w n 0 38:=⟨_,rfl⟩
 obtain⟨ROW,j⟩:∃ROW:BQ Ai,ROW=Builtin.zeroCells z0.cells n++Builtin.zeroCells z0.cells (G-n):=⟨_,rfl⟩
 rw[←Y]at q U u;rw[←j]at q
 have z:ROW.size=G*29:=by
  rw[j];simp[Builtin.zeroCells,M];omega
 have hp1:¬((n:Int)<0):=AB
 have hp2:(n:Int)>0:=AB
 have hw1:BA ((n:Int)-0)=(n:Int):=Qz
 have hw2:BA (n:Int)=(n:Int):=Qz
 have hc0:(0:Int)<=(G:Int):=AB
 clear Y j
 go_enter func230,Tryz.ntmps230
 go_wp2_with (first
  |(at_builtin;refine aAG _ rfl _ _ _ _ rfl _ _ rfl rfl _ _ (q _) ?_))
 go_ret
 exact⟨G,rfl,u,ROW,by first|exact z|simpa using z,rfl⟩
def aat {α:Type} (e:α->D) (q:Int) (r:A8 α) (h:aEj 376 q=some r):BL 230 [.d (.lit (.slice none 0 0)),.d (Ae q)] [] (.aS 0) [.arr 38 29 (r.map e)]:=by
 unfold aEj at h;split at h
 case isFalse=>cases h
 rename_i hc;obtain rfl:=Ch h;obtain⟨n,rfl⟩:∃n:Nat,q=n:=⟨q.toNat,AB⟩
 intro ok X H w j hm hs ha;have I:=ha 0 BR;have J:=ha 1 BR
 have L:j.getD 0 undef=.slice none 0 0:=by
  simp only[List.getD,oJ,Nb]at I;cases I with |d _ _ u=>exact Dq.Wv u
 have M:j.getD 1 undef=.int .i64 n:=by
  simp only[List.getD,qx,oJ,Nb]at J;cases J with |d _ _ u=>exact Dq.Wv u
 have O:j= #[.slice none 0 0,.int .i64 n]:=by
  rw[←L,←M];exact aNp hs
 rw[O];have U:H.length=0:=hm.hlen;obtain rfl:H=[]:=Gy U;refine(aiF w n AB).mono ?_;rintro y w' (⟨rfl,rfl⟩|⟨G,ROW,rfl,hG,hR,rfl⟩)
 ·obtain⟨z,h3⟩:=xX hm 38 29;exact⟨_,ok,[]++[⟨.slice none 0 0,29⟩],rfl,z,.aS 0 none 0 0 29 rfl⟩
 obtain⟨Y,d2⟩:=hm.drew
 have z:=Y.push (.cells ROW 38) ⟨.slice (some ⟨w.heap.size,0,none⟩) 0 G,29⟩ (.arr 38 29 []) (fun b Z=>by
  have :w.heap.size=b:=Ch Z
  exact this.symm) ⟨rfl,fun x hx=>absurd hx Ez,[],⟨rfl,.inr ⟨w.heap.size,G,ROW,rfl,Ec _,Vp w.drew _,Ec _,hG,Yy hR.symm,rfl⟩⟩,rfl,fun i hi=>absurd hi (V8 _)⟩
 exact⟨_,ok,[]++[⟨.slice (some ⟨w.heap.size,0,none⟩) 0 G,29⟩],rfl,z.1,.aS 0 _ 0 _ 29 rfl⟩
section
variable {P:CS} {o:Oper} {es:A8 BK}
def N7 {f:FuncId} {ops:BQ Bg} {ats:BQ Bj} (dM:A8 Aa) {fC:A8 Aa} {j res':Aa} {E':A8 BK} (q:Ei P f fC [] j E') (u:o.op=.call { callee:=.value (.func f),args:=ops,argTypes:=ats }) (z:H6 P f=true:=by kernel_rfl) (I:E'.all BK.closed=true:=by kernel_rfl)
 (ha:MH [] dM fC:=by repeat (first|exact trivial|refine⟨.inl rfl,?_⟩|refine⟨.inr (.inr ⟨rfl,rfl⟩),?_⟩)) (hl:ops.toList.length=dM.length:=by kernel_rfl) (J:j.up [] es.length=res':=by kernel_rfl):Bz P o (FX ops.toList dM) es res' (es++E'):=aEv q z I ha hl J u
def aHt {f:FuncId} {ops:BQ Bg} {ats:BQ Bj} (dM:A8 Aa) {fC:A8 Aa} {j res':Aa} (q:Ei P f fC [] j []) (u:o.op=.call { callee:=.value (.func f),args:=ops,argTypes:=ats }) (z:H6 P f=true:=by kernel_rfl)
 (ha:MH [] dM fC:=by repeat (first|exact trivial|refine⟨.inl rfl,?_⟩|refine⟨.inr (.inr ⟨rfl,rfl⟩),?_⟩)) (hl:ops.toList.length=dM.length:=by kernel_rfl) (I:j.up [] es.length=res':=by kernel_rfl):Bz P o (FX ops.toList dM) es res' es:=aND q z ha hl I u
def Eh {f:FuncId} {ops:BQ Bg} {ats:BQ Bj} (srcs:A8 Dx) (dM:A8 Aa) {fC:A8 Aa} {E E':A8 BK} {j res':Aa} (q:Ei P f fC E j E') (u:o.op=.call { callee:=.value (.func f),args:=ops,argTypes:=ats }) (z:H6 P f=true:=by kernel_rfl) (I:RY srcs es E E'=true:=by kernel_rfl)
 (hE:Tj srcs es srcs E:=by first|exact trivial|exact Le AA trivial) (ha:MH srcs dM fC:=by repeat (first|exact trivial|refine⟨.inl rfl,?_⟩|refine⟨⟨0,rfl,rfl⟩,?_⟩|refine⟨⟨1,rfl,rfl⟩,?_⟩|refine⟨⟨2,rfl,rfl⟩,?_⟩|refine⟨.inr (.inr ⟨rfl,rfl⟩),?_⟩)) (hl:ops.toList.length=dM.length:=by kernel_rfl)
 (J:res'=j.up srcs es.length:=by kernel_rfl):Bz P o (FX ops.toList dM) es res' (Lj srcs es E'):=aLC srcs q z I hE ha hl J u
def ZY {f:FuncId} {x:Bg} {ops:BQ Bg} {ats:BQ Bj} (srcs:A8 Dx) (fi ca dM:A8 Aa) {fC:A8 Aa} {E E':A8 BK} {j res':Aa} (q:Ei P f fC E j E') (u:o.op=.call { callee:=.value x,args:=ops,argTypes:=ats }) (z:H6 P f=true:=by kernel_rfl) (I:RY srcs es E E'=true:=by kernel_rfl)
 (hE:Tj srcs es srcs E:=by first|exact trivial|exact Le AA trivial) (ha:MH srcs (fi++dM++ca) fC:=by repeat (first|exact trivial|refine⟨.inl rfl,?_⟩|refine⟨⟨0,rfl,rfl⟩,?_⟩|refine⟨⟨1,rfl,rfl⟩,?_⟩|refine⟨⟨2,rfl,rfl⟩,?_⟩|refine⟨.inr (.inr ⟨rfl,rfl⟩),?_⟩)) (hl:ops.toList.length=dM.length:=by kernel_rfl)
 (J:res'=j.up srcs es.length:=by kernel_rfl):Bz P o ((x,.fn (.func f) fi ca)::FX ops.toList dM) es res' (Lj srcs es E'):=abP srcs fi ca q z I hE ha hl J u
def aO5 {f:FuncId} {x:Bg} {ops:BQ Bg} {ats:BQ Bj} (srcs:A8 Dx) (fi ca:A8 D) (dM:A8 Aa) {fC:A8 Aa} {E E':A8 BK} {j res':Aa} (q:Ei P f fC E j E') (u:o.op=.call { callee:=.value x,args:=ops,argTypes:=ats }) (z:H6 P f=true:=by kernel_rfl) (I:RY srcs es E E'=true:=by kernel_rfl)
 (hE:Tj srcs es srcs E:=by first|exact trivial|exact Le AA trivial) (ha:MH srcs (fi.map .d++dM++ca.map .d) fC:=by repeat (first|exact trivial|refine⟨.inl rfl,?_⟩|refine⟨⟨0,rfl,rfl⟩,?_⟩|refine⟨⟨1,rfl,rfl⟩,?_⟩|refine⟨⟨2,rfl,rfl⟩,?_⟩|refine⟨.inr (.inr ⟨rfl,rfl⟩),?_⟩)) (hl:ops.toList.length=dM.length:=by kernel_rfl)
 (J:res'=j.up srcs es.length:=by kernel_rfl):Bz P o ((x,.d (.fn (.func f) fi ca))::FX ops.toList dM) es res' (Lj srcs es E'):=ajX srcs fi ca q z I hE ha hl J u
end
section
variable {P:CS} {ops:BQ Oper} {o:Oper} {rest l:A8 Oper} {σ:Ap} {K:Exit->Ap->Prop}
def DK.ca {f:FuncId} {dM:A8 Aa} {j:Aa} (q:Ei P f dM [] j []) (k:DK P ops rest (σ.qU o.dst (j.up [] σ.ents.length)) K) (u:H6 P f=true:=by kernel_rfl) (z:St σ o=some (f,dM):=by kernel_rfl)
 (hd:dM.all Aa.zN=true:=by kernel_rfl) (I:J4 ops σ o.guard=some true:=by kernel_rfl):DK P ops (o::rest) σ K:=.call q u k z hd I
def FH.ca {σ':Ap} {f:FuncId} {dM:A8 Aa} {j:Aa} {rs:A8 Aa} {ess:A8 (A8 BK)} {bs:A8 AQ} (q:Ei P f dM [] j []) (k:FH P ops rest (σ.qU o.dst (j.up [] σ.ents.length)) rs ess bs σ') (u:H6 P f=true:=by kernel_rfl) (z:St σ o=some (f,dM):=by kernel_rfl)
 (hd:dM.all Aa.zN=true:=by kernel_rfl) (I:J4 ops σ o.guard=some true:=by kernel_rfl):FH P ops (o::rest) σ (j.up [] σ.ents.length::rs) (σ.ents::ess) (false::bs) σ':=.call q u k z hd I
end
section
variable {P:CS} {ops:BQ Oper} {o:Oper} {rest l:A8 Oper} {σ:Ap} {K:Exit->Ap->Prop}
def DK.aW [T:Kn P] {M:Ap->Prop} (k:M (OV (GN T ops l.length l σ))) (h:(GN T ops l.length l σ).isSome=true:=by kernel_rfl):DK P ops l σ (Jg M K):=.aM l.length k rfl h
def DK.Z [T:Kn P] {M:Ap->Prop} {ns:A8 (Bg×Aa)} {x:Aa} (h:Bz P o ns σ.ents x σ.ents) (k:M (OV (GN T ops rest.length rest (σ.qU o.dst x)))) (j:(ns.map fun n=>σ.get n.1)=ns.map (·.2):=by kernel_rfl) (q:J4 ops σ o.guard=some true:=by kernel_rfl) (u:(Lm ns).all (tmpsOf o).contains=true:=by kernel_rfl) (hh:(GN T ops rest.length rest (σ.qU o.dst x)).isSome=true:=by kernel_rfl):DK P ops (o::rest) σ (Jg M K):=DK.p h (DK.aW k hh) j q u
def DK.Y [T:Kn P] {M:Ap->Prop} {ns:A8 (Bg×Aa)} {x:Aa} {es':A8 BK} (h:Bz P o ns σ.ents x es') (k:M (OV (GN T ops rest.length rest (σ.put o.dst x es')))) (j:(ns.map fun n=>σ.get n.1)=ns.map (·.2):=by kernel_rfl) (q:J4 ops σ o.guard=some true:=by kernel_rfl) (u:(Lm ns).all (tmpsOf o).contains=true:=by kernel_rfl) (hh:(GN T ops rest.length rest (σ.put o.dst x es')).isSome=true:=by kernel_rfl):DK P ops (o::rest) σ (Jg M K):=DK.f h (DK.aW k hh) j q u
def DK.X [T:Kn P] {M:Ap->Prop} {f:FuncId} {dM:A8 Aa} {j:Aa} (q:Ei P f dM [] j []) (k:M (OV (GN T ops rest.length rest (σ.qU o.dst (j.up [] σ.ents.length))))) (u:H6 P f=true:=by kernel_rfl) (z:St σ o=some (f,dM):=by kernel_rfl) (hd:dM.all Aa.zN=true:=by kernel_rfl) (I:J4 ops σ o.guard=some true:=by kernel_rfl) (hh:(GN T ops rest.length rest (σ.qU o.dst (j.up [] σ.ents.length))).isSome=true:=by kernel_rfl):DK P ops (o::rest) σ (Jg M K):=DK.ca q (DK.aW k hh) u z hd I
def DK.bi [T:Kn P] {A:Type} {b:AQ} {u v z:A} (h:(bif b then u else v)=z) (j:u=z->DK P ops rest (σ.qU o.dst (.d (.lit (.bool true)))) K:=by exact fun h=>.aW<|EO) (k2:v=z->DK P ops rest (σ.qU o.dst (.d (.lit (.bool false)))) K:=by exact fun h=>.aW<|EO)
 (hs:(WT T ops σ o).map (fun r=>(r.x,r.E,r.bar))=some (.d (.lit (.bool b)),σ.ents,false):=by kernel_rfl):DK P ops (o::rest) σ K:=He h (fun e h=>.c (Bo some e) (j h) hs) fun e h=>.c (Bo some e) (k2 h) hs
def Dz {A:Type} {b:AQ} {u v z:A} {G:Prop} (h:(bif b then u else v)=z) (j:b=true->u=z->G:=by exact fun e i=>aaL) (k2:b=false->v=z->G:=by exact fun e i=>aaL):G:=He h j k2
def AY [T:Kn P] {id:Nat} {y:Code} {Q:Exit->Ap->Prop} (k:BZ P y (OV (GN T ops ops.toList.length ops.toList σ)) Q) (h:(GN T ops ops.toList.length ops.toList σ).isSome=true:=by kernel_rfl):BZ P (.seq (.region id ops false) y) σ Q:=Ba (.aW k h)
end
section
variable {P:CS} {ops:BQ Oper} {l:A8 Oper} {σ:Ap} {K:Exit->Ap->Prop}
def DK.mg (a c:Nat) (x:Aa) (j:DK P ops (l.take (c+1)) σ (Jg (fun s=>s.wipe (List.range' a c)=(σ.wipe (List.range' a c)).qU (some (a+c)) x) K)) (q:DK P ops (l.drop (c+1)) ((σ.wipe (List.range' a c)).qU (some (a+c)) x) K):DK P ops l σ K:=.merge (c+1) (List.range' a c) (a+c) x j q
end
def Ag {σ S:Ap} (n w:Nat) (π:A8 (Nat×AQ)) (j:UG σ.base σ.ents π=true:=by kernel_rfl) (q:S=⟨Kz π (mk n w) σ.slots,SH σ.ents π,σ.base⟩:=by kernel_rfl):Cj σ S:=ah6 (mk n w) π j q
def Ny {α β:Type} {y:α} {g:α->AL (Except Ai β)} {r:Except Ai β} (h:Kv (.ok y) g=some r):g y=some r:=h
def OH {α β:Type} {u:Ai} {g:α->AL (Except Ai β)} {r:Except Ai β} (h:Kv (.error u) g=some r):some (.error u)=some r:=h
def Cb :BI:=⟨#[]⟩
def kP (k:IntKind) (n:Int):D:=.lit (.int k n)
def aSF :BI:=⟨#[33,114,58,97]⟩
def fF :BI:=⟨#[58]⟩
def oU :BI:=⟨#[33]⟩
def xA :BI:=⟨#[64]⟩
def tY :BI:=⟨#[64,33]⟩
def KD :BI:=⟨#[84,101,120,116]⟩
def Kr :BI:=⟨#[78]⟩
def MN :BI:=⟨#[86,105,97]⟩
def MR :BI:=⟨#[76,101,118,101,108,115]⟩
def Ln :BI:=⟨#[65,108,108,111,119]⟩
def Me :BI:=⟨#[68,101,110,121]⟩
def Jk :BI:=⟨#[84,97,114,103,101,116]⟩
def MB :BI:=⟨#[84,104,114,101,97,100]⟩
def EN :Ai:=.int .i64 0
def Du :Ai:=.string Cb
def H8 :Ai:=.slice none 0 0
def aBO :Ai:=.agg #[H8,H8,EN,EN,EN,EN,EN,EN,EN]
def aAq :Ai:=.agg #[Du,EN,EN,.bool false,Du,H8,H8,H8,H8,EN,EN,EN,EN,EN,EN,EN]
def aBN :Ai:=.agg #[Du,EN]
def aDl :Ai:=.agg #[EN,Du,Du,EN,.bool false,Du,EN,EN,H8,H8,Du,EN,EN,.bool false,Du,H8,H8,H8,H8,EN,EN,EN,EN,EN,EN,EN,EN,Du,EN]
def aB2 :Ai:=.agg #[Du,H8,H8,H8,H8,H8,EN,H8,H8]
def aDy :Ai:=.agg #[EN,EN,EN,.bool false]
def aAJ :Ai:=.agg #[EN,Du,EN]
def aEH :Ai:=.agg #[EN,.nilFunc]
def aCG :Ai:=.agg #[.map none,.map none,.map none]
def yL :Ai:=.agg #[Du,EN]
def aC8 :Ai:=.agg #[EN,H8,H8,EN]
def aDm :Ai:=.agg #[H8]
def aNK :Ai:=.agg #[EN,EN]
def zo :Ai:=.agg #[EN,EN,EN,EN,EN,EN,EN]
def aOC :Ai:=.agg #[H8,H8,H8]
def aDR :Ai:=.agg #[EN,EN]
def aDV :Ai:=.agg #[EN]
def Opn :Ai:=.agg #[EN,.nilFunc]
def aQZ :Ai:=.agg #[H8,H8,H8,H8,H8]
def Fit :Ai:=.agg #[]
def aAc :Ai:=.agg #[H8]
def aCP :Ai:=.agg #[EN,EN,EN,EN,EN]
def aEg :Ai:=.agg #[H8,H8]
def aBe :Ai:=.agg #[H8,H8]
def aAy :Ai:=.agg #[EN,Du]
def aDq :Ai:=.agg #[]
def xW :Ai:=.agg #[EN,EN,EN,H8]
def aDN :Ai:=.agg #[EN,EN,EN]
structure Ii where
 User:ByteArray
 N:Int
def FN (x:Ii):D:=.agg [Dj x.User,Ae x.N]
def ade :Ii:=⟨Cb,0⟩
instance : Inhabited Ii:=⟨ade⟩
structure JR where
 Kind:Int
 N:Int
def Fb (x:JR):D:=.agg [Ae x.Kind,Ae x.N]
def akd :JR:=⟨0,0⟩
instance : Inhabited JR:=⟨akd⟩
structure DX where
 Users:(List Ii)
 Kinds:(List JR)
 User:Int
 Message:Int
 State:Int
 gV:Int
 kY:Int
 pR:Int
 iM:Int
def Gq (x:DX):D:=.agg [(BO FN) x.Users,(BO Fb) x.Kinds,Ae x.User,Ae x.Message,Ae x.State,Ae x.gV,Ae x.kY,Ae x.pR,Ae x.iM]
def Oz :DX:=⟨[],[],0,0,0,0,0,0,0⟩
instance : Inhabited DX:=⟨Oz⟩
structure CV where
 Text:ByteArray
 N:Int
 Target:Int
 Thread:Bool
 Via:ByteArray
 Allow:(List ByteArray)
 fV:(List ByteArray)
 Levels:DX
def FY (x:CV):D:=.agg [Dj x.Text,Ae x.N,Ae x.Target,Dt x.Thread,Dj x.Via,(BO Dj) x.Allow,(BO Dj) x.fV,(BO FN) x.Levels.Users,(BO Fb) x.Levels.Kinds,Ae x.Levels.User,Ae x.Levels.Message,Ae x.Levels.State,Ae x.Levels.gV,Ae x.Levels.kY,Ae x.Levels.pR,Ae x.Levels.iM]
def Ed :CV:=⟨Cb,0,0,false,Cb,[],[],Oz⟩
instance : Inhabited CV:=⟨Ed⟩
structure S9 where
 Server:ByteArray
 Sum:Int
def akp (x:S9):D:=.agg [Dj x.Server,Ae x.Sum]
def ZT :S9:=⟨Cb,0⟩
instance : Inhabited S9:=⟨ZT⟩
structure AO where
 Id:Int
 Room:ByteArray
 bH:ByteArray
 Kind:Int
 State:Bool
 Key:ByteArray
 Time:Int
 Depth:Int
 bV:(List Int)
 bZ:(List Int)
 Content:CV
 Hash:Int
 rQ:S9
def Am (x:AO):D:=.agg [Ae x.Id,Dj x.Room,Dj x.bH,Ae x.Kind,Dt x.State,Dj x.Key,Ae x.Time,Ae x.Depth,(BO Ae) x.bV,(BO Ae) x.bZ,Dj x.Content.Text,Ae x.Content.N,Ae x.Content.Target,Dt x.Content.Thread,Dj x.Content.Via,(BO Dj) x.Content.Allow,(BO Dj) x.Content.fV,(BO FN) x.Content.Levels.Users,(BO Fb) x.Content.Levels.Kinds,Ae x.Content.Levels.User,Ae x.Content.Levels.Message,Ae x.Content.Levels.State,Ae x.Content.Levels.gV,Ae x.Content.Levels.kY,Ae x.Content.Levels.pR,Ae x.Content.Levels.iM,Ae x.Hash,Dj x.rQ.Server,Ae x.rQ.Sum]
def FT :AO:=⟨0,Cb,Cb,0,false,Cb,0,0,[],[],Ed,0,ZT⟩
instance : Inhabited AO:=⟨FT⟩
structure Ey where
 Pos:Int
 Id:Int
 Status:Int
 Gone:Bool
def I8 (x:Ey):D:=.agg [Ae x.Pos,Ae x.Id,Ae x.Status,Dt x.Gone]
def OA :Ey:=⟨0,0,0,false⟩
instance : Inhabited Ey:=⟨OA⟩
structure Az where
 Kind:Int
 Key:ByteArray
 Id:Int
def C9 (x:Az):D:=.agg [Ae x.Kind,Dj x.Key,Ae x.Id]
def ajI :Az:=⟨0,Cb,0⟩
instance : Inhabited Az:=⟨ajI⟩
structure aCF where
 User:ByteArray
 Thread:Int
 Id:Int
 Time:Int
def agD (x:aCF):D:=.agg [Dj x.User,Ae x.Thread,Ae x.Id,Ae x.Time]
def afy :aCF:=⟨Cb,0,0,0⟩
instance : Inhabited aCF:=⟨afy⟩
structure aAE where
 User:ByteArray
 Until:Int
def akT (x:aAE):D:=.agg [Dj x.User,Ae x.Until]
def amB :aAE:=⟨Cb,0⟩
instance : Inhabited aAE:=⟨amB⟩
structure CJ where
 Id:ByteArray
 Events:(List AO)
 Rows:(List Ey)
 Waiting:(List AO)
 ab2:(List Int)
 State:(List Az)
 Next:Int
 avb:(List aCF)
 ayV:(List aAE)
def F9 (x:CJ):D:=.agg [Dj x.Id,(BO Am) x.Events,(BO I8) x.Rows,(BO Am) x.Waiting,(BO Ae) x.ab2,(BO C9) x.State,Ae x.Next,(BO agD) x.avb,(BO akT) x.ayV]
def Ia :CJ:=⟨Cb,[],[],[],[],[],0,[],[]⟩
instance : Inhabited CJ:=⟨Ia⟩
structure O6 where
 avc:Int
 am8:Nat
def VK (x:O6):D:=.agg [Ae x.avc,aS2 x.am8]
def aiO :O6:=⟨0,0⟩
instance : Inhabited O6:=⟨aiO⟩
structure FU where
 b_:(List Int)
def LM (x:FU):D:=.agg [(BO DI) x.b_]
def yF :FU:=⟨[]⟩
instance : Inhabited FU:=⟨yF⟩
structure RN where
 nV:Int
 l9:Int
def Jb (x:RN):D:=.agg [Ae x.nV,Ae x.l9]
def aAM :RN:=⟨0,0⟩
instance : Inhabited RN:=⟨aAM⟩
structure jW where
 ah2:Int
def aeb :jW:=⟨0⟩
instance : Inhabited jW:=⟨aeb⟩
structure WQ where
def nK (x:WQ):D:=.agg []
def ag4 :WQ:=⟨⟩
instance : Inhabited WQ:=⟨ag4⟩
structure OL where
 DR:(List Az)
 ae7:(List Int)
 ana:(List Int)
def aN (x:OL):D:=.agg [(BO C9) x.DR,(BO Ae) x.ae7,(BO Ae) x.ana]
def aAL :OL:=⟨[],[],[]⟩
instance : Inhabited OL:=⟨aAL⟩
structure Qn where
 l9:Int
 IE:Int
 Af:Int
 anb:(List Int)
def KP (x:Qn):D:=.agg [Ae x.l9,Ae x.IE,Ae x.Af,(BO Ae) x.anb]
def adD :Qn:=⟨0,0,0,[]⟩
instance : Inhabited Qn:=⟨adD⟩
structure UA where
 YE:Int
 YF:ByteArray
def KT (x:UA):D:=.agg [Ae x.YE,Dj x.YF]
def ai5 :UA:=⟨0,Cb⟩
instance : Inhabited UA:=⟨ai5⟩
structure VR where
 amb:(List Int)
def sD (x:VR):D:=.agg [(BO Ae) x.amb]
def ahm :VR:=⟨[]⟩
instance : Inhabited VR:=⟨ahm⟩
structure NP where
 l9:Int
 yA:Int
 Af:Int
def OG (x:NP):D:=.agg [Ae x.l9,Ae x.yA,Ae x.Af]
def adt :NP:=⟨0,0,0⟩
instance : Inhabited NP:=⟨adt⟩
structure aLM where
 Id:Int
 Before:(List Az)
 After:(List Az)
 Err:Int
def ajO :aLM:=⟨0,[],[],0⟩
instance : Inhabited aLM:=⟨ajO⟩
structure aSE where
 Same:(List Az)
 Power:(List Int)
 First:(List Az)
 Others:(List Int)
 Last:(List Az)
def akt :aSE:=⟨[],[],[],[],[]⟩
instance : Inhabited aSE:=⟨akt⟩
def agE :DY Ah 38 10 10:=Dk AA
def Sj :EC Ah 34 true 16:=FP AA
def aRW :(Ah.info? 34).bind (·.zero)=some (aAq):=AA
def ais :DY Ah 38 8 8:=Dk AA
def aPw :EC Ah 27 false 1:=FP AA
def D6 :Ah.underlying 27=some (.slice 3):=AA
def aoi :DY Ah 38 9 9:=Dk AA
def alM :DY Ah 34 5 5:=Dk AA
def afK :EC Ah 28 false 1:=FP AA
def Hq :Ah.underlying 28=some (.slice 9):=AA
def aeH :DY Ah 34 6 6:=Dk AA
def akE :DY Ah 34 7 7:=Dk AA
def apB :DY Ah 32 0 0:=Dk AA
def aLn :EC Ah 29 false 1:=FP AA
def Hu :Ah.underlying 29=some (.slice 146):=AA
def acD :DY Ah 32 1 1:=Dk AA
def aTl :EC Ah 30 false 1:=FP AA
def IC :Ah.underlying 30=some (.slice 221):=AA
def aez :DY Ah 38 1 1:=Dk AA
def NC :EC Ah 9 false 1:=FP AA
def MQ :Ah.underlying 9=some (.string):=AA
def amw :DY Ah 38 2 2:=Dk AA
def af9 :DY Ah 38 5 5:=Dk AA
def alL :DY Ah 34 0 0:=Dk AA
def acf :DY Ah 34 4 4:=Dk AA
def agm :DY Ah 38 12 27:=Dk AA
def amY :DY Ah 36 0 0:=Dk AA
def Nq :EC Ah 146 true 2:=FP AA
def acU :DY Ah 146 0 0:=Dk AA
def CB :Ah.underlying 22=some (.slice 38):=AA
def CY :EC Ah 38 true 29:=FP AA
def apq :BM 41=true:=AA
def alz :DY Ah 34 1 1:=Dk AA
def EF :EC Ah 3 false 1:=FP AA
def ajH :JB Ah 34 [(0,1),(1,1),(2,1),(3,1),(4,1),(5,1),(6,1),(7,9)] (aAq):=KY AA aRW AA
def nU :EC Ah 32 true 9:=FP AA
def aos :DY Ah 34 2 2:=Dk AA
def QJ :(Ah.info? 38).bind (·.zero)=some (aDl):=AA
def ak0 :DY Ah 38 3 3:=Dk AA
def yV :EC Ah 26 false 1:=FP AA
def arj :BM 192=true:=AA
def aeW :DY Ah 146 1 1:=Dk AA
def Nu :EC Ah 221 true 2:=FP AA
def akL :DY Ah 221 0 0:=Dk AA
def abS :DY Ah 221 1 1:=Dk AA
def aog :DY Ah 32 2 2:=Dk AA
def anE :DY Ah 32 3 3:=Dk AA
def alG :DY Ah 32 4 4:=Dk AA
def akQ :DY Ah 32 5 5:=Dk AA
def aiG :DY Ah 32 6 6:=Dk AA
def aik :DY Ah 32 7 7:=Dk AA
def acK :DY Ah 32 8 8:=Dk AA
def aoJ :DY Ah 34 3 3:=Dk AA
def aPv :EC Ah 4 false 1:=FP AA
def aoH :Ah.underlying 4=some (.bool):=AA
def aq6 :BM 181=true:=AA
def apx :BM 182=true:=AA
def adG :DY Ah 38 0 0:=Dk AA
def amA :DY Ah 38 4 4:=Dk AA
def ajP :DY Ah 38 6 6:=Dk AA
def akg :DY Ah 38 7 7:=Dk AA
def ar1 :BM 43=true:=AA
def aqi :BM 106=true:=AA
def afB :DY Ah 38 11 26:=Dk AA
def alc :DY Ah 36 1 1:=Dk AA
def YO :Ah.underlying 3=some (.int .i64):=AA
def agh :Ah.underlying 202=some (.int .u64):=AA
def aF4 :Ah.underlying 5=some (.int .u8):=AA
def JL :GU Ah 95 5 1 1:=KZ AA
def Qr :(Ah.info? 5).bind (·.zero)=some (.int .u8 0):=AA
def atG :BM 194=true:=AA
def Xa :BM 117=true:=AA
def Yg :Ah.underlying 95=some (.slice 5):=AA
def aKS :BM 116=true:=AA
def F7 :GU Ah 27 3 1 8:=KZ AA
def zero3 :(Ah.info? 3).bind (·.zero)=some (.int .i64 0):=AA
def alm :BM 328=true:=AA
def aRu :BM 329=true:=AA
def zero32 :(Ah.info? 32).bind (·.zero)=some (aBO):=AA
def atN :BM 330=true:=AA
def aJP :EC Ah 5 false 1:=FP AA
def aq7 :BM 196=true:=AA
def arF :BM 195=true:=AA
def aps :BM 265=true:=AA
def arl :BM 119=true:=AA
def ar5 :BM 193=true:=AA
def aqW :BM 114=true:=AA
def apu :BM 36=true:=AA
def arn :BM 115=true:=AA
def arU :BM 42=true:=AA
def apT :BM 183=true:=AA
def asW :BM 197=true:=AA
def asZ :BM 198=true:=AA
def als :DY Ah 45 1 1:=Dk AA
def aIr :EC Ah 22 false 1:=FP AA
def uT :BM 125=true:=AA
def as9 :BM 268=true:=AA
def aje :Ah.underlying 203=some (.int .u64):=AA
def aph :BM 199=true:=AA
def aqu :BM 200=true:=AA
def as2 :BM 126=true:=AA
def Lu :EC Ah 45 true 9:=FP AA
def aqw :BM 52=true:=AA
def arS :BM 51=true:=AA
def ash :BM 107=true:=AA
def apa :BM 44=true:=AA
def aq1 :BM 122=true:=AA
def aso :BM 121=true:=AA
def asX :BM 120=true:=AA
def jg :(Ah.info? 79).bind (·.zero)=some (aDy):=AA
def al0 :DY Ah 45 2 2:=Dk AA
def ada :EC Ah 39 false 1:=FP AA
def gY :Ah.underlying 39=some (.slice 79):=AA
def XL :EC Ah 79 true 4:=FP AA
def ac6 :DY Ah 79 1 1:=Dk AA
def abI :JB Ah 79 [(0,1),(1,1),(2,1),(3,1)] (aDy):=KY AA jg AA
def aqz :BM 32=true:=AA
def ahc :DY Ah 79 2 2:=Dk AA
def aSu :EC Ah 71 false 1:=FP AA
def apO :BM 124=true:=AA
def aq4 :BM 123=true:=AA
def acw :DY Ah 45 0 0:=Dk AA
def arp :BM 47=true:=AA
def asb :BM 48=true:=AA
def atD :BM 49=true:=AA
def adR :DY Ah 45 5 5:=Dk AA
def xB :EC Ah 41 false 1:=FP AA
def KH :Ah.underlying 41=some (.slice 82):=AA
def OX :EC Ah 82 true 3:=FP AA
def lF :(Ah.info? 82).bind (·.zero)=some (aAJ):=AA
def afe :DY Ah 82 0 0:=Dk AA
def alb :DY Ah 82 1 1:=Dk AA
def anP :DY Ah 82 2 2:=Dk AA
def arN :BM 50=true:=AA
def arQ :BM 33=true:=AA
def aq9 :BM 118=true:=AA
def ahq :JB Ah 38 [(0,1),(1,1),(2,1),(3,1),(4,1),(5,1),(6,1),(7,1),(8,1),(9,1),(10,16),(26,1),(27,2)] (aDl):=KY AA QJ AA
def Ku :GU Ah 22 38 29 376:=KZ AA
def eP :GU Ah 39 79 4 32:=KZ AA
def aOW :(Ah.info? 45).bind (·.zero)=some (aB2):=AA
def aeD :JB Ah 45 [(0,1),(1,1),(2,1),(3,1),(4,1),(5,1),(6,1),(7,1),(8,1)] (aB2):=KY AA aOW AA
def apk :BM 45=true:=AA
def aqr :BM 15=true:=AA
def atJ :BM 14=true:=AA
def ar6 :BM 13=true:=AA
def asE :BM 46=true:=AA
def aqD :BM 342=true:=AA
def aql :BM 274=true:=AA
def ari :BM 271=true:=AA
def asY :BM 269=true:=AA
def ac5 :BM 272=true:=AA
def afR :BM 270=true:=AA
def arZ :BM 203=true:=AA
def aqU :BM 204=true:=AA
def apr :BM 202=true:=AA
def asK :BM 201=true:=AA
def aqk :BM 130=true:=AA
def ar9 :BM 166=true:=AA
def arI :BM 89=true:=AA
def apY :BM 277=true:=AA
def aqb :BM 214=true:=AA
def ard :BM 215=true:=AA
def aEP :(Ah.info? 146).bind (·.zero)=some (yL):=AA
def aLX :(Ah.info? 221).bind (·.zero)=some (aNK):=AA
def aNy :(Ah.info? 222).bind (·.zero)=some (zo):=AA
def adL :Yu Ah 222 1 (zo):=yD AA aNy AA
def zX :Ah.underlying 222=some (.array 7 3):=AA
def apd :BM 134=true:=AA
def as1 :BM 60=true:=AA
def bM :GU Ah 28 9 1 16:=KZ AA
def aEI :GU Ah 29 146 2 24:=KZ AA
def aJS :GU Ah 30 221 2 16:=KZ AA
def asJ :BM 291=true:=AA
def atI :BM 238=true:=AA
def arv :BM 239=true:=AA
def arz :BM 240=true:=AA
def ark :BM 149=true:=AA
def apQ :BM 289=true:=AA
def asN :BM 290=true:=AA
def aqN :BM 354=true:=AA
def aqC :BM 355=true:=AA
def asv :BM 358=true:=AA
def apU :BM 292=true:=AA
def asf :BM 356=true:=AA
def arT :BM 357=true:=AA
def aqF :BM 293=true:=AA
def aKO :(Ah.info? 276).bind (·.zero)=some (Opn):=AA
def aoI :JB Ah 276 [(0,1),(1,1)] (Opn):=KY AA aKO AA
def adU :GU Ah 277 276 2 16:=KZ AA
def aPx :Ah.underlying 277=some (.slice 276):=AA
def aNq :EC Ah 276 true 2:=FP AA
def aiD :DY Ah 276 0 0:=Dk AA
def aoV :DY Ah 276 1 1:=Dk AA
def ag1 :EC Ah 236 false 1:=FP AA
def asu :BM 300=true:=AA
def acv :BM 294=true:=AA
def afm :BM 295=true:=AA
def aj9 :BM 296=true:=AA
def alj :BM 297=true:=AA
def adC :BM 298=true:=AA
def acV :BM 299=true:=AA
def aqE :BM 301=true:=AA
def arP :BM 231=true:=AA
def ars :BM 232=true:=AA
def apo :BM 233=true:=AA
def aqG :BM 234=true:=AA
def aC4 (x y:Ii):AQ:=(x.User.toList==y.User.toList&&(x.N==y.N&&true))
def aib (x y:Ii):fM Ah 2 146 [.string x.User,.int .i64 x.N] [.string y.User,.int .i64 y.N] (aC4 x y):=⟨fun d w=>aAk AA AA AA (l:=[(9,0),(3,1)]) AA (Vu (MW NC AA w) (MW NC AA w) (run_equalIn_string w _ _ _ _ MQ)<|Vu (MW EF AA w) (MW EF AA w) (Yx w _ _ .i64 _ _ _ YO)<|aEM _ _ _ _)⟩
def anz :Program.eqGuardType Ah (Program.depth Ah) 146=false:=AA
def aSH :Ah.underlying 26=some (.int .i64):=AA
def aBj (x y:JR):AQ:=(x.Kind==y.Kind&&(x.N==y.N&&true))
def afM (x y:JR):fM Ah 2 221 [.int .i64 x.Kind,.int .i64 x.N] [.int .i64 y.Kind,.int .i64 y.N] (aBj x y):=⟨fun d w=>aAk AA AA AA (l:=[(26,0),(3,1)]) AA (Vu (MW yV AA w) (MW yV AA w) (Yx w _ _ .i64 _ _ _ aSH)<|Vu (MW EF AA w) (MW EF AA w) (Yx w _ _ .i64 _ _ _ YO)<|aEM _ _ _ _)⟩
def ak1 :Program.eqGuardType Ah (Program.depth Ah) 221=false:=AA
def aqZ :BM 235=true:=AA
def aqB :BM 236=true:=AA
def aqy :BM 237=true:=AA
def aN4 :(Ah.info? 209).bind (·.zero)=some (aDm):=AA
def agF :JB Ah 209 [(0,1)] (aDm):=KY AA aN4 AA
def acE :DY Ah 209 0 0:=Dk AA
def aiC :EC Ah 95 false 1:=FP AA
def atF :BM 206=true:=AA
def asB :BM 205=true:=AA
def zero9 :(Ah.info? 9).bind (·.zero)=some (.string Cb):=AA
def ar7 :BM 208=true:=AA
def apy :BM 207=true:=AA
def abT :GU Ah 258 4 1 1:=KZ AA
def su :(Ah.info? 4).bind (·.zero)=some (.bool false):=AA
def aRn :Ah.underlying 258=some (.slice 4):=AA
def arf :BM 210=true:=AA
def apn :BM 209=true:=AA
def ad4 :GU Ah 244 27 1 24:=KZ AA
def aEr :(Ah.info? 27).bind (·.zero)=some (.slice none 0 0):=AA
def aRV :Ah.underlying 244=some (.slice 27):=AA
def arA :BM 343=true:=AA
def asD :BM 275=true:=AA
def aqh :BM 212=true:=AA
def arL :BM 211=true:=AA
def asj :BM 131=true:=AA
def aSh :(Ah.info? 36).bind (·.zero)=some (aBN):=AA
def ap0 :JB Ah 36 [(0,1),(1,1)] (aBN):=KY AA aSh AA
def amU :EC Ah 36 true 2:=FP AA
def apc :BM 132=true:=AA
def ar0 :BM 147=true:=AA
def apt :BM 137=true:=AA
def arw :BM 148=true:=AA
def aqT :BM 58=true:=AA
def apb :BM 57=true:=AA
def yN (x y:S9):AQ:=(x.Server.toList==y.Server.toList&&(x.Sum==y.Sum&&true))
def afX (x y:S9):fM Ah 2 36 [.string x.Server,.int .i64 x.Sum] [.string y.Server,.int .i64 y.Sum] (yN x y):=⟨fun d w=>aAk AA AA AA (l:=[(9,0),(3,1)]) AA (Vu (MW NC AA w) (MW NC AA w) (run_equalIn_string w _ _ _ _ MQ)<|Vu (MW EF AA w) (MW EF AA w) (Yx w _ _ .i64 _ _ _ YO)<|aEM _ _ _ _)⟩
def ajd :Program.eqGuardType Ah (Program.depth Ah) 36=false:=AA
def aqM :BM 74=true:=AA
def apg :BM 172=true:=AA
def amx :BM 217=true:=AA
def asn :BM 138=true:=AA
def aqj :BM 139=true:=AA
def asT :BM 140=true:=AA
def Rt :Ah.underlying 196=some (.map 3 4):=AA
def IG :KeyTy Ah 3 CU:=al9 YO
def asR :BM 184=true:=AA
def apj :BM 109=true:=AA
def Qq :Ah.underlying 183=some (.map 3 3):=AA
def apw :BM 169=true:=AA
def aoW :(Ah.info? 183).bind (·.zero)=some (.map none):=AA
def ac1 :EC Ah 183 false 1:=FP AA
def ar4 :BM 255=true:=AA
def aq0 :BM 168=true:=AA
def as8 :BM 170=true:=AA
def aHH :GU Ah 249 251 2 16:=KZ AA
def aCZ :(Ah.info? 251).bind (·.zero)=some (aDR):=AA
def ag2 :JB Ah 251 [(0,1),(1,1)] (aDR):=KY AA aCZ AA
def YU :Ah.underlying 249=some (.slice 251):=AA
def U2 :EC Ah 251 true 2:=FP AA
def anu :DY Ah 251 0 0:=Dk AA
def ajy :DY Ah 251 1 1:=Dk AA
def Xi :Ah.underlying 40=some (.slice 82):=AA
def ajf :JB Ah 82 [(0,1),(1,1),(2,1)] (aAJ):=KY AA lF AA
def asV :BM 405=true:=AA
def atA :BM 403=true:=AA
def agN :BM 404=true:=AA
def ae2 :BM 406=true:=AA
def apW :BM 327=true:=AA
def WJ :Ah.underlying 190=some (.slice 41):=AA
def ar2 :BM 323=true:=AA
def Vz :(Ah.info? 41).bind (·.zero)=some (.slice none 0 0):=AA
def adb :EC Ah 190 false 1:=FP AA
def apL :BM 229=true:=AA
def aRh :BM 288=true:=AA
def asa :BM 393=true:=AA
def VG :GU Ah 41 82 3 32:=KZ AA
def ah0 :BM 434=true:=AA
def aey :BM 435=true:=AA
def aM4 :BM 396=true:=AA
def as4 :BM 433=true:=AA
def apR :BM 319=true:=AA
def arH :BM 394=true:=AA
def arO :BM 452=true:=AA
def aQS :BM 436=true:=AA
def atB :BM 64=true:=AA
def asP :BM 395=true:=AA
def apP :BM 397=true:=AA
def mF :BM 261=true:=AA
def aiY :BM 459=true:=AA
def aqO :BM 457=true:=AA
def arG :BM 441=true:=AA
def aqn :BM 458=true:=AA
def ase :BM 223=true:=AA
def aMO :(Ah.info? 263).bind (·.zero)=some (aDV):=AA
def aoE :JB Ah 263 [(0,1)] (aDV):=KY AA aMO AA
def afj :(match Ah.underlying 263 with |some (.interface _)=>false|some _=>true|none=>false)=true:=AA
def vP :BM 225=true:=AA
def SY :BM 224=true:=AA
def arY :BM 280=true:=AA
def apz :BM 227=true:=AA
def aPX :(Ah.info? 311).bind (·.zero)=some (aCP):=AA
def ahw :Yu Ah 311 1 (aCP):=yD AA aPX AA
def akA :EC Ah 311 true 5:=FP AA
def aMz :Ah.underlying 311=some (.array 5 3):=AA
def ape :BM 282=true:=AA
def as6 :BM 345=true:=AA
def asg :BM 346=true:=AA
def as3 :BM 347=true:=AA
def aqx :BM 283=true:=AA
def aiy :BM 415=true:=AA
def aqp :BM 348=true:=AA
def arh :BM 349=true:=AA
def aro :BM 350=true:=AA
def afq :JB Ah 32 [(0,1),(1,1),(2,1),(3,1),(4,1),(5,1),(6,1),(7,1),(8,1)] (aBO):=KY AA zero32 AA
def ama :JB Ah 146 [(0,1),(1,1)] (yL):=KY AA aEP AA
def aqd :BM 351=true:=AA
def asI :BM 284=true:=AA
def asF :BM 285=true:=AA
def alR :BM 281=true:=AA
def apV :BM 221=true:=AA
def asC :BM 226=true:=AA
def arW :BM 286=true:=AA
def aOf :EC Ah 222 true 7:=FP AA
def aSA :BM 353=true:=AA
def aIB :BM 352=true:=AA
def aOL :(Ah.info? 320).bind (·.zero)=some (aEg):=AA
def akr :Yu Ah 320 1 (aEg):=yD AA aOL AA
def aiw :Ah.underlying 320=some (.array 2 30):=AA
def aOM :(Ah.info? 321).bind (·.zero)=some (aBe):=AA
def amP :Yu Ah 321 1 (aBe):=yD AA aOM AA
def acn :Ah.underlying 321=some (.array 2 29):=AA
def aqR :BM 287=true:=AA
def aqY :BM 228=true:=AA
def adO :BM 222=true:=AA
def aqg :BM 456=true:=AA
def apv :BM 143=true:=AA
def aLg :(Ah.info? 378).bind (·.zero)=some (aDq):=AA
def am2 :JB Ah 378 [] (aDq):=KY AA aLg AA
def aiW :(match Ah.underlying 378 with |some (.interface _)=>false|some _=>true|none=>false)=true:=AA
def arV :BM 437=true:=AA
def asH :BM 438=true:=AA
def aqQ :BM 399=true:=AA
def aN5 :BM 439=true:=AA
def at6 :BM 440=true:=AA
def abp :(Ah.info? 247).bind (·.zero)=some (aOC):=AA
def ara :BM 320=true:=AA
def asO :BM 321=true:=AA
def aNI :(Ah.info? 292).bind (·.zero)=some (Fit):=AA
def afO :JB Ah 292 [] (Fit):=KY AA aNI AA
def ao2 :(match Ah.underlying 292 with |some (.interface _)=>false|some _=>true|none=>false)=true:=AA
def aKU :(Ah.info? 347).bind (·.zero)=some (aAy):=AA
def acF :JB Ah 347 [(0,1),(1,1)] (aAy):=KY AA aKU AA
def aFq :GU Ah 342 347 2 24:=KZ AA
def aqP :BM 400=true:=AA
def iD :Ah.underlying 342=some (.slice 347):=AA
def qQ :EC Ah 347 true 2:=FP AA
def ajl :DY Ah 347 0 0:=Dk AA
def ap6 :DY Ah 347 1 1:=Dk AA
def aPq :BM 402=true:=AA
def asx :BM 326=true:=AA
def ar8 :BM 479=true:=AA
def aL1 :(Ah.info? 411).bind (·.zero)=some (xW):=AA
def ahi :JB Ah 411 [(0,1),(1,1),(2,1),(3,1)] (xW):=KY AA aL1 AA
def aHh :GU Ah 408 411 4 48:=KZ AA
def asq :BM 477=true:=AA
def Vl :Ah.underlying 408=some (.slice 411):=AA
def ak :EC Ah 411 true 4:=FP AA
def anK :DY Ah 411 3 3:=Dk AA
def apD :DY Ah 411 0 0:=Dk AA
def afW :DY Ah 411 1 1:=Dk AA
def acX :DY Ah 411 2 2:=Dk AA
def agB :BM 478=true:=AA
def apN :BM 476=true:=AA
def ami :BM 475=true:=AA
def aeN :nX Ah 292 "fedchat/resolve.sort" 475=true:=AA
def aq5 :BM 398=true:=AA
def at7 :BM 322=true:=AA
def abL :DY Ah 247 1 1:=Dk AA
def aq8 :BM 324=true:=AA
def aSg :(Ah.info? 296).bind (·.zero)=some (aAc):=AA
def aop :JB Ah 296 [(0,1)] (aAc):=KY AA aSg AA
def ag6 :(match Ah.underlying 296 with |some (.interface _)=>false|some _=>true|none=>false)=true:=AA
def ag0 :DY Ah 296 0 0:=Dk AA
def arX :BM 482=true:=AA
def aG1 :(Ah.info? 415).bind (·.zero)=some (aDN):=AA
def aki :JB Ah 415 [(0,1),(1,1),(2,1)] (aDN):=KY AA aG1 AA
def aMR :GU Ah 413 415 3 24:=KZ AA
def asL :BM 483=true:=AA
def kJ :Ah.underlying 413=some (.slice 415):=AA
def kH :EC Ah 415 true 3:=FP AA
def sU (x y:NP):AQ:=(x.l9==y.l9&&(x.yA==y.yA&&(x.Af==y.Af&&true)))
def amQ (x y:NP):fM Ah 2 415 [.int .i64 x.l9,.int .i64 x.yA,.int .i64 x.Af] [.int .i64 y.l9,.int .i64 y.yA,.int .i64 y.Af] (sU x y):=⟨fun d w=>aAk AA AA AA (l:=[(3,0),(3,1),(3,2)]) AA (Vu (MW EF AA w) (MW EF AA w) (Yx w _ _ .i64 _ _ _ YO)<|Vu (MW EF AA w) (MW EF AA w) (Yx w _ _ .i64 _ _ _ YO)<|Vu (MW EF AA w) (MW EF AA w) (Yx w _ _ .i64 _ _ _ YO)<|aEM _ _ _ _)⟩
def ao1 :Program.eqGuardType Ah (Program.depth Ah) 415=false:=AA
def asl :BM 486=true:=AA
def ajq :DY Ah 415 0 0:=Dk AA
def aqS :BM 481=true:=AA
def ame :BM 480=true:=AA
def ao8 :nX Ah 296 "fedchat/resolve.sort" 480=true:=AA
def aee :DY Ah 247 0 0:=Dk AA
def aob :DY Ah 247 2 2:=Dk AA
def aRo :EC Ah 247 true 3:=FP AA
def asi :BM 259=true:=AA
def aeS :iV Ah 247 0 0 false 1=true:=AA
def asU :BM 401=true:=AA
def zero22 :(Ah.info? 22).bind (·.zero)=some (.slice none 0 0):=AA
def asQ :BM 325=true:=AA
def anG :DY Ah 142 2 2:=Dk AA
def afY :EC Ah 140 false 1:=FP AA
def mW :Ah.underlying 140=some (.map 3 64):=AA
def zero64 :(Ah.info? 64).bind (·.zero)=some (.int .i64 0):=AA
def asc :BM 144=true:=AA
def aiV :DY Ah 142 1 1:=Dk AA
def acY :EC Ah 139 false 1:=FP AA
def eG :Ah.underlying 139=some (.map 3 41):=AA
def aDE :GU Ah 190 41 1 24:=KZ AA
def aqa :BM 178=true:=AA
def aqo :BM 260=true:=AA
def agy :DY Ah 142 0 0:=Dk AA
def apl :BM 167=true:=AA
def arK :BM 91=true:=AA
def aMy :(Ah.info? 142).bind (·.zero)=some (aCG):=AA
def aRS :JB Ah 142 [(0,1),(1,1),(2,1)] (aCG):=KY AA aMy AA
def arM :BM 179=true:=AA
def atK :BM 180=true:=AA
def atC :BM 104=true:=AA
def aoR :BM 220=true:=AA
def aMj :GU Ah 186 71 1 8:=KZ AA
def aPC :(Ah.info? 71).bind (·.zero)=some (.int .i64 0):=AA
def aqv :BM 171=true:=AA
def aO4 :Ah.underlying 186=some (.slice 71):=AA
def asz :BM 105=true:=AA
def am0 :EC Ah 136 false 1:=FP AA
def apf :BM 258=true:=AA
def aqt :BM 257=true:=AA
def apS :BM 177=true:=AA
def asw :BM 176=true:=AA
def aq2 :BM 175=true:=AA
def as7 :BM 65=true:=AA
def apm :BM 141=true:=AA
def agQ :DY Ah 45 6 6:=Dk AA
def asA :BM 142=true:=AA
def air :BM 145=true:=AA
def aqs :BM 101=true:=AA
def arx :BM 103=true:=AA
def aeJ :DY Ah 45 4 4:=Dk AA
def yH :Ah.underlying 233=some (.slice 22):=AA
def arq :BM 230=true:=AA
def akY :DY Ah 45 3 3:=Dk AA
def atL :BM 66=true:=AA
def abJ :GU Ah 233 22 1 24:=KZ AA
def aqm :BM 146=true:=AA
def aqA :BM 67=true:=AA
def arE :BM 63=true:=AA
def arb :BM 68=true:=AA
def asr :BM 30=true:=AA
def aqH :BM 20=true:=AA
def atE :BM 9=true:=AA
def atH :BM 10=true:=AA
def aru :BM 11=true:=AA
def apZ :BM 12=true:=AA
def afQ :DY Ah 45 7 7:=Dk AA
def am6 :EC Ah 42 false 1:=FP AA
def al8 :DY Ah 45 8 8:=Dk AA
def anC :EC Ah 43 false 1:=FP AA
def aQb :(Ah.info? 174).bind (·.zero)=some (aC8):=AA
def aoq :EC Ah 174 true 4:=FP AA
def afu :DY Ah 174 0 0:=Dk AA
def adl :JB Ah 174 [(0,1),(1,1),(2,1),(3,1)] (aC8):=KY AA aQb AA
def adN :(Ah.info? 281).bind (·.zero)=some (aQZ):=AA
def akk :DY Ah 281 0 0:=Dk AA
def al1 :DY Ah 281 1 1:=Dk AA
def alQ :DY Ah 281 2 2:=Dk AA
def abt :DY Ah 281 3 3:=Dk AA
def ah7 :DY Ah 281 4 4:=Dk AA
def akR :EC Ah 281 true 5:=FP AA
def aco :iV Ah 281 4 4 false 1=true:=AA
def ach :DY Ah 174 3 3:=Dk AA
def abN :EC Ah 64 false 1:=FP AA
def adT :DY Ah 174 2 2:=Dk AA
def alJ :DY Ah 174 1 1:=Dk AA
def aew :DY Ah 79 0 0:=Dk AA
def aiv :(Ah.info? 93).bind (·.zero)=some (.nilFunc):=AA
def alk :EC Ah 93 false 1:=FP AA
def aMX :(Ah.info? 134).bind (·.zero)=some (aEH):=AA
def acO :JB Ah 134 [(0,1),(1,1)] (aEH):=KY AA aMX AA
def abk :EC Ah 134 true 2:=FP AA
def agn :DY Ah 134 1 1:=Dk AA
def ajv :EC Ah 25 false 1:=FP AA
def ahQ :DY Ah 134 0 0:=Dk AA
def aor :Ah.underlying 71=some (.int .i64):=AA
def ahu :EC Ah 102 true 4:=FP AA
def amy :EC Ah 104 true 2:=FP AA
instance apM :Kn Ah where
 und:=[(9,.string),(4,.bool),(3,.int .i64),(202,.int .u64),(5,.int .u8),(203,.int .u64),(26,.int .i64),(71,.int .i64)]
 agG:=⟨MQ,aoH,YO,agh,aF4,aje,aSH,aor,trivial⟩
 ty:=[(34,true,16),(27,false,1),(28,false,1),(29,false,1),(30,false,1),(9,false,1),(146,true,2),(38,true,29),(3,false,1),(32,true,9),(26,false,1),(221,true,2),(4,false,1),(5,false,1),(22,false,1),(45,true,9),(39,false,1),(79,true,4),(71,false,1),(41,false,1),(82,true,3),(276,true,2),(236,false,1),(95,false,1),(36,true,2),(183,false,1),(251,true,2),(190,false,1),(311,true,5),(222,true,7),(347,true,2),(411,true,4),(415,true,3),(247,true,3),(140,false,1),(139,false,1),(136,false,1),(42,false,1),(43,false,1),(174,true,4),(281,true,5),(64,false,1),(93,false,1),(134,true,2),(25,false,1),(102,true,4),(104,true,2)]
 hty:=⟨Sj,aPw,afK,aLn,aTl,NC,Nq,CY,EF,nU,yV,Nu,aPv,aJP,aIr,Lu,ada,XL,aSu,xB,OX,aNq,ag1,aiC,amU,ac1,U2,adb,akA,aOf,qQ,ak,kH,aRo,afY,acY,am0,am6,anC,aoq,akR,abN,alk,abk,ajv,ahu,amy,trivial⟩
 fld:=[((38,10),10),((38,8),8),((38,9),9),((34,5),5),((34,6),6),((34,7),7),((32,0),0),((32,1),1),((38,1),1),((38,2),2),((38,5),5),((34,0),0),((34,4),4),((38,12),27),((36,0),0),((146,0),0),((34,1),1),((34,2),2),((38,3),3),((146,1),1),((221,0),0),((221,1),1),((32,2),2),((32,3),3),((32,4),4),((32,5),5),((32,6),6),((32,7),7),((32,8),8),((34,3),3),((38,0),0),((38,4),4),((38,6),6),((38,7),7),((38,11),26),((36,1),1),((45,1),1),((45,2),2),((79,1),1),((79,2),2),((45,0),0),((45,5),5),((82,0),0),((82,1),1),((82,2),2),((276,0),0),((276,1),1),((209,0),0),((251,0),0),((251,1),1),((347,0),0),((347,1),1),((411,3),3),((411,0),0),((411,1),1),((411,2),2),((247,1),1),((296,0),0),((415,0),0),((247,0),0),((247,2),2),((142,2),2),((142,1),1),((142,0),0),((45,6),6),((45,4),4),((45,3),3),((45,7),7),((45,8),8),((174,0),0),((281,0),0),((281,1),1),((281,2),2),((281,3),3),((281,4),4),((174,3),3),((174,2),2),((174,1),1),((79,0),0),((134,1),1),((134,0),0)]
 hfld:=⟨agE,ais,aoi,alM,aeH,akE,apB,acD,aez,amw,af9,alL,acf,agm,amY,acU,alz,aos,ak0,aeW,akL,abS,aog,anE,alG,akQ,aiG,aik,acK,aoJ,adG,amA,ajP,akg,afB,alc,als,al0,ac6,ahc,acw,adR,afe,alb,anP,aiD,aoV,acE,anu,ajy,ajl,ap6,anK,apD,afW,acX,abL,ag0,ajq,aee,aob,anG,aiV,agy,agQ,aeJ,akY,afQ,al8,afu,akk,al1,alQ,abt,ah7,ach,adT,alJ,aew,agn,ahQ,trivial⟩
 part:=[((247,0),0,false,1),((281,4),4,false,1)]
 hpart:=⟨aeS,aco,trivial⟩
 zero:=[(34,aAq),(38,aDl),(5,.int .u8 0),(3,.int .i64 0),(32,aBO),(79,aDy),(82,aAJ),(45,aB2),(146,yL),(221,aNK),(222,zo),(276,Opn),(209,aDm),(9,.string Cb),(4,.bool false),(27,.slice none 0 0),(36,aBN),(183,.map none),(251,aDR),(41,.slice none 0 0),(263,aDV),(311,aCP),(320,aEg),(321,aBe),(378,aDq),(247,aOC),(292,Fit),(347,aAy),(411,xW),(296,aAc),(415,aDN),(22,.slice none 0 0),(64,.int .i64 0),(142,aCG),(71,.int .i64 0),(174,aC8),(281,aQZ),(93,.nilFunc),(134,aEH)]
 hzero:=⟨⟨aRW,AA⟩,⟨QJ,AA⟩,⟨Qr,AA⟩,⟨zero3,AA⟩,⟨zero32,AA⟩,⟨jg,AA⟩,⟨lF,AA⟩,⟨aOW,AA⟩,⟨aEP,AA⟩,⟨aLX,AA⟩,⟨aNy,AA⟩,⟨aKO,AA⟩,⟨aN4,AA⟩,⟨zero9,AA⟩,⟨su,AA⟩,⟨aEr,AA⟩,⟨aSh,AA⟩,⟨aoW,AA⟩,⟨aCZ,AA⟩,⟨Vz,AA⟩,⟨aMO,AA⟩,⟨aPX,AA⟩,⟨aOL,AA⟩,⟨aOM,AA⟩,⟨aLg,AA⟩,⟨abp,AA⟩,⟨aNI,AA⟩,⟨aKU,AA⟩,⟨aL1,AA⟩,⟨aSg,AA⟩,⟨aG1,AA⟩,⟨zero22,AA⟩,⟨zero64,AA⟩,⟨aMy,AA⟩,⟨aPC,AA⟩,⟨aQb,AA⟩,⟨adN,AA⟩,⟨aiv,AA⟩,⟨aMX,AA⟩,trivial⟩
 st:=[(34,[(0,1),(1,1),(2,1),(3,1),(4,1),(5,1),(6,1),(7,9)],aAq),(79,[(0,1),(1,1),(2,1),(3,1)],aDy),(38,[(0,1),(1,1),(2,1),(3,1),(4,1),(5,1),(6,1),(7,1),(8,1),(9,1),(10,16),(26,1),(27,2)],aDl),(45,[(0,1),(1,1),(2,1),(3,1),(4,1),(5,1),(6,1),(7,1),(8,1)],aB2),(276,[(0,1),(1,1)],Opn),(209,[(0,1)],aDm),(36,[(0,1),(1,1)],aBN),(251,[(0,1),(1,1)],aDR),(82,[(0,1),(1,1),(2,1)],aAJ),(263,[(0,1)],aDV),(32,[(0,1),(1,1),(2,1),(3,1),(4,1),(5,1),(6,1),(7,1),(8,1)],aBO),(146,[(0,1),(1,1)],yL),(378,[],aDq),(292,[],Fit),(347,[(0,1),(1,1)],aAy),(411,[(0,1),(1,1),(2,1),(3,1)],xW),(296,[(0,1)],aAc),(415,[(0,1),(1,1),(2,1)],aDN),(142,[(0,1),(1,1),(2,1)],aCG),(174,[(0,1),(1,1),(2,1),(3,1)],aC8),(134,[(0,1),(1,1)],aEH)]
 hst:=⟨ajH,abI,ahq,aeD,aoI,agF,ap0,ag2,ajf,aoE,afq,ama,am2,afO,acF,ahi,aop,aki,aRS,adl,acO,trivial⟩
 arr:=[(222,1,zo),(311,1,aCP),(320,1,aEg),(321,1,aBe)]
 harr:=⟨adL,ahw,akr,amP,trivial⟩
abbrev EJ :=fun x=>BK.arr 3 1 (List.map Ae x)
abbrev Ib :=fun x=>BK.arr 5 1 (List.map DI x)
abbrev mV :=fun x=>BK.arr 9 1 (List.map Dj x)
abbrev wB :=fun x=>BK.arr 79 4 (List.map I8 x)
abbrev IQ :=fun x=>BK.arr 38 29 (List.map Am x)
abbrev VT :=fun x=>BK.arr 82 3 (List.map C9 x)
abbrev aB :=fun x=>BK.arr 415 3 (List.map OG x)
abbrev X7 :=fun x=>BK.arr 251 2 (List.map Jb x)
abbrev Bl :=fun x=>Aa.d ((BO Am) x)
abbrev EL :=fun x=>Aa.d (Am x)
abbrev Eo :=fun x=>Aa.d ((BO C9) x)
abbrev AV :=fun x=>Aa.d (Ae x)
abbrev Aj :=fun x=>Aa.d (Dt x)
abbrev CX :=fun x=>Aa.d ((BO Ae) x)
abbrev G8 :=fun x=>Aa.d (F9 x)
abbrev Dy :=fun x=>Aa.d (Dj x)
abbrev Io :=fun x=>Aa.d (FY x)
abbrev Ie :=fun x=>Aa.d ((BO Dj) x)
abbrev N9 :=fun x=>Aa.d (Gq x)
abbrev Ho :=fun x=>Aa.d ((BO DI) x)
abbrev U3 :=fun x=>Aa.d (I8 x)
abbrev aAI :=fun x=>Aa.d ((BO I8) x)
abbrev QS :=fun x=>Aa.d ((BO FN) x)
abbrev QO :=fun x=>Aa.d ((BO Fb) x)
abbrev O9 :=fun x=>Aa.d ((BO (BO C9)) x)
abbrev Y1 :=fun x=>Aa.d (C9 x)
abbrev Uk :=fun x=>Aa.d ((BO KP) x)
end
section
set_option maxRecDepth 20000
set_option maxHeartbeats 4000000
def aJW (j:AO) (u:(Int->AL AQ)):Int->AL AQ:=fun q=>(bif q<(j.Content.Levels.Users.length:Int) then(BF j.Content.Levels.Users q).bind fun z=>(bif (z.User.size:Int)>2000 then some true else u (BA (q+1)))else some false)
def aKX (j:AO):Int->AL AQ:=bI (aJW j) Aw
def aFR (j:AO) (u:(Int->AL AQ)):Int->AL AQ:=fun q=>(bif q<(j.Content.fV.length:Int) then(BF j.Content.fV q).bind fun z=>(bif (z.size:Int)>2000 then some true else u (BA (q+1)))else aKX j 0)
def aKo (j:AO):Int->AL AQ:=bI (aFR j) Aw
def aKd (j:AO) (u:(Int->AL AQ)):Int->AL AQ:=fun q=>(bif q<(j.Content.Allow.length:Int) then(BF j.Content.Allow q).bind fun z=>(bif (z.size:Int)>2000 then some true else u (BA (q+1)))else aKo j 0)
def aQx (j:AO):Int->AL AQ:=bI (aKd j) Aw
def aCC (j:AO):AL AQ:=(bif (j.bV.length:Int)>40 then some true else some (decide ((j.bZ.length:Int)>40))).bind fun L=>(bif L then some true else some (decide ((j.Content.Allow.length:Int)>40))).bind fun M=>(bif M then some true else some (decide ((j.Content.fV.length:Int)>40))).bind fun O=>(bif O then some true else some (decide ((j.Content.Levels.Users.length:Int)>40))).bind fun U=>(bif U then some true else some (decide ((j.Content.Levels.Kinds.length:Int)>40))).bind fun Y=>(bif Y then some true else(bif (j.Room.size:Int)>2000 then some true else some (decide ((j.bH.size:Int)>2000))).bind fun q=>(bif q then some true else some (decide ((j.Key.size:Int)>2000))).bind fun u=>(bif u then some true else some (decide ((j.Content.Text.size:Int)>2000))).bind fun z=>(bif z then some true else some (decide ((j.Content.Via.size:Int)>2000))).bind fun I=>(bif I then some true else some (decide ((j.rQ.Server.size:Int)>2000))).bind fun J=>(bif J then some true else aQx j 0))
def aiA (aZ r) (h:aCC aZ=some r):BL 41 [EL aZ] [] (Aj r) []:=BP func41 rfl<|AY<|AY<|Ac<|AX 2<|.p (Bh Ae aZ.bV D6 rfl)<|.a 1<|AU h fun x1 hx1 h=>.mg 13 5 (Aj x1) (.bi hx1 (k2:=fun h=>.a 2<|.Z (Bh Ae aZ.bZ D6 rfl)<|EO))<|.a 1<|AU h fun x3 hx3 h=>.mg 20 4 (Aj x3) (Dz hx3 (k2:=fun e i=>by subst e;have h:=i;exact .a 2<|.Z (Bh Dj aZ.Content.Allow Hq rfl)<|EO))<|.a 1<|AU h fun x5 hx5 h=>.mg 26 4 (Aj x5) (Dz hx5 (k2:=fun e i=>by subst e;have h:=i;exact .a 2<|.Z (Bh Dj aZ.Content.fV Hq rfl)<|EO))<|.a 1<|AU h fun x7 hx7 h=>.mg 32 5 (Aj x7) (Dz hx7 (k2:=fun e i=>by subst e;have h:=i;exact .a 3<|.Z (Bh FN aZ.Content.Levels.Users Hu rfl)<|EO))<|.a 1<|AU h fun x9 uy h=>.mg 39 5 (Aj x9) (Dz uy (k2:=fun e i=>by subst e;have h:=i;exact .a 3<|.Z (Bh Fb aZ.Content.Levels.Kinds IC rfl)<|EO))<|.bC<|Bc h D7 fun h=>Ac<|AX 4<|AU h fun x12 j h=>.mg 49 5 (Aj x12) (.bi j)<|.a 1<|AU h fun x14 q h=>.mg 56 4 (Aj x14) (Dz q)<|.a 1<|AU h fun x16 u h=>.mg 62 4 (Aj x16) (Dz u)<|.a 1<|AU h fun x18 z h=>.mg 68 4 (Aj x18) (Dz z)<|.a 1<|AU h fun EK I h=>.mg 74 5 (Aj EK) (Dz I)<|.bC<|Bc h D7 fun h=>Ac<|AY<|Ak<|FZ (fun J=>⟨BX 125 [(3,.ptr 0 0),(4,AV J)],[.box (Au (FY aZ.Content))],0⟩) _ _ _ (Ag 125 24 [AP 1]) h<|fun J40 k24 L J h=>Ac<|AX 3<|.Z (Bh Dj aZ.Content.Allow Hq rfl)<|Cc h (fun h=>Ac<|Ak<|AU h fun Gs M h=>AX 3<|.Z (BU Dj M Hq NC rfl)<|Bc h D7 fun h=>BJ<|.a 3<|.nil<|L _ _ (Ag 125 24 [AP 0]) h) fun h=>DC<|Ac<|AY<|Ak<|FZ (fun O=>⟨BX 125 [(3,.ptr 0 0),(5,AV O)],[.box (Au (FY aZ.Content))],0⟩) _ _ _ (Ag 125 40 [AP 0]) h<|fun J39 k29 U O h=>Ac<|AX 3<|.Z (Bh Dj aZ.Content.fV Hq rfl)<|Cc h (fun h=>Ac<|Ak<|AU h fun x31 Y h=>AX 3<|.Z (BU Dj Y Hq NC rfl)<|Bc h D7 fun h=>BJ<|.a 3<|.nil<|U _ _ (Ag 125 40 [AP 0]) h) fun h=>DC<|Ac<|AY<|Ak<|FZ (fun Z=>⟨BX 125 [(3,.ptr 0 0),(6,AV Z)],[.box (Au (FY aZ.Content))],0⟩) _ _ _ (Ag 125 72 [AP 0]) h<|fun J38 k34 avT Z h=>Ac<|AX 4<|.Z (Bh FN aZ.Content.Levels.Users Hu rfl)<|Cc h (fun h=>Ac<|Ak<|AU h fun x36 agO h=>AX 4<|.Z (BU FN agO Hu Nq rfl)<|Bc h D7 fun h=>BJ<|.a 3<|.nil<|avT _ _ (Ag 125 72 [AP 0]) h) fun h=>Hl
abbrev Aq:=A8 AO
def aF0 (j:Aq) (k3:(Int->AL AQ)):Int->AL AQ:=fun v2=>(bif v2<(j.length:Int) then(BF j v2).bind fun q=>(aCC q).bind fun u=>(bif u then some true else k3 (BA (v2+1)))else some false)
def aNs (j:Aq):Int->AL AQ:=bI (aF0 j) Aw
def aBb (j:Aq) (q:Int):AL AQ:=(bif (j.length:Int)>q then some true else aNs j 0)
def aaw (ay Ar r) (h:aBb ay Ar=some r):BL 9 [Bl ay,AV Ar] [] (Aj r) []:=BP func9 rfl<|AY<|Ac<|AX 1<|.Z (Bh Am ay CB rfl)<|Bc h D7 fun h=>Ac<|AY<|Ak<|FZ (fun v2=>⟨BX 21 [(0,Bl ay),(5,AV v2)],[],0⟩) _ _ _ (Ag 21 33 []) h<|fun J k3 j v2 h=>Ac<|AX 2<|.Z (Bh Am ay CB rfl)<|Cc h (fun h=>Ac<|Ak<|DF h fun z q I u h=>AX 2<|.p (BU Am q CB CY rfl)<|.a 1<|.ca (aiA z I u)<|.bC<|Bc h D7 fun h=>BJ<|.a 3<|.nil<|j _ _ (Ag 21 33 []) h) fun h=>Hl
def wV (q:Int) (j:CV):AL CV:=(bif (q==1)then some j else(bif (q==2)then some ({ Ed with N:=j.N,Via:=j.Via })else(bif (q==3)then some ({ Ed with Levels:=j.Levels })else(bif (q==4)then some ({ Ed with N:=j.N,Allow:=j.Allow })else(bif (q==5)then some ({ Ed with N:=j.N })else(bif (q==6)then some ({ Ed with Allow:=j.Allow,fV:=j.fV })else(bif (q==14)then some ({ Ed with Target:=j.Target })else some Ed)))))))
def anW (iP fK r) (h:wV iP fK=some r):BL 192 [AV iP,Io fK] [] (Io r) []:=BP func192 rfl<|AY<|Ac<|AY<|Ak<|AY<|Dv h (fun h=>AY<|FC<|by rw[←Ci h];exact⟨[Io fK],[],⟨⟨1,Au (FY fK),true,16,AA,AA,AA,Sj,ED AA,OU,AA⟩,trivial⟩,AA,AA,AA⟩) fun h=>AY<|Dv h (fun h=>AY<|FC<|by rw[←Ci h];exact⟨[Io ({ Ed with N:=fK.N,Via:=fK.Via })],[],⟨⟨1,Au (FY ({ Ed with N:=fK.N,Via:=fK.Via })),true,16,AA,AA,AA,Sj,ED AA,OU,AA⟩,trivial⟩,AA,AA,AA⟩) fun h=>AY<|Dv h (fun h=>AY<|FC<|by rw[←Ci h];exact⟨[Io ({ Ed with Levels:=fK.Levels })],[],⟨⟨1,Au (FY ({ Ed with Levels:=fK.Levels })),true,16,AA,AA,AA,Sj,ED AA,OU,AA⟩,trivial⟩,AA,AA,AA⟩) fun h=>AY<|Dv h (fun h=>AY<|FC<|by rw[←Ci h];exact⟨[Io ({ Ed with N:=fK.N,Allow:=fK.Allow })],[],⟨⟨1,Au (FY ({ Ed with N:=fK.N,Allow:=fK.Allow })),true,16,AA,AA,AA,Sj,ED AA,OU,AA⟩,trivial⟩,AA,AA,AA⟩) fun h=>AY<|Dv h (fun h=>AY<|FC<|by rw[←Ci h];exact⟨[Io ({ Ed with N:=fK.N })],[],⟨⟨1,Au (FY ({ Ed with N:=fK.N })),true,16,AA,AA,AA,Sj,ED AA,OU,AA⟩,trivial⟩,AA,AA,AA⟩) fun h=>AY<|Dv h (fun h=>AY<|FC<|by rw[←Ci h];exact⟨[Io ({ Ed with Allow:=fK.Allow,fV:=fK.fV })],[],⟨⟨1,Au (FY ({ Ed with Allow:=fK.Allow,fV:=fK.fV })),true,16,AA,AA,AA,Sj,ED AA,OU,AA⟩,trivial⟩,AA,AA,AA⟩) fun h=>AY<|Bc h (fun h=>AY<|FC<|by rw[←Ci h];exact⟨[Io ({ Ed with Target:=fK.Target })],[],⟨⟨1,Au (FY ({ Ed with Target:=fK.Target })),true,16,AA,AA,AA,Sj,ED AA,OU,AA⟩,trivial⟩,AA,AA,AA⟩) fun h=>AY<|FC<|by rw[←Ci h];exact⟨[Io Ed],[],⟨⟨1,Au (FY Ed),true,16,AA,AA,AA,Sj,ED AA,OU,AA⟩,trivial⟩,AA,AA,AA⟩
def XO (j:AO):AL AO:=(wV j.Kind j.Content).bind fun q=>some ({ j with Content:=q })
def Xn (aZ r) (h:XO aZ=some r):BL 114 [EL aZ] [] (EL r) []:=BP func114 rfl<|AY<|AU h fun j q h=>AX 4<|.ca (anW aZ.Kind aZ.Content j q)<|aOQ
def aGg (j:AZ) (q:AZ) (k3:(Int->AL AQ)):Int->AL AQ:=fun v2=>(bif v2<(j.length:Int) then(BF j v2).bind fun u=>(BF q v2).bind fun z=>(bif (u != z)then some false else k3 (BA (v2+1)))else some true)
def aMf (j:AZ) (q:AZ):Int->AL AQ:=bI (aGg j q) Aw
def aY (j:AZ) (q:AZ):AL AQ:=(bif ((j.length:Int) != (q.length:Int))then some false else aMf j q 0)
def aDo (dR dS r) (h:aY dR dS=some r):BL 43 [CX dR,CX dS] [] (Aj r) []:=BP func43 rfl<|AY<|Ac<|AX 1<|.p (Bh Ae dR D6 rfl)<|.a 1<|.Z (Bh Ae dS D6 rfl)<|Bc h D7 fun h=>Ac<|AY<|Ak<|FZ (fun v2=>⟨BX 26 [(0,CX dR),(1,CX dS),(5,AV v2)],[],0⟩) _ _ _ (Ag 26 35 []) h<|fun z k3 j v2 h=>Ac<|AX 2<|.Z (Bh Ae dR D6 rfl)<|Cc h (fun h=>Ac<|Ak<|DF h fun I q J u h=>Hr AA AA AA (.a 2<|.p (BU Ae q D6 EF rfl)<|.a 3<|.p (BU Ae u D6 EF rfl)<|.a 2<|.nil _)<|Bc h D7 fun h=>BJ<|.a 3<|.nil<|j _ _ (Ag 26 35 []) h) fun h=>Hl
abbrev GV:=A8 BI
def uD (j:GV) (q:GV) (k3:(Int->AL AQ)):Int->AL AQ:=fun v2=>(bif v2<(j.length:Int) then(BF j v2).bind fun u=>(BF q v2).bind fun z=>(bif (!(u.toList==z.toList))then some false else k3 (BA (v2+1)))else some true)
def aHf (j:GV) (q:GV):Int->AL AQ:=bI (uD j q) Aw
def VP (j:GV) (q:GV):AL AQ:=(bif ((j.length:Int) != (q.length:Int))then some false else aHf j q 0)
def aML (dR dS r) (h:VP dR dS=some r):BL 181 [Ie dR,Ie dS] [] (Aj r) []:=BP func181 rfl<|AY<|Ac<|AX 1<|.p (Bh Dj dR Hq rfl)<|.a 1<|.Z (Bh Dj dS Hq rfl)<|Bc h D7 fun h=>Ac<|AY<|Ak<|FZ (fun v2=>⟨BX 26 [(0,Ie dR),(1,Ie dS),(5,AV v2)],[],0⟩) _ _ _ (Ag 26 35 []) h<|fun z k3 j v2 h=>Ac<|AX 2<|.Z (Bh Dj dR Hq rfl)<|Cc h (fun h=>Ac<|Ak<|DF h fun I q J u h=>Hr AA AA AA (.a 2<|.p (BU Dj q Hq NC rfl)<|.a 3<|.p (BU Dj u Hq NC rfl)<|.a 2<|.nil _)<|Bc h D7 fun h=>BJ<|.a 3<|.nil<|j _ _ (Ag 26 35 []) h) fun h=>Hl
def aDk (j:(Int->AL AQ)) (q:Int) (u:AQ):AL AQ:=(bif u then some false else j (BA (q+1)))
def zZ (j:(Int->AL AQ)) (q:Int) (u:AQ):AL AQ:=(bif u then some false else j (BA (q+1)))
def aA4 (j:DX) (q:DX) (z:(Int->AL AQ)):Int->AL AQ:=fun u=>(bif u<(j.Kinds.length:Int) then(BF j.Kinds u).bind fun I=>(BF q.Kinds u).bind fun J=>(bif (I.Kind != J.Kind)then zZ z u true else(BF j.Kinds u).bind fun L=>(BF q.Kinds u).bind fun M=>zZ z u (L.N != M.N))else(bif (j.User==q.User)then some (j.Message==q.Message)else some false).bind fun O=>(bif O then some (j.State==q.State)else some false).bind fun U=>(bif U then some (j.gV==q.gV)else some false).bind fun Y=>(bif Y then some (j.kY==q.kY)else some false).bind fun Z=>(bif Z then some (j.pR==q.pR)else some false).bind fun x34=>(bif x34 then some (j.iM==q.iM)else some false).bind fun x36=>some x36)
def iq (j:DX) (q:DX):Int->AL AQ:=bI (aA4 j q) Aw
def aCo (j:DX) (q:DX) (M:(Int->AL AQ)):Int->AL AQ:=fun u=>(bif u<(j.Users.length:Int) then(BF j.Users u).bind fun z=>(BF q.Users u).bind fun I=>(bif (!(z.User.toList==I.User.toList))then aDk M u true else(BF j.Users u).bind fun J=>(BF q.Users u).bind fun L=>aDk M u (J.N != L.N))else iq j q 0)
def aBY (j:DX) (q:DX):Int->AL AQ:=bI (aCo j q) Aw
def Z4 (j:DX) (q:DX):AL AQ:=(bif ((j.Users.length:Int) != (q.Users.length:Int))then some true else some ((j.Kinds.length:Int) != (q.Kinds.length:Int))).bind fun u=>(bif u then some false else aBY j q 0)
def amN (dR dS r) (h:Z4 dR dS=some r):BL 182 [N9 dR,N9 dS] [] (Aj r) []:=BP func182 rfl<|AY<|Ac<|AX 2<|.p (Bh FN dR.Users Hu rfl)<|.a 2<|.p (Bh FN dS.Users Hu rfl)<|.a 1<|AU h fun x1 hx1 h=>.mg 14 8 (Aj x1) (.bi hx1 (k2:=fun h=>.a 2<|.p (Bh Fb dR.Kinds IC rfl)<|.a 2<|.Z (Bh Fb dS.Kinds IC rfl)<|EO))<|.bC<|Bc h D7 fun h=>Ac<|AY<|Ak<|FZ (fun v4=>⟨BX 140 [(2,.ptr 0 0),(3,.ptr 1 0),(5,AV v4)],[.box (Au (Gq dR)),.box (Au (Gq dS))],0⟩) _ _ _ (Ag 140 44 [AP 0,AP 1]) h<|fun J39 k5 hk5 v4 h=>Ac<|AX 3<|.Z (Bh FN dR.Users Hu rfl)<|Cc h (fun h=>Ac<|Ak<|Dp (fun s=>∃(v7:AQ),Cj s ⟨BX 140 [(2,.ptr 0 0),(3,.ptr 1 0),(5,AV v4),(57,Aj v7)],[.box (Au (Gq dR)),.box (Au (Gq dS))],0⟩/\aDk k5 v4 v7=some r) (by rintro s ⟨v7,hs,h⟩;exact DW hs<|Bc h D7 fun h=>BJ<|.a 3<|.nil<|hk5 _ _ (Ag 140 44 [AP 0,AP 1]) h)<|fun K9=>DF h fun x10 z x11 I h=>He h (fun j h=>El AA AA AA (.a 3<|.p (BU FN z Hu Nq rfl)<|.a 5<|.p (BU FN I Hu Nq rfl)<|.a 3<|.c (Bo some j)<|.a 14<|.nil _)<|K9 _ ⟨true,Ag 140 144115188075855916 [AP 0,AP 1],h⟩) fun j h=>DF h fun Hz O x14 U h=>El AA AA AA (.a 3<|.p (BU FN z Hu Nq rfl)<|.a 5<|.p (BU FN I Hu Nq rfl)<|.a 3<|.c (Bo some j)<|.a 3<|.p (BU FN O Hu Nq rfl)<|.a 5<|.p (BU FN U Hu Nq rfl)<|.a 4<|.nil _)<|K9 _ ⟨(Hz.N != x14.N),Ag 140 144115188075855916 [AP 0,AP 1],h⟩) fun h=>DC<|Ac<|AY<|Ak<|FZ (fun u=>⟨BX 140 [(2,.ptr 0 0),(3,.ptr 1 0),(6,AV u)],[.box (Au (Gq dR)),.box (Au (Gq dS))],0⟩) _ _ _ (Ag 140 76 [AP 0,AP 1]) h<|fun J38 k16 Y u h=>Ac<|AX 3<|.Z (Bh Fb dR.Kinds IC rfl)<|Cc h (fun h=>Ac<|Ak<|Dp (fun s=>∃(M:AQ),Cj s ⟨BX 140 [(2,.ptr 0 0),(3,.ptr 1 0),(6,AV u),(92,Aj M)],[.box (Au (Gq dR)),.box (Au (Gq dS))],0⟩/\zZ k16 u M=some r) (by rintro s ⟨M,hs,h⟩;exact DW hs<|Bc h D7 fun h=>BJ<|.a 3<|.nil<|Y _ _ (Ag 140 76 [AP 0,AP 1]) h)<|fun Z=>DF h fun x21 J KN L h=>He h (fun q h=>El AA AA AA (.a 3<|.p (BU Fb J IC Nu rfl)<|.a 5<|.p (BU Fb L IC Nu rfl)<|.a 3<|.c (Bo some q)<|.a 14<|.nil _)<|Z _ ⟨true,Ag 140 4951760157141521099596496972 [AP 0,AP 1],h⟩) fun q h=>DF h fun x24 hx24 x25 hx25 h=>El AA AA AA (.a 3<|.p (BU Fb J IC Nu rfl)<|.a 5<|.p (BU Fb L IC Nu rfl)<|.a 3<|.c (Bo some q)<|.a 3<|.p (BU Fb hx24 IC Nu rfl)<|.a 5<|.p (BU Fb hx25 IC Nu rfl)<|.a 4<|.nil _)<|Z _ ⟨(x24.N != x25.N),Ag 140 4951760157141521099596496972 [AP 0,AP 1],h⟩) fun h=>DC<|AX 5<|AU h fun Gs II h=>.mg 98 6 (Aj Gs) (.bi II)<|.a 1<|AU h fun x28 hx28 h=>.mg 106 5 (Aj x28) (Dz hx28)<|.a 1<|AU h fun TK anm h=>.mg 113 5 (Aj TK) (Dz anm)<|.a 1<|AU h fun x32 hx32 h=>.mg 120 5 (Aj x32) (Dz hx32)<|.a 1<|AU h fun x34 hx34 h=>.mg 127 5 (Aj x34) (Dz hx34)<|.a 1<|AU h fun x36 agO h=>.mg 134 5 (Aj x36) (Dz agO)<|.aW<|DN
def VQ (j:CV) (q:CV):AL AQ:=(bif (j.Text.toList==q.Text.toList)then some (j.N==q.N)else some false).bind fun M=>(bif M then some (j.Target==q.Target)else some false).bind fun O=>(bif O then some (j.Thread==q.Thread)else some false).bind fun U=>(bif U then some (j.Via.toList==q.Via.toList)else some false).bind fun Y=>(bif Y then(VP j.Allow q.Allow).bind fun u=>some u else some false).bind fun Z=>(bif Z then(VP j.fV q.fV).bind fun z=>some z else some false).bind fun I=>(bif I then(Z4 j.Levels q.Levels).bind fun J=>some J else some false).bind fun L=>some L
def acZ (dR dS r) (h:VQ dR dS=some r):BL 106 [Io dR,Io dS] [] (Aj r) []:=BP func106 rfl<|AY<|AX 5<|AU h fun x1 J h=>.mg 10 6 (Aj x1) (.bi J)<|.a 1<|AU h fun x3 L h=>.mg 18 5 (Aj x3) (Dz L)<|.a 1<|AU h fun x5 M h=>.mg 25 5 (Aj x5) (Dz M)<|.a 1<|AU h fun x7 O h=>.mg 32 5 (Aj x7) (Dz O)<|.a 1<|AU h fun x9 U h=>.mg 39 5 (Aj x9) (Dz U (fun e i=>by subst e;have h:=i;exact AU h fun Y j h=>.a 4<|.X (aML dR.Allow dS.Allow Y j)<|EO))<|.a 1<|AU h fun Z q h=>.mg 46 5 (Aj Z) (Dz q (fun e i=>by subst e;have h:=i;exact AU h fun x14 u h=>.a 4<|.X (aML dR.fV dS.fV x14 u)<|EO))<|.a 1<|AU h fun x15 z h=>.mg 53 5 (Aj x15) (Dz z (fun e i=>by subst e;have h:=i;exact AU h fun x17 I h=>.a 4<|.X (amN dR.Levels dS.Levels x17 I)<|EO))<|.aW<|DN
def Zd (j:AO) (q:AO):AL AQ:=(bif (j.Id==q.Id)then some (j.Room.toList==q.Room.toList)else some false).bind fun x1=>(bif x1 then some (j.bH.toList==q.bH.toList)else some false).bind fun x3=>(bif x3 then some (j.Kind==q.Kind)else some false).bind fun x5=>(bif x5 then some (j.State==q.State)else some false).bind fun x7=>(bif x7 then some (j.Key.toList==q.Key.toList)else some false).bind fun x9=>(bif x9 then some (j.Time==q.Time)else some false).bind fun u=>(bif u then some (j.Depth==q.Depth)else some false).bind fun z=>(bif z then(aY j.bV q.bV).bind fun I=>some I else some false).bind fun J=>(bif J then(aY j.bZ q.bZ).bind fun L=>some L else some false).bind fun M=>(bif M then(VQ j.Content q.Content).bind fun O=>some O else some false).bind fun U=>(bif U then some (j.Hash==q.Hash)else some false).bind fun Y=>(bif Y then some (j.rQ.Server.toList==q.rQ.Server.toList)else some false).bind fun Z=>(bif Z then some (j.rQ.Sum==q.rQ.Sum)else some false).bind fun x28=>some x28
def oN (dR dS r) (h:Zd dR dS=some r):BL 36 [EL dR,EL dS] [] (Aj r) []:=BP func36 rfl<|AY<|AX 5<|AU h fun x1 Z h=>.mg 10 6 (Aj x1) (.bi Z)<|.a 1<|AU h fun x3 hx3 h=>.mg 18 5 (Aj x3) (Dz hx3)<|.a 1<|AU h fun x5 hx5 h=>.mg 25 5 (Aj x5) (Dz hx5)<|.a 1<|AU h fun x7 hx7 h=>.mg 32 5 (Aj x7) (Dz hx7)<|.a 1<|AU h fun x9 uy h=>.mg 39 5 (Aj x9) (Dz uy)<|.a 1<|AU h fun x11 j h=>.mg 46 5 (Aj x11) (Dz j)<|.a 1<|AU h fun Hz q h=>.mg 53 5 (Aj Hz) (Dz q)<|.a 1<|AU h fun x15 u h=>.mg 60 5 (Aj x15) (Dz u (fun e i=>by subst e;have h:=i;exact AU h fun x17 z h=>.a 4<|.X (aDo dR.bV dS.bV x17 z)<|EO))<|.a 1<|AU h fun x18 I h=>.mg 67 5 (Aj x18) (Dz I (fun e i=>by subst e;have h:=i;exact AU h fun EK J h=>.a 4<|.X (aDo dR.bZ dS.bZ EK J)<|EO))<|.a 1<|AU h fun x21 L h=>.mg 74 5 (Aj x21) (Dz L (fun e i=>by subst e;have h:=i;exact AU h fun x23 M h=>.a 4<|.X (acZ dR.Content dS.Content x23 M)<|EO))<|.a 1<|AU h fun x24 O h=>.mg 81 5 (Aj x24) (Dz O)<|.a 1<|AU h fun Gs U h=>.mg 88 7 (Aj Gs) (Dz U)<|.a 1<|AU h fun x28 Y h=>.mg 97 7 (Aj x28) (Dz Y)<|.aW<|DN
def X0  (z:(Int->AZ->AL AZ)):Int->AZ->AL AZ:=fun j u=>(bif j>=128 then(Oj j 128).bind fun I=>(Dc 1 u [IntKind.u8.wrap (IntKind.u64.wrap (I+128))]).bind fun J=>(uN .u64 j 128).bind fun L=>z L J else(Dc 1 u [IntKind.u8.wrap j]).bind fun q=>some q)
def aMS  :Int->AZ->AL AZ:=aU (X0) Aw
def xg (v2:Int):AL AZ:=aMS v2 []
def rE (j:Int):AL AZ:=(Oq .shl .u64 (IntKind.u64.wrap j) 1).bind fun q=>(bif j<0 then xg (aO .u64 q)else xg q)
def agA (ano r) (h:rE ano=some r):BL 194 [AV ano] [] (.aS 0) [(Ib r)]:=BP func194 rfl<|Ba<|.f (DJ 5 1 rfl)<|.bC<|AU h fun z I h=>AX 2<|.Z (aBU (k:=.u64) (k':=.u64) I rfl)<|Dp (fun s=>∃(v2:Int),Cj s ⟨BX 28 [(3,.d ((kP .u64) v2))],[],0⟩/\xg v2=some r) (by rintro s ⟨v2,hs,h⟩;exact DW hs<|Ba<|.f (DJ 5 1 rfl)<|.bC<|Ac<|Ak<|EI (fun J Y=>⟨BX 28 [(3,.d ((kP .u64) J)),(4,.aS 0)],[(Ib Y)],0⟩) _ _ _ _ (Ag 28 24 [AP 0]) h<|fun Z k5 L J Y h=>Ac<|AY<|Cc h (fun h=>Ak<|DF h fun x7 M x8 O h=>AX 2<|.p (oM (k:=.u64) M rfl)<|.a 2<|.p (Eu JL Qr [DI (IntKind.u8.wrap (IntKind.u64.wrap (x7+128)))] rfl)<|.Y (Eb (k:=0) DI O JL AA (fun _=>rfl) Bf rfl)<|AU h fun x9 U h=>BJ<|.a 1<|.p (aiq (k:=.u64) U rfl)<|.a 1<|.nil<|L _ _ _ (Ag 28 24 [AP 1]) h) fun h=>DC<|AU h fun x10 j h=>AX 3<|.p (Eu JL Qr [DI (IntKind.u8.wrap J)] rfl)<|.Y (Eb (k:=0) DI j JL AA (fun _=>rfl) Bf rfl)<|Rx)<|fun q=>AY<|Bc h (fun h=>BJ<|.a 1<|.p (aSr (k:=.u64) (u:=z) rfl)<|.a 1<|.nil<|q _ ⟨(aO .u64 z),Ag 28 8 [],h⟩) fun h=>q _ ⟨z,Ag 28 8 [],h⟩
def Iz (j:AZ) (q:Int):AL AZ:=(Dc 1 [] j).bind fun u=>(rE q).bind fun z=>(Dc 1 u z).bind fun I=>some I
def O4 (gW Ar r) (h:Iz gW Ar=some r):BL 117 [Ho gW,AV Ar] [] (.aS 0) [(Ib r)]:=BP func117 rfl<|Ba<|.f (DJ 5 1 rfl)<|.bC<|OJ h fun I j z q J u h=>Ba<|.f (Sv JL Qr [] rfl)<|.a 1<|.f (Eb (k:=1) DI j JL AA (fun _=>rfl) Bf rfl)<|.a 1<|.ca (agA Ar z q).view<|.Y (Eb (k:=2) DI u JL AA (fun _=>rfl) Bf rfl)<|aV
def Og (q:AZ) (j:BI):AL AZ:=(Iz q (j.size:Int)).bind fun u=>(Dc 1 u (CG j)).bind fun z=>some z
def jL (gW iQ r) (h:Og gW iQ=some r):BL 116 [Ho gW,Dy iQ] [] (.aS 0) [(Ib r)]:=BP func116 rfl<|Ba<|.f (DJ 5 1 rfl)<|.bC<|DF h fun u j z q h=>AX 3<|.f (x:=.aS 1) (N7 [Ho gW,AV (iQ.size:Int)] (O4 gW (iQ.size:Int) u j) rfl)<|.a 1<|.p (agw (s:=iQ) MQ Yg aF4 rfl)<|.Y (Eb (k:=1) DI q JL AA (fun _=>rfl) Bf rfl)<|Na
def fG (q:AZ) (j:AQ):AL AZ:=(Dc 1 [] q).bind fun u=>(bif j then(Dc 1 u [1]).bind fun z=>some z else(Dc 1 u [0]).bind fun I=>some I)
def aoS (gW MV r) (h:fG gW MV=some r):BL 328 [Ho gW,Aj MV] [] (.aS 0) [(Ib r)]:=BP func328 rfl<|Ba<|.f (DJ 5 1 rfl)<|.bC<|AU h fun z j h=>Ba<|.f (Sv JL Qr [] rfl)<|.a 1<|.Y (Eb (k:=1) DI j JL AA (fun _=>rfl) Bf rfl)<|Ac<|AY<|Bc h (fun h=>AU h fun I q h=>AX 1<|.p (Eu JL Qr [DI 1] rfl)<|.Y (Eb (k:=2) DI q JL AA (fun _=>rfl) Bf rfl)<|aV) fun h=>AU h fun J u h=>AX 1<|.p (Eu JL Qr [DI 0] rfl)<|.Y (Eb (k:=2) DI u JL AA (fun _=>rfl) Bf rfl)<|aV
def Yj (j:GV) (u:(AZ->Int->AL AZ)):AZ->Int->AL AZ:=fun v2 q=>(bif q<(j.length:Int) then(BF j q).bind fun z=>(Og v2 z).bind fun I=>u I (BA (q+1))else some v2)
def aQy (j:GV):AZ->Int->AL AZ:=aU (Yj j) Aw
def jX (q:AZ) (j:GV):AL AZ:=(Iz q (j.length:Int)).bind fun u=>aQy j u 0
def aSp (gW dF r) (h:jX gW dF=some r):BL 329 [Ho gW,Ie dF] [] (.aS 0) [(Ib r)]:=BP func329 rfl<|Ba<|.f (DJ 5 1 rfl)<|.bC<|AU h fun L j h=>AX 2<|.p (Bh Dj dF Hq rfl)<|.Y (x:=.aS 1) (N7 [Ho gW,AV (dF.length:Int)] (O4 gW (dF.length:Int) L j) rfl)<|Ac<|AY<|Ak<|EI (fun v2 J=>⟨BX 24 [(1,Ie dF),(5,.aS 0),(6,AV J)],[(Ib v2)],0⟩) _ _ _ _ (Ag 24 98 [AP 1]) h<|fun U Y q v2 J h=>Ac<|AX 2<|.Z (Bh Dj dF Hq rfl)<|Cc h (fun h=>Ac<|Ak<|DF h fun u z M I h=>BJ<|.a 3<|.p (BU Dj z Hq NC rfl)<|.a 1<|.f (JJ (dM:=[.aS 0,Dy u]) (fC:=[.d (.sl (List.map DI v2)),Dy u]) (jL v2 u M I) (fun x O=>by obtain⟨a,_,rfl⟩:=Ea.1 O;rfl) aKS ⟨⟨5,1,List.map DI v2,AA,rfl⟩,rfl,trivial⟩ rfl rfl)<|.a 1<|.nil<|BJ<|.a 3<|.nil<|q _ _ _ (Ag 24 98 [AP 1]) h) fun h=>TF
def aHN (j:DX):AL AZ:=some [j.User,j.Message,j.State,j.gV,j.kY,j.pR,j.iM]
def amo (ay r) (h:aHN ay=some r):BL 330 [N9 ay] [] (.aS 0) [(EJ r)]:=BP func330 rfl<|AX 1<|.f (DJ 3 1 rfl)<|.bC<|AX 14<|.Y (Sv F7 zero3 [Ae ay.User,Ae ay.Message,Ae ay.State,Ae ay.gV,Ae ay.kY,Ae ay.pR,Ae ay.iM] rfl)<|Na
def zx (q:AZ) (z:(AZ->Int->AL AZ)):AZ->Int->AL AZ:=fun u j=>(bif j<(q.length:Int) then(BF q j).bind fun I=>(Iz u I).bind fun J=>z J (BA (j+1))else some u)
def aID (j:AZ):AZ->Int->AL AZ:=aU (zx j) Aw
def aCE (j:CV) (z:(AZ->Int->AL AZ)):AZ->Int->AL AZ:=fun u q=>(bif q<(j.Levels.Kinds.length:Int) then(BF j.Levels.Kinds q).bind fun I=>(Iz u I.Kind).bind fun J=>(BF j.Levels.Kinds q).bind fun L=>(Iz J L.N).bind fun M=>z M (BA (q+1))else(aHN j.Levels).bind fun O=>aID O u 0)
def aFM (j:CV):AZ->Int->AL AZ:=aU (aCE j) Aw
def aCa (j:CV) (u:(AZ->Int->AL AZ)):AZ->Int->AL AZ:=fun O q=>(bif q<(j.Levels.Users.length:Int) then(BF j.Levels.Users q).bind fun z=>(Og O z.User).bind fun I=>(BF j.Levels.Users q).bind fun J=>(Iz I J.N).bind fun L=>u L (BA (q+1))else(Iz O (j.Levels.Kinds.length:Int)).bind fun M=>aFM j M 0)
def aMn (j:CV):AZ->Int->AL AZ:=aU (aCa j) Aw
def qm (j:CV):AL AZ:=(Og [] j.Text).bind fun q=>(Iz q j.N).bind fun u=>(Iz u j.Target).bind fun z=>(fG z j.Thread).bind fun I=>(Og I j.Via).bind fun J=>(jX J j.Allow).bind fun L=>(jX L j.fV).bind fun M=>(Iz M (j.Levels.Users.length:Int)).bind fun O=>aMn j O 0
def anJ (eY r) (h:qm eY=some r):BL 265 [Io eY] [] (.aS 0) [(Ib r)]:=BP func265 rfl<|AX 1<|.f (DJ 5 1 rfl)<|.bC<|AU h fun x1 hx1 h=>AX 2<|.Y (x:=.aS 2) (N7 [.d (.lit (.slice none 0 0)),Dy eY.Text] (jL [] eY.Text x1 hx1) rfl)<|AU h fun x2 hx2 h=>AX 3<|.Y (JJ (dM:=[.aS 2,AV eY.N]) (fC:=[.d (.sl (List.map DI x1)),AV eY.N]) (O4 x1 eY.N x2 hx2) (fun x j=>MP) Xa ⟨⟨5,1,List.map DI x1,AA,rfl⟩,rfl,trivial⟩ rfl rfl)<|AU h fun x3 hx3 h=>AX 3<|.Y (JJ (dM:=[.aS 3,AV eY.Target]) (fC:=[.d (.sl (List.map DI x2)),AV eY.Target]) (O4 x2 eY.Target x3 hx3) (fun x j=>MP) Xa ⟨⟨5,1,List.map DI x2,AA,rfl⟩,rfl,trivial⟩ rfl rfl)<|AU h fun x4 hx4 h=>AX 3<|.Y (JJ (dM:=[.aS 4,Aj eY.Thread]) (fC:=[.d (.sl (List.map DI x3)),Aj eY.Thread]) (aoS x3 eY.Thread x4 hx4) (fun x j=>MP) alm ⟨⟨5,1,List.map DI x3,AA,rfl⟩,rfl,trivial⟩ rfl rfl)<|AU h fun x5 hx5 h=>AX 3<|.Y (JJ (dM:=[.aS 5,Dy eY.Via]) (fC:=[.d (.sl (List.map DI x4)),Dy eY.Via]) (jL x4 eY.Via x5 hx5) (fun x j=>MP) aKS ⟨⟨5,1,List.map DI x4,AA,rfl⟩,rfl,trivial⟩ rfl rfl)<|AU h fun x6 hx6 h=>AX 3<|.Y (JJ (dM:=[.aS 6,Ie eY.Allow]) (fC:=[.d (.sl (List.map DI x5)),Ie eY.Allow]) (aSp x5 eY.Allow x6 hx6) (fun x j=>MP) aRu ⟨⟨5,1,List.map DI x5,AA,rfl⟩,rfl,trivial⟩ rfl rfl)<|AU h fun x7 hx7 h=>AX 3<|.Y (JJ (dM:=[.aS 7,Ie eY.fV]) (fC:=[.d (.sl (List.map DI x6)),Ie eY.fV]) (aSp x6 eY.fV x7 hx7) (fun x j=>MP) aRu ⟨⟨5,1,List.map DI x6,AA,rfl⟩,rfl,trivial⟩ rfl rfl)<|AY<|AU h fun x8 yK h=>AX 3<|.p (Bh FN eY.Levels.Users Hu rfl)<|.Y (JJ (dM:=[.aS 8,AV (eY.Levels.Users.length:Int)]) (fC:=[.d (.sl (List.map DI x7)),AV (eY.Levels.Users.length:Int)]) (O4 x7 (eY.Levels.Users.length:Int) x8 yK) (fun x j=>MP) Xa ⟨⟨5,1,List.map DI x7,AA,rfl⟩,rfl,trivial⟩ rfl rfl)<|Ac<|AY<|Ak<|EI (fun J v10=>⟨BX 109 [(3,.aS 0),(4,.ptr 1 0),(5,AV v10)],[(Ib J),.box (Au (Gq eY.Levels))],0⟩) _ _ _ _ (Ag 109 56 [AP 10,AP 9]) h<|fun J35 k11 aBm J v10 h=>Ac<|AX 3<|.Z (Bh FN eY.Levels.Users Hu rfl)<|Cc h (fun h=>Ac<|Ak<|DF h fun L avU z anp h=>AX 4<|.p (BU FN avU Hu Nq rfl)<|.a 2<|.Y (JJ (dM:=[.aS 0,Dy L.User]) (fC:=[.d (.sl (List.map DI J)),Dy L.User]) (jL J L.User z anp) (fun x j=>MP) aKS ⟨⟨5,1,List.map DI J,AA,rfl⟩,rfl,trivial⟩ rfl rfl)<|DF h fun M ab7 x16 hx16 h=>BJ<|.a 4<|.p (BU FN ab7 Hu Nq rfl)<|.a 2<|.f (JJ (dM:=[.aS 2,AV M.N]) (fC:=[.d (.sl (List.map DI z)),AV M.N]) (O4 z M.N x16 hx16) (fun x j=>MP) Xa ⟨⟨5,1,List.map DI z,AA,rfl⟩,rfl,trivial⟩ rfl rfl)<|.a 1<|.nil<|BJ<|.a 3<|.nil<|aBm _ _ _ (Ag 109 56 [AP 3,AP 1]) h) fun h=>DC<|AU h fun x17 ab8 h=>AX 3<|.p (Bh Fb eY.Levels.Kinds IC rfl)<|.Y (JJ (dM:=[.aS 0,AV (eY.Levels.Kinds.length:Int)]) (fC:=[.d (.sl (List.map DI J)),AV (eY.Levels.Kinds.length:Int)]) (O4 J (eY.Levels.Kinds.length:Int) x17 ab8) (fun x j=>MP) Xa ⟨⟨5,1,List.map DI J,AA,rfl⟩,rfl,trivial⟩ rfl rfl)<|Ac<|AY<|Ak<|EI (fun q v19=>⟨BX 109 [(3,.aS 0),(4,.ptr 1 0),(6,AV v19)],[(Ib q),.box (Au (Gq eY.Levels))],0⟩) _ _ _ _ (Ag 109 88 [AP 2,AP 1]) h<|fun J34 k20 aBn q v19 h=>Ac<|AX 3<|.Z (Bh Fb eY.Levels.Kinds IC rfl)<|Cc h (fun h=>Ac<|Ak<|DF h fun O QZ I O1 h=>AX 4<|.p (BU Fb QZ IC Nu rfl)<|.a 2<|.Y (JJ (dM:=[.aS 0,AV O.Kind]) (fC:=[.d (.sl (List.map DI q)),AV O.Kind]) (O4 q O.Kind I O1) (fun x j=>MP) Xa ⟨⟨5,1,List.map DI q,AA,rfl⟩,rfl,trivial⟩ rfl rfl)<|DF h fun U hx24 x25 hx25 h=>BJ<|.a 4<|.p (BU Fb hx24 IC Nu rfl)<|.a 2<|.f (JJ (dM:=[.aS 2,AV U.N]) (fC:=[.d (.sl (List.map DI I)),AV U.N]) (O4 I U.N x25 hx25) (fun x j=>MP) Xa ⟨⟨5,1,List.map DI I,AA,rfl⟩,rfl,trivial⟩ rfl rfl)<|.a 1<|.nil<|BJ<|.a 3<|.nil<|aBn _ _ _ (Ag 109 88 [AP 3,AP 1]) h) fun h=>DC<|AU h fun Y II h=>AX 1<|.X (amo eY.Levels Y II).view<|Ac<|AY<|Ak<|EI (fun u v28=>⟨BX 109 [(3,.aS 0),(7,CX Y),(8,AV v28)],[(Ib u)],0⟩) _ _ _ _ (Ag 109 392 [AP 0]) h<|fun J33 k29 anq u v28 h=>Ac<|AX 2<|.Z (Bh Ae Y D6 rfl)<|Cc h (fun h=>Ac<|Ak<|DF h fun Z hx31 x32 hx32 h=>BJ<|.a 3<|.p (BU Ae hx31 D6 EF rfl)<|.a 1<|.f (JJ (dM:=[.aS 0,AV Z]) (fC:=[.d (.sl (List.map DI u)),AV Z]) (O4 u Z x32 hx32) (fun x j=>MP) Xa ⟨⟨5,1,List.map DI u,AA,rfl⟩,rfl,trivial⟩ rfl rfl)<|.a 1<|.nil<|BJ<|.a 3<|.nil<|anq _ _ _ (Ag 109 392 [AP 1]) h) fun h=>TF
def aHu  :AL Int:=some 860922984064492325
def afG  (r:Int) (h:aHu=some r):BL 196 [] [] (AV r) []:=BP func196 rfl<|ZA
def aGN (j:AZ) (u:(Int->Int->AL Int)):Int->Int->AL Int:=fun v2 q=>(bif q<(j.length:Int) then(BF j q).bind fun z=>(Oj (IntKind.u64.wrap ((Ef .xor .u64 v2 (IntKind.u64.wrap z))*1099511628211)) 4611686018427387904).bind fun I=>u I (BA (q+1))else some (BA v2))
def aPE (j:AZ):Int->Int->AL Int:=aU (aGN j) Aw
def aJv (j:Int) (q:AZ):AL Int:=(Oj (IntKind.u64.wrap j) 4611686018427387904).bind fun u=>aPE q u 0
def am3 (ajp dS r) (h:aJv ajp dS=some r):BL 195 [AV ajp,Ho dS] [] (AV r) []:=BP func195 rfl<|AY<|AU h fun M j h=>AX 2<|.Z (oM (k:=.u64) j rfl)<|Ac<|AY<|Ak<|EI (fun v2 J=>⟨BX 27 [(1,Ho dS),(5,.d ((kP .u64) v2)),(6,AV J)],[],0⟩) _ _ _ _ (Ag 27 98 []) h<|fun O U q v2 J h=>Ac<|AX 2<|.Z (Bh DI dS Yg rfl)<|Cc h (fun h=>Ac<|Ak<|DF h fun L z Y I h=>BJ<|.a 3<|.p (BU DI z Yg aJP rfl)<|.a 2<|.p (aaE (k:=.u64) (u:=v2) (v:=(IntKind.u64.wrap L)) rfl)<|.a 1<|.p (oM (k:=.u64) I rfl)<|.a 1<|.nil<|BJ<|.a 3<|.nil<|q _ _ _ (Ag 27 98 []) h) fun h=>Hl
def lg (j:AZ):AL Int:=(aHu).bind fun q=>(aJv q j).bind fun u=>some u
def aSL (gW r) (h:lg gW=some r):BL 119 [Ho gW] [] (AV r) []:=BP func119 rfl<|AY<|DF h fun u j z q h=>Ba<|.ca (afG  u j)<|.a 1<|.X (am3 u gW z q)<|DN
def aCY (j:AO):AL Int:=(qm j.Content).bind fun q=>(lg q).bind fun u=>some u
def abm (aZ r) (h:aCY aZ=some r):BL 193 [EL aZ] [] (AV r) []:=BP func193 rfl<|AY<|DF h fun u j z q h=>AX 2<|.ca (anJ aZ.Content u j).view<|.X (aSL u z q)<|DN
def kV (j:AO):AL AQ:=(aCY j).bind fun q=>some (q==j.Hash)
def qV (aZ r) (h:kV aZ=some r):BL 115 [EL aZ] [] (Aj r) []:=BP func115 rfl<|AY<|AU h fun q j h=>Hr AA AA AA (.a 1<|.ca (abm aZ q j)<|.a 4<|.nil _)<|DN
def tq (j:AQ):AL AQ:=some j
def aBX (j:AO) (q:AO):AL AQ:=(XO j).bind fun z=>(XO q).bind fun I=>(Zd z I).bind fun J=>(bif (!J)then tq true else(kV j).bind fun L=>(bif L then(kV q).bind fun M=>(bif M then(Zd j q).bind fun u=>tq (!u)else tq false)else tq false))
def aC7 (dR dS r) (h:aBX dR dS=some r):BL 42 [EL dR,EL dS] [] (Aj r) []:=BP func42 rfl<|AY<|Dp (fun s=>∃(Z:AQ),Cj s ⟨BX 25 [(4,Aj Z)],[],0⟩/\tq Z=some r) (by rintro s ⟨Z,hs,h⟩;exact DW hs<|DN)<|fun K2=>OJ h fun I q J u Y z h=>He h (fun j h=>El AA AA AA (.a 1<|.ca (Xn dR I q)<|.a 1<|.ca (Xn dS J u)<|.ca (oN I J Y z)<|.a 1<|.c (Bo some j)<|.a 14<|.nil _)<|K2 _ ⟨true,Ag 25 16 [],h⟩) fun j h=>AU h fun x7 L h=>by cases x7 with |true=>exact(have h:=P8 rfl h;AU h fun x9 M h=>by cases x9 with |true=>exact(have h:=P8 rfl h;AU h fun O U h=>El AA AA AA (.a 1<|.ca (Xn dR I q)<|.a 1<|.ca (Xn dS J u)<|.ca (oN I J Y z)<|.a 1<|.c (Bo some j)<|.a 1<|.ca (qV dR true L)<|.a 2<|.ca (qV dS true M)<|.a 4<|.ca (oN dR dS O U)<|.a 4<|.nil _)<|K2 _ ⟨(!O),Ag 25 16 [],h⟩)|false=>exact(have h:=PD rfl h;El AA AA AA (.a 1<|.ca (Xn dR I q)<|.a 1<|.ca (Xn dS J u)<|.ca (oN I J Y z)<|.a 1<|.c (Bo some j)<|.a 1<|.ca (qV dR true L)<|.a 2<|.ca (qV dS false M)<|.a 9<|.nil _)<|K2 _ ⟨false,Ag 25 16 [],h⟩))|false=>exact(have h:=PD rfl h;El AA AA AA (.a 1<|.ca (Xn dR I q)<|.a 1<|.ca (Xn dS J u)<|.ca (oN I J Y z)<|.a 1<|.c (Bo some j)<|.a 1<|.ca (qV dR false L)<|.a 12<|.nil _)<|K2 _ ⟨false,Ag 25 16 [],h⟩)
def OO (j:(Int->AL AQ)) (q:Int) (u:AQ):AL AQ:=(bif u then some false else j (BA (q+1)))
def aIM (u:Int) (j:Aq) (k2:(Int->AL AQ)) (z:(Int->AL AQ)):Int->AL AQ:=fun q=>(bif q<u then(BF j u).bind fun I=>(BF j q).bind fun J=>(bif (!(I.Room.toList==J.Room.toList))then OO z q true else(BF j u).bind fun L=>(BF j q).bind fun M=>(bif (L.Id==M.Id)then(BF j u).bind fun O=>(BF j q).bind fun U=>(aBX O U).bind fun Y=>(bif Y then OO z q true else(BF j u).bind fun Z=>(BF j q).bind fun x21=>(bif (Z.Id != x21.Id)then(BF j u).bind fun x23=>(bif (x23.Kind==1)then(BF j q).bind fun x25=>OO z q (x25.Kind==1)else OO z q false)else OO z q false))else(BF j u).bind fun Gs=>(BF j q).bind fun x27=>(bif (Gs.Id != x27.Id)then(BF j u).bind fun x29=>(bif (x29.Kind==1)then(BF j q).bind fun x31=>OO z q (x31.Kind==1)else OO z q false)else OO z q false)))else k2 (BA (u+1)))
def aNv (q:Int) (j:Aq) (k2:(Int->AL AQ)):Int->AL AQ:=bI (aIM q j k2) Aw
def aFZ (j:Aq) (k2:(Int->AL AQ)):Int->AL AQ:=fun q=>(bif q<(j.length:Int) then aNv q j k2 0 else some true)
def aSS (j:Aq):Int->AL AQ:=bI (aFZ j) Aw
def zO (j:Aq):AL AQ:=aSS j 0
def abU (ay r) (h:zO ay=some r):BL 10 [Bl ay] [] (Aj r) []:=BP func10 rfl<|AY<|Ac<|AY<|Ak<|FZ (fun v1=>⟨BX 80 [(0,Bl ay),(3,AV v1)],[],0⟩) _ _ _ (Ag 80 9 []) h<|fun J33 k2 hk2 v1 h=>Ac<|AX 2<|.Z (Bh Am ay CB rfl)<|Cc h (fun h=>Ac<|Ak<|AY<|Ak<|FZ (fun v4=>⟨BX 80 [(0,Bl ay),(3,AV v1),(4,AV v4)],[],0⟩) _ _ _ (Ag 80 25 []) h<|fun J32 k5 hk5 v4 h=>Ac<|AY<|Cc h (fun h=>Ac<|Ak<|Dp (fun s=>∃(v7:AQ),Cj s ⟨BX 80 [(0,Bl ay),(3,AV v1),(4,AV v4),(79,Aj v7)],[],0⟩/\OO k5 v4 v7=some r) (by rintro s ⟨v7,hs,h⟩;exact DW hs<|Bc h D7 fun h=>BJ<|.a 3<|.nil<|hk5 _ _ (Ag 80 25 []) h)<|fun K9=>DF h fun x10 q x11 u h=>He h (fun j h=>El AA AA AA (.a 2<|.p (BU Am q CB CY rfl)<|.a 4<|.p (BU Am u CB CY rfl)<|.a 3<|.c (Bo some j)<|.a 52<|.nil _)<|K9 _ ⟨true,Ag 80 604462909807314587353113 [],h⟩) fun j h=>DF h fun Hz I x14 J h=>He h (fun z h=>OJ h fun x16 L x17 M x18 O h=>by cases x18 with |true=>exact(have h:=P8 rfl h;El AA AA AA (.a 2<|.p (BU Am q CB CY rfl)<|.a 4<|.p (BU Am u CB CY rfl)<|.a 3<|.c (Bo some j)<|.a 2<|.p (BU Am I CB CY rfl)<|.a 4<|.p (BU Am J CB CY rfl)<|.a 3<|.c (Bo some z)<|.a 2<|.p (BU Am L CB CY rfl)<|.a 3<|.p (BU Am M CB CY rfl)<|.a 1<|.ca (aC7 x16 x17 true O)<|.a 31<|.nil _)<|K9 _ ⟨true,Ag 80 604462909807314587353113 [],h⟩)|false=>exact(have h:=PD rfl h;DF h fun EK Z x21 Nz h=>He h (fun U h=>AU h fun x23 O1 h=>He h (fun avV h=>AU h fun x25 hx25 h=>El AA AA AA (.a 2<|.p (BU Am q CB CY rfl)<|.a 4<|.p (BU Am u CB CY rfl)<|.a 3<|.c (Bo some j)<|.a 2<|.p (BU Am I CB CY rfl)<|.a 4<|.p (BU Am J CB CY rfl)<|.a 3<|.c (Bo some z)<|.a 2<|.p (BU Am L CB CY rfl)<|.a 3<|.p (BU Am M CB CY rfl)<|.a 1<|.ca (aC7 x16 x17 false O)<|.a 5<|.p (BU Am Z CB CY rfl)<|.a 4<|.p (BU Am Nz CB CY rfl)<|.a 3<|.c (Bo some U)<|.a 2<|.p (BU Am O1 CB CY rfl)<|.a 4<|.c (Bo some avV)<|.a 2<|.p (BU Am hx25 CB CY rfl)<|.a 5<|.nil _)<|K9 _ ⟨(x25.Kind==1),Ag 80 604462909807314587353113 [],h⟩) fun avV h=>El AA AA AA (.a 2<|.p (BU Am q CB CY rfl)<|.a 4<|.p (BU Am u CB CY rfl)<|.a 3<|.c (Bo some j)<|.a 2<|.p (BU Am I CB CY rfl)<|.a 4<|.p (BU Am J CB CY rfl)<|.a 3<|.c (Bo some z)<|.a 2<|.p (BU Am L CB CY rfl)<|.a 3<|.p (BU Am M CB CY rfl)<|.a 1<|.ca (aC7 x16 x17 false O)<|.a 5<|.p (BU Am Z CB CY rfl)<|.a 4<|.p (BU Am Nz CB CY rfl)<|.a 3<|.c (Bo some U)<|.a 2<|.p (BU Am O1 CB CY rfl)<|.a 4<|.c (Bo some avV)<|.a 8<|.nil _)<|K9 _ ⟨false,Ag 80 604462909807314587353113 [],h⟩) fun U h=>El AA AA AA (.a 2<|.p (BU Am q CB CY rfl)<|.a 4<|.p (BU Am u CB CY rfl)<|.a 3<|.c (Bo some j)<|.a 2<|.p (BU Am I CB CY rfl)<|.a 4<|.p (BU Am J CB CY rfl)<|.a 3<|.c (Bo some z)<|.a 2<|.p (BU Am L CB CY rfl)<|.a 3<|.p (BU Am M CB CY rfl)<|.a 1<|.ca (aC7 x16 x17 false O)<|.a 5<|.p (BU Am Z CB CY rfl)<|.a 4<|.p (BU Am Nz CB CY rfl)<|.a 3<|.c (Bo some U)<|.a 16<|.nil _)<|K9 _ ⟨false,Ag 80 604462909807314587353113 [],h⟩)) fun z h=>DF h fun Gs II x27 hx27 h=>He h (fun Y h=>AU h fun x29 hx29 h=>He h (fun avW h=>AU h fun x31 hx31 h=>El AA AA AA (.a 2<|.p (BU Am q CB CY rfl)<|.a 4<|.p (BU Am u CB CY rfl)<|.a 3<|.c (Bo some j)<|.a 2<|.p (BU Am I CB CY rfl)<|.a 4<|.p (BU Am J CB CY rfl)<|.a 3<|.c (Bo some z)<|.a 14<|.p (BU Am II CB CY rfl)<|.a 4<|.p (BU Am hx27 CB CY rfl)<|.a 3<|.c (Bo some Y)<|.a 2<|.p (BU Am hx29 CB CY rfl)<|.a 4<|.c (Bo some avW)<|.a 2<|.p (BU Am hx31 CB CY rfl)<|.a 5<|.nil _)<|K9 _ ⟨(x31.Kind==1),Ag 80 604462909807314587353113 [],h⟩) fun avW h=>El AA AA AA (.a 2<|.p (BU Am q CB CY rfl)<|.a 4<|.p (BU Am u CB CY rfl)<|.a 3<|.c (Bo some j)<|.a 2<|.p (BU Am I CB CY rfl)<|.a 4<|.p (BU Am J CB CY rfl)<|.a 3<|.c (Bo some z)<|.a 14<|.p (BU Am II CB CY rfl)<|.a 4<|.p (BU Am hx27 CB CY rfl)<|.a 3<|.c (Bo some Y)<|.a 2<|.p (BU Am hx29 CB CY rfl)<|.a 4<|.c (Bo some avW)<|.a 8<|.nil _)<|K9 _ ⟨false,Ag 80 604462909807314587353113 [],h⟩) fun Y h=>El AA AA AA (.a 2<|.p (BU Am q CB CY rfl)<|.a 4<|.p (BU Am u CB CY rfl)<|.a 3<|.c (Bo some j)<|.a 2<|.p (BU Am I CB CY rfl)<|.a 4<|.p (BU Am J CB CY rfl)<|.a 3<|.c (Bo some z)<|.a 14<|.p (BU Am II CB CY rfl)<|.a 4<|.p (BU Am hx27 CB CY rfl)<|.a 3<|.c (Bo some Y)<|.a 16<|.nil _)<|K9 _ ⟨false,Ag 80 604462909807314587353113 [],h⟩) fun h=>DC<|BJ<|.a 3<|.nil<|hk2 _ _ (Ag 80 9 []) h) fun h=>Hl
def kL (j:AZ):AL AZ:=(Dc 8 [] j).bind fun q=>some q
def aOj (fD r) (h:kL fD=some r):BL 183 [CX fD] [] (.aS 0) [(EJ r)]:=by
 refine BP func183 rfl ?_;unfold kL at h;refine Ba<|.f (DJ 3 1 rfl)<|.bC<|Ac<|lQ (x:=.tmp 3) (t':=27) (d:=4) (es:=List.map Ae fD) 1 rfl (.a 1<|.nil _) AA AA AA D6 AA ?_;intro b j;cases b
 ·clear j;refine MI AA<|FQ ?_;obtain⟨u,q,h⟩:=DT h;refine Ba<|.f (Sv F7 zero3 [] rfl)<|.a 1<|.f (Eb (k:=1) Ae q F7 AA (fun _=>rfl) Bf rfl)<|.aM 1 ?_;rw[←Ci h];exact .ret (FM [AP 2])
 replace j:=dc j;replace h:some []=some r:=iF
 refine QE AA<|Ba<|.f (DJ 3 1 rfl)<|.bC ?_;rw[←Ci h];exact .ret (FM [AP 1])
def Qa (j:AZ):AL AZ:=(kL j).bind fun q=>(OM q).bind fun u=>(WU u).bind fun z=>some z
def Vb (ay r) (h:Qa ay=some r):BL 125 [CX ay] [] (.aS 0) [(EJ r)]:=BP func125 rfl<|Ba<|.f (DJ 3 1 rfl)<|.bC<|AU h fun z j h=>AX 1<|.Y (x:=.aS 1) (N7 [CX ay] (aOj ay z j) rfl)<|AU h fun I q h=>AX 1<|.f (x:=.eH []) (Eh [.ent 1] [.aS 1] (tC z I q) rfl)<|.bC<|AU h fun J u h=>AX 1<|.Y (x:=.aS 2) (Eh [.ent 1] [.aS 1] (aKg I J u) rfl)<|Na
def aGD (j:CJ) (k3:(AZ->Int->AL AZ)):AZ->Int->AL AZ:=fun q v2=>(bif v2<(j.Events.length:Int) then(BF j.Events v2).bind fun u=>(Dc 8 q [u.Id]).bind fun z=>k3 z (BA (v2+1))else(Qa q).bind fun I=>some I)
def aRj (j:CJ):AZ->Int->AL AZ:=aU (aGD j) Aw
def Wn (j:CJ):AL AZ:=aRj j [] 0
def lI (dJ r) (h:Wn dJ=some r):BL 52 [G8 dJ] [] (.aS 0) [(EJ r)]:=BP func52 rfl<|AX 1<|.f (DJ 3 1 rfl)<|.bC<|Ba<|.f (DJ 3 1 rfl)<|.bC<|Ac<|AX 2<|.Z (Bh Am dJ.Events CB rfl)<|Ak<|EI (fun j v2=>⟨BX 21 [(3,.aS 0),(7,Bl dJ.Events),(8,AV (dJ.Events.length:Int)),(9,AV v2)],[(EJ j)],0⟩) _ _ _ _ (Ag 21 904 [AP 2]) h<|fun O k3 q j v2 h=>AY<|Ac<|Cc h (fun h=>Ac<|Ak<|AU h fun J u h=>Ba<|.Z (BU Am u CB CY rfl)<|AU h fun U z h=>BJ<|.a 3<|.p (Eu F7 zero3 [Ae J.Id] rfl)<|.f (Eb (k:=0) Ae z F7 AA (fun _=>rfl) Bf rfl)<|.a 1<|.nil<|BJ<|.a 2<|.nil<|q _ _ _ (Ag 21 904 [AP 2]) h) fun h=>DC<|AU h fun L I h=>AX 1<|.Y (JJ (dM:=[.aS 0]) (fC:=[.d (.sl (List.map Ae j))]) (Vb j L I) (fun x M=>by obtain⟨a,_,rfl⟩:=Ea.1 M;rfl) uT ⟨⟨3,1,List.map Ae j,AA,rfl⟩,trivial⟩ rfl rfl)<|Rx
def cmp_isNaN_int (j:Int):AL AQ:=some (j != j)
def aaR (CO r) (h:cmp_isNaN_int CO=some r):BL 268 [AV CO] [] (Aj r) []:=BP func268 rfl<|ZA
def cmp_Less_int (j:Int) (q:Int):AL AQ:=(cmp_isNaN_int j).bind fun u=>(bif u then(cmp_isNaN_int q).bind fun z=>some (!z)else some false).bind fun I=>(bif I then some true else some (decide (j<q))).bind fun J=>some J
def agb (CO avX r) (h:cmp_Less_int CO avX=some r):BL 199 [AV CO,AV avX] [] (Aj r) []:=BP func199 rfl<|AY<|AU h fun I j h=>AX 1<|.ca (aaR CO I j)<|.a 1<|AU h fun J q h=>.mg 8 3 (Aj J) (Dz q (fun e i=>by subst e;have h:=i;exact AU h fun L u h=>.a 1<|.X (aaR avX L u)<|EO))<|.a 1<|AU h fun M z h=>.mg 13 3 (Aj M) (Dz z)<|.aW<|DN
def aA7 (j:Int):AL AQ:=some (j != j)
def aMI (CO r) (h:aA7 CO=some r):BL 200 [AV CO] [] (Aj r) []:=BP func200 rfl<|ZA
def aLr (q:AZ) (j:Int) (k3:(Int->Int->AL (Int×AQ))):Int->Int->AL (Int×AQ):=fun u v2=>(bif u<v2 then(Oq .shr .u64 (IntKind.u64.wrap (BA (u+v2))) 1).bind fun z=>(BF q (BA z)).bind fun Y=>(cmp_Less_int Y j).bind fun Z=>(bif Z then k3 (BA ((BA z)+1)) v2 else k3 u (BA z))else(bif u<(q.length:Int) then(BF q u).bind fun I=>(bif (I==j)then some true else(BF q u).bind fun J=>(aA7 J).bind fun L=>(bif L then(aA7 j).bind fun M=>some M else some false).bind fun O=>some O).bind fun U=>some U else some false).bind fun x9=>some (u,x9))
def aR9 (q:AZ) (j:Int):Int->Int->AL (Int×AQ):=aU (aLr q j) Aw
def Fn2 (q:AZ) (j:Int):AL (Int×AQ):=aR9 q j 0 (q.length:Int)
def agW (CO TL r) (h:Fn2 CO TL=some r):BL 126 [CX CO,AV TL] [] (.eH [AV r.1,Aj r.2]) []:=BP func126 rfl<|AY<|AX 1<|.Z (Bh Ae CO D6 rfl)<|AY<|Ac<|Ak<|EI (fun v1 v2=>⟨BX 54 [(0,CX CO),(1,AV TL),(6,AV (CO.length:Int)),(7,AV v1),(8,AV v2)],[],0⟩) _ _ _ _ (Ag 54 451 []) h<|fun J19 k3 j v1 v2 h=>Ac<|AY<|Cc h (fun h=>Ak<|AU h fun x5 M h=>AX 4<|.Z (aSY (k:=.u64) (k':=.u64) M rfl)<|DF h fun x6 O x7 U h=>AX 2<|.p (BU Ae O D6 EF rfl)<|.a 2<|.ca (agb x6 TL x7 U)<|.bC<|Dv h (fun h=>BJ<|.a 3<|.nil<|j _ _ _ (Ag 54 451 []) h) fun h=>BJ<|.a 2<|.nil<|j _ _ _ (Ag 54 451 []) h) fun h=>DC<|AX 4<|AU h fun x9 Y h=>.mg 35 18 (Aj x9) (.bi Y (fun h=>AU h fun x11 q h=>.a 2<|.p (BU Ae q D6 EF rfl)<|.a 3<|AU h fun Z u h=>.mg 42 10 (Aj Z) (.bi u (k2:=fun h=>DF h fun x14 z x15 I h=>.a 2<|.p (BU Ae z D6 EF rfl)<|.a 1<|.ca (aMI x14 x15 I)<|.a 1<|AU h fun x16 J h=>.mg 49 2 (Aj x16) (Dz J (fun e i=>by subst e;have h:=i;exact AU h fun x18 L h=>.a 1<|.X (aMI TL x18 L)<|EO))<|.aW<|EO))<|.aW<|EO))<|.aW<|DN
def xQ (j:(AZ->Int->AL AZ)) (q:Int) (u:AZ):AL AZ:=j u (BA (q+1))
def aG6 (I:AZ) (M:AZ) (J:(AZ->Int->AL AZ)):AZ->Int->AL AZ:=fun q j=>(bif j<(I.length:Int) then(BF I j).bind fun L=>(Fn2 M L).bind fun u=>(bif (!u.2)then(Dc 8 q [L]).bind fun z=>xQ J j z else xQ J j q)else some q)
def aPF (j:AZ) (q:AZ):AZ->Int->AL AZ:=aU (aG6 j q) Aw
def VW (j:AZ) (q:AZ):AL AZ:=(Qa q).bind fun u=>(Qa j).bind fun z=>aPF z u [] 0
def jI (dR dS r) (h:VW dR dS=some r):BL 51 [CX dR,CX dS] [] (.aS 0) [(EJ r)]:=BP func51 rfl<|Ba<|.f (DJ 3 1 rfl)<|.bC<|AU h fun z J h=>AX 1<|.X (Vb dS z J).view<|Ba<|.f (DJ 3 1 rfl)<|.bC<|Ac<|AU h fun j L h=>AX 1<|.ca (Vb dR j L).view<|.Z (Bh Ae j D6 rfl)<|Ak<|EI (fun M I=>⟨BX 34 [(5,CX z),(6,.aS 0),(14,CX j),(15,AV (j.length:Int)),(16,AV I)],[(EJ M)],0⟩) _ _ _ _ (Ag 34 114784 [AP 1]) h<|fun J13 k5 O M I h=>AY<|Ac<|Cc h (fun h=>Dp (fun s=>∃(U:(A8 Int)),Cj s ⟨BX 34 [(5,CX z),(6,.aS 0),(14,CX j),(15,AV (j.length:Int)),(16,AV I)],[(EJ U)],0⟩/\xQ k5 I U=some r) (by rintro s ⟨U,hs,h⟩;exact DW hs<|BJ<|.a 2<|.nil<|O _ _ _ (Ag 34 114784 [AP 0]) h)<|fun K8=>Ak<|AU h fun x9 Y h=>Ba<|.Z (BU Ae Y D6 EF rfl)<|AU h fun Z q h=>AX 2<|.X (agW z x9 Z q)<|AY<|Bc h (fun h=>AU h fun x12 u h=>BJ<|.a 2<|.p (Eu F7 zero3 [Ae x9] rfl)<|.f (Eb (k:=0) Ae u F7 AA (fun _=>rfl) Bf rfl)<|.a 1<|.nil<|K8 _ ⟨x12,Ag 34 114784 [AP 1],h⟩) fun h=>K8 _ ⟨M,Ag 34 114784 [AP 0],h⟩) fun h=>TF
def aAd (j:AZ) (q:AZ):AL AZ:=(kL j).bind fun u=>(Dc 8 u q).bind fun z=>(Qa z).bind fun I=>some I
def alH (dR dS r) (h:aAd dR dS=some r):BL 107 [CX dR,CX dS] [] (.aS 0) [(EJ r)]:=BP func107 rfl<|Ba<|.f (DJ 3 1 rfl)<|.bC<|OJ h fun I j q u J z h=>AX 1<|.f (x:=.aS 1) (N7 [CX dR] (aOj dR I j) rfl)<|.a 1<|.f (Eb (k:=1) Ae u F7 AA (fun _=>rfl) Bf rfl)<|.conv _ (ML (e:=3) (s:=1) 2 (xs:=List.map Ae q) AA)<|.Y (x:=.aS 3) (N7 [CX q] (Vb q J z) rfl)<|aV
def aEe (j:CJ) (q:CJ):AL AZ:=(Wn j).bind fun u=>(Wn q).bind fun z=>(VW u z).bind fun I=>(VW z u).bind fun J=>(aAd I J).bind fun L=>some L
def aQF (dR dS r) (h:aEe dR dS=some r):BL 44 [G8 dR,G8 dS] [] (.aS 0) [(EJ r)]:=BP func44 rfl<|AX 2<|.f (DJ 3 1 rfl)<|.bC<|DF h fun j q u z h=>Hr AA AA AA (.a 1<|.ca (lI dR j q).view<|.a 1<|.ca (lI dS u z).view<|.a 2<|.nil _)<|OJ h fun I J L M U O h=>AX 2<|.ca (jI j u I J).view<|.a 2<|.ca (jI u j L M).view<|.Y (x:=.aS 3) (N7 [CX I,CX L] (alH I L U O) rfl)<|aV
def aRk (j:CJ) (q:CJ):AL AZ:=(Wn j).bind fun u=>(Wn q).bind fun z=>(VW u z).bind fun I=>(VW u I).bind fun J=>some J
def am9 (dR dS r) (h:aRk dR dS=some r):BL 45 [G8 dR,G8 dS] [] (.aS 0) [(EJ r)]:=BP func45 rfl<|AX 2<|.f (DJ 3 1 rfl)<|.bC<|AU h fun j q h=>AX 1<|.X (lI dR j q).view<|OJ h fun L u z I M J h=>AX 3<|.ca (lI dS L u).view<|.ca (jI j L z I).view<|.Y (x:=.aS 3) (N7 [CX j,CX z] (jI j z M J) rfl)<|aV
def ZJ (j:CJ) (q:CJ):AL Int:=(Wn q).bind fun u=>(Wn j).bind fun z=>(VW u z).bind fun I=>some (I.length:Int)
def aCK (dR dS r) (h:ZJ dR dS=some r):BL 15 [G8 dR,G8 dS] [] (AV r) []:=BP func15 rfl<|AY<|OJ h fun z j I q J u h=>Hr AA AA AA (.a 1<|.ca (lI dS z j).view<|.a 1<|.ca (lI dR I q).view<|.ca (jI z I J u).view<|.p (Bh Ae J D6 rfl)<|.a 1<|.nil _)<|DN
def bF (j:CJ) (q:CJ):AL AQ:=(aEe j q).bind fun u=>some ((u.length:Int)==0)
def sW (dR dS r) (h:bF dR dS=some r):BL 14 [G8 dR,G8 dS] [] (Aj r) []:=BP func14 rfl<|AY<|AU h fun q j h=>AX 2<|.ca (aQF dR dS q j).view<|.Z (Bh Ae q D6 rfl)<|DN
def XV (j:AZ) (q:Int):AL AZ:=(Ir 1 0 (j.length:Int) (BA ((j.length:Int)+q))).bind fun u=>some (gCopy u j)
def pO (gW aqc r) (h:XV gW aqc=some r):BL 121 [Ho gW,AV aqc] [] (.aS 0) [(Ib r)]:=BP func121 rfl<|Ba<|.f (DJ 5 1 rfl)<|.bC<|AU h fun q j h=>AX 1<|.p (Bh DI gW Yg rfl)<|.a 1<|.p (Bh DI gW Yg rfl)<|.a 2<|.Y (Xr DI 0 j JL Qr AA AA AA Bf rfl)<|AX 2<|.f (ahY (k:=1) DI q gW JL AA (fun _=>rfl) rfl)<|.bC<|AY<|Rx
def WV  (u:(AZ->Int->AL AZ)):AZ->Int->AL AZ:=fun q j=>(bif j>=128 then(Dc 1 q [Ef .or .u8 (IntKind.u8.wrap j) 128]).bind fun z=>(Oq .shr .u64 j 7).bind fun I=>u z I else(Dc 1 q [IntKind.u8.wrap j]).bind fun J=>some J)
def aRM  :AZ->Int->AL AZ:=aU (WV) Aw
def aAC (j:AZ) (v2:Int):AL AZ:=aRM j v2
def Xd (j:AZ) (q:Int):AL AZ:=(Oq .shl .u64 (IntKind.u64.wrap q) 1).bind fun u=>(bif q<0 then aAC j (aO .u64 u)else aAC j u)
def pJ (gW Ar r) (h:Xd gW Ar=some r):BL 122 [.aS 0,AV Ar] [(Ib gW)] (.aS 1) [.dead,(Ib r)]:=BP func122 rfl<|Ba<|.f (DJ 5 1 rfl)<|.bC<|AU h fun z I h=>AX 2<|.Z (aBU (k:=.u64) (k':=.u64) I rfl)<|Dp (fun s=>∃(v2:Int),Cj s ⟨BX 28 [(0,.aS 1),(5,.d ((kP .u64) v2))],[.dead,(Ib gW)],1⟩/\aAC gW v2=some r) (by rintro s ⟨v2,hs,h⟩;exact DW hs<|Ac<|Ak<|EI (fun U j=>⟨BX 28 [(0,.aS 1),(5,.d ((kP .u64) j))],[.dead,(Ib U)],1⟩) _ _ _ _ (Ag 28 33 [(0,false),AP 1]) h<|fun Y Z J U j h=>Ac<|AY<|Cc h (fun h=>Ak<|AU h fun x7 L h=>AX 3<|.p (XH (k:=.u8) (u:=(IntKind.u8.wrap j)) (v:=128) rfl)<|.p (Eu JL Qr [DI (Ef .or .u8 (IntKind.u8.wrap j) 128)] rfl)<|.Y (Eb (k:=1) DI L JL AA (fun _=>rfl) Bf rfl)<|AU h fun x8 M h=>BJ<|.a 1<|.p (aSY (k:=.u64) (k':=.u64) M rfl)<|.a 1<|.nil<|J _ _ _ (Ag 28 33 [(0,false),AP 2]) h) fun h=>DC<|AU h fun x9 O h=>AX 3<|.p (Eu JL Qr [DI (IntKind.u8.wrap j)] rfl)<|.Y (Eb (k:=1) DI O JL AA (fun _=>rfl) Bf rfl)<|by cases h;exact .ret (FM [(0,false),AP 2]))<|fun q=>AY<|Bc h (fun h=>BJ<|.a 1<|.p (aSr (k:=.u64) (u:=z) rfl)<|.a 1<|.nil<|q _ ⟨(aO .u64 z),Ag 28 33 [(0,false),AP 0],h⟩) fun h=>q _ ⟨z,Ag 28 33 [(0,false),AP 0],h⟩
def uP (q:AZ) (j:BI):AL AZ:=(Xd q (j.size:Int)).bind fun u=>(Dc 1 u (CG j)).bind fun z=>some z
def aS5 (gW iQ r) (h:uP gW iQ=some r):BL 120 [.aS 0,Dy iQ] [(Ib gW)] (.aS 1) [.dead,(Ib r)]:=BP func120 rfl<|Ba<|.f (DJ 5 1 rfl)<|.bC<|DF h fun u j z q h=>AX 3<|.f (x:=.aS 2) (Eh [.ent 0] [.aS 0,AV (iQ.size:Int)] (pJ gW (iQ.size:Int) u j) rfl)<|.a 1<|.Y (apK (k:=2) q JL Qr MQ AA rfl)<|by cases h;exact .ret (FM [(0,false),AP 3])
def P6 (q:AZ) (j:BI):AL AZ:=(XV q (BA ((j.size:Int)+10))).bind fun u=>(uP u j).bind fun z=>some z
def jJ (gW iQ r) (h:P6 gW iQ=some r):BL 47 [Ho gW,Dy iQ] [] (.aS 0) [(Ib r)]:=BP func47 rfl<|Ba<|.f (DJ 5 1 rfl)<|.bC<|DF h fun u j z q h=>AX 4<|.f (x:=.aS 1) (N7 [Ho gW,AV (BA ((iQ.size:Int)+10))] (pO gW (BA ((iQ.size:Int)+10)) u j) rfl)<|.a 1<|.Y (x:=.aS 2) (Eh [.ent 1] [.aS 1,Dy iQ] (aS5 u iQ z q) rfl)<|Na
def Jc (j:AZ) (q:Int):AL AZ:=(XV j 10).bind fun u=>(Xd u q).bind fun z=>some z
def Oi (gW Ar r) (h:Jc gW Ar=some r):BL 48 [Ho gW,AV Ar] [] (.aS 0) [(Ib r)]:=BP func48 rfl<|Ba<|.f (DJ 5 1 rfl)<|.bC<|DF h fun u j z q h=>AX 1<|.f (x:=.aS 1) (N7 [Ho gW,AV 10] (pO gW 10 u j) rfl)<|.a 1<|.Y (x:=.aS 2) (Eh [.ent 1] [.aS 1,AV Ar] (pJ u Ar z q) rfl)<|Na
def U8 (j:CJ) (q:Int) (k3:(Int->Ey->AL (Ey×AQ))):Int->Ey->AL (Ey×AQ):=fun u v2=>(bif u<(j.Rows.length:Int) then(BF j.Rows u).bind fun z=>(bif (z.Id==q)then some (z,true)else k3 (BA (u+1)) v2)else some (OA,false))
def aPH (q:CJ) (j:Int):Int->Ey->AL (Ey×AQ):=aU (U8 q j) Aw
def YW (q:CJ) (j:Int):AL (Ey×AQ):=aPH q j 0 OA
def aIx (dJ gQ r) (h:YW dJ gQ=some r):BL 32 [G8 dJ,AV gQ] [] (.eH [U3 r.1,Aj r.2]) []:=BP func32 rfl<|AY<|Ac<|AX 2<|.Z (Bh I8 dJ.Rows gY rfl)<|Ak<|EI (fun z v2=>⟨BX 22 [(1,AV gQ),(4,.ptr 0 0),(9,aAI dJ.Rows),(10,AV (dJ.Rows.length:Int)),(11,AV z)],[.box (Au (I8 v2))],0⟩) _ _ _ _ (Ag 22 3602 [AP 1]) h<|fun J k3 j z v2 h=>AY<|Ac<|Cc h (fun h=>Ac<|Ak<|AU h fun I q h=>Ba<|.Z (BU I8 q gY XL rfl)<|AY<|Bc h (fun h=>AY<|FC<|by rw[←Ci h];exact⟨[U3 I,Aj true],[],⟨⟨0,Au (I8 I),true,4,AA,AA,AA,XL,ED AA,Zi,AA⟩,Gu AA,trivial⟩,AA,AA,AA⟩) fun h=>BJ<|.a 2<|.nil<|j _ _ _ (Ag 22 3602 [AP 0]) h) fun h=>DC<|AY<|FC<|by rw[←Ci h];exact⟨[U3 OA,Aj false],[],⟨⟨0,Au (I8 OA),true,4,AA,AA,AA,XL,ED AA,Zi,AA⟩,Gu AA,trivial⟩,AA,AA,AA⟩
def aiQ  :Ap:=⟨BX 23 [],[],0⟩
def wK  :AL Int:=some 4
def XJ (q:CJ) (j:Int):AL Int:=(YW q j).bind fun u=>(bif (!u.2)then some 0 else(bif (u.1.Status==3)then wK else(bif (u.1.Status==4)then wK else some u.1.Status)))
def aio (dJ gQ r) (h:XJ dJ gQ=some r):BL 49 [G8 dJ,AV gQ] [] (AV r) []:=BP func49 rfl<|AY<|AU h fun q j h=>AX 2<|.X (aIx dJ gQ q j)<|Ac<|AY<|Bc h D7 fun h=>Ac<|AY<|Ak<|Dp (fun s=>Cj s (aiQ )/\wK=some r) aNL<|fun K3=>Ak<|Ak<|Ac<|Ac<|AY<|Bc h (fun h=>DC<|K3 _ ⟨Ag 23 0 [],h⟩) fun h=>AY<|Bc h (fun h=>DC<|K3 _ ⟨Ag 23 0 [],h⟩) fun h=>Hl
def xk  :AL Int:=some 860922984064492325
def ah5  (r:Int) (h:xk=some r):BL 124 [] [] (AV r) []:=BP func124 rfl<|ZA
def rU (j:AZ) (k3:(Int->Int->AL Int)):Int->Int->AL Int:=fun q v2=>(bif v2<(j.length:Int) then(BF j v2).bind fun u=>k3 (Ef .and .u64 (IntKind.u64.wrap ((Ef .xor .u64 q (IntKind.u64.wrap u))*1099511628211)) 4611686018427387903) (BA (v2+1))else some (BA q))
def aGG (j:AZ):Int->Int->AL Int:=aU (rU j) Aw
def aD5 (j:Int) (q:AZ):AL Int:=aGG q (Ef .and .u64 (IntKind.u64.wrap j) 4611686018427387903) 0
def ajK (ajp dS r) (h:aD5 ajp dS=some r):BL 123 [AV ajp,Ho dS] [] (AV r) []:=BP func123 rfl<|AY<|AX 2<|.Z (Qu (k:=.u64) (u:=(IntKind.u64.wrap ajp)) (v:=4611686018427387903) rfl)<|Ac<|AX 1<|.Z (Bh DI dS Yg rfl)<|Ak<|EI (fun j v2=>⟨BX 26 [(5,.d ((kP .u64) j)),(11,Ho dS),(12,AV (dS.length:Int)),(13,AV v2)],[],0⟩) _ _ _ _ (Ag 26 14368 []) h<|fun J k3 q j v2 h=>AY<|Ac<|Cc h (fun h=>Ac<|Ak<|AU h fun I z h=>Ba<|.Z (BU DI z Yg aJP rfl)<|BJ<|.a 3<|.p (aaE (k:=.u64) (u:=j) (v:=(IntKind.u64.wrap I)) rfl)<|.a 1<|.p (Qu (k:=.u64) (u:=(IntKind.u64.wrap ((Ef .xor .u64 j (IntKind.u64.wrap I))*1099511628211))) (v:=4611686018427387903) rfl)<|.a 1<|.nil<|BJ<|.a 2<|.nil<|q _ _ _ (Ag 26 14368 []) h) fun h=>Hl
def XQ (j:AZ):AL Int:=(xk).bind fun q=>(aD5 q j).bind fun u=>some u
def aJT (gW r) (h:XQ gW=some r):BL 50 [Ho gW] [] (AV r) []:=BP func50 rfl<|AY<|DF h fun u j z q h=>Ba<|.ca (ah5  u j)<|.a 1<|.X (ajK u gW z q)<|DN
def lZ (j:CJ) (I:(AZ->Int->AL Int)):AZ->Int->AL Int:=fun z q=>(bif q<(j.State.length:Int) then(BF j.State q).bind fun u=>(Jc z u.Kind).bind fun J=>(P6 J u.Key).bind fun L=>(Jc L u.Id).bind fun M=>I M (BA (q+1))else(XQ z).bind fun O=>some O)
def wM (j:CJ):AZ->Int->AL Int:=aU (lZ j) Aw
def jF (j:CJ) (L:(AZ->Int->AL Int)):AZ->Int->AL Int:=fun I q=>(bif q<(j.Events.length:Int) then(BF j.Events q).bind fun J=>(Jc I J.Id).bind fun M=>(XJ j J.Id).bind fun O=>(Jc M O).bind fun u=>L u (BA (q+1))else(Jc I (j.State.length:Int)).bind fun z=>wM j z 0)
def aJu (j:CJ):AZ->Int->AL Int:=aU (jF j) Aw
def PZ (j:CJ):AL Int:=(P6 [] j.Id).bind fun q=>(Jc q (j.Events.length:Int)).bind fun u=>aJu j u 0
def Sr (dJ r) (h:PZ dJ=some r):BL 13 [G8 dJ] [] (AV r) []:=BP func13 rfl<|AY<|AU h fun x1 hx1 h=>AX 2<|.Z (x:=(Ho x1)) (aHt [.d (.lit (.slice none 0 0)),Dy dJ.Id] (jJ [] dJ.Id x1 hx1).view rfl)<|AU h fun x2 hx2 h=>AX 3<|.p (Bh Am dJ.Events CB rfl)<|.X (Oi x1 (dJ.Events.length:Int) x2 hx2).view<|Ac<|AX 2<|.Z (Bh Am dJ.Events CB rfl)<|Ak<|EI (fun v3 v4=>⟨BX 61 [(1,.ptr 0 0),(3,Ho v3),(17,Bl dJ.Events),(18,AV (dJ.Events.length:Int)),(19,AV v4)],[.box (Au (F9 dJ))],0⟩) _ _ _ _ (Ag 61 917514 [AP 0]) h<|fun J22 k5 hk5 v3 v4 h=>AY<|Ac<|Cc h (fun h=>Ac<|Ak<|AU h fun x7 hx7 h=>Ba<|.Z (BU Am hx7 CB CY rfl)<|AU h fun x8 yK h=>AX 3<|.X (Oi v3 x7.Id x8 yK).view<|DF h fun x9 uy x10 u h=>BJ<|.a 4<|.ca (aio dJ x7.Id x9 uy)<|.ca (Oi x8 x9 x10 u).view<|.a 1<|.nil<|BJ<|.a 2<|.nil<|hk5 _ _ _ (Ag 61 917514 [AP 0]) h) fun h=>DC<|AU h fun x11 z h=>AX 3<|.p (Bh C9 dJ.State KH rfl)<|.X (Oi v3 (dJ.State.length:Int) x11 z).view<|Ac<|AX 2<|.Z (Bh C9 dJ.State KH rfl)<|Ak<|EI (fun j I=>⟨BX 61 [(3,Ho j),(40,Eo dJ.State),(41,AV (dJ.State.length:Int)),(42,AV I)],[],0⟩) _ _ _ _ (Ag 61 7696581394440 []) h<|fun J21 k14 J j I h=>AY<|Ac<|Cc h (fun h=>Ac<|Ak<|AU h fun q L h=>Ba<|.Z (BU C9 L KH OX rfl)<|AU h fun M O h=>AX 3<|.X (Oi j q.Kind M O).view<|AU h fun U Y h=>AX 3<|.X (jJ M q.Key U Y).view<|AU h fun x19 Z h=>BJ<|.a 3<|.ca (Oi U q.Id x19 Z).view<|.a 1<|.nil<|BJ<|.a 2<|.nil<|J _ _ _ (Ag 61 7696581394440 []) h) fun h=>DC<|AU h fun EK E8 h=>AX 1<|.X (aJT j EK E8)<|DN
def ahp (j:CJ) (q:Int) (k3:(Int->Ey->AL (Ey×AQ))):Int->Ey->AL (Ey×AQ):=fun u v2=>(bif u<(j.Rows.length:Int) then(BF j.Rows u).bind fun z=>(bif (z.Id==q)then(BF j.Rows u).bind fun I=>some (I,true)else k3 (BA (u+1)) v2)else some (OA,false))
def aem (q:CJ) (j:Int):Int->Ey->AL (Ey×AQ):=aU (ahp q j) Aw
def aMr (q:CJ) (j:Int):AL (Ey×AQ):=aem q j 0 OA
def akO (dJ gQ r) (h:aMr dJ gQ=some r):BL 33 [G8 dJ,AV gQ] [] (.eH [U3 r.1,Aj r.2]) []:=BP func33 rfl<|AY<|Ac<|AY<|Ak<|EI (fun I v2=>⟨BX 28 [(1,AV gQ),(2,.ptr 0 0),(4,.ptr 1 0),(6,AV I)],[.box (Au (F9 dJ)),.box (Au (I8 v2))],0⟩) _ _ _ _ (Ag 28 86 [AP 0,AP 1]) h<|fun L k3 j I v2 h=>Ac<|AX 3<|.Z (Bh I8 dJ.Rows gY rfl)<|Cc h (fun h=>Ac<|Ak<|AU h fun M q h=>AX 3<|.Z (BU I8 q gY XL rfl)<|Bc h (fun h=>AU h fun J u h=>AX 3<|.Z (BU I8 u gY XL rfl)<|FC<|by rw[←Ci h];exact⟨[U3 J,Aj true],[],⟨⟨1,Au (I8 J),true,4,AA,AA,AA,XL,ED AA,Wx,AA⟩,Gu AA,trivial⟩,AA,AA,AA⟩) fun h=>BJ<|.a 3<|.nil<|j _ _ _ (Ag 28 86 [AP 0,AP 1]) h) fun h=>DC<|AY<|FC<|by rw[←Ci h];exact⟨[U3 OA,Aj false],[],⟨⟨1,Au (I8 OA),true,4,AA,AA,AA,XL,ED AA,Wx,AA⟩,Gu AA,trivial⟩,AA,AA,AA⟩
def aMZ (q:CJ) (j:Int):AL Int:=(aMr q j).bind fun u=>(bif (!u.2)then some 0 else(bif (u.1.Status==3)then some 4 else some u.1.Status))
def ahf (dJ gQ r) (h:aMZ dJ gQ=some r):BL 118 [G8 dJ,AV gQ] [] (AV r) []:=BP func118 rfl<|AY<|AU h fun q j h=>AX 2<|.X (akO dJ gQ q j)<|Ac<|AY<|Bc h D7 fun h=>Ac<|AY<|Ql
def aiT (j:CJ) (z:(AZ->Int->AL Int)):AZ->Int->AL Int:=fun u q=>(bif q<(j.State.length:Int) then(BF j.State q).bind fun I=>(Iz u I.Kind).bind fun J=>(BF j.State q).bind fun L=>(Og J L.Key).bind fun M=>(BF j.State q).bind fun O=>(Iz M O.Id).bind fun U=>z U (BA (q+1))else(lg u).bind fun Y=>some Y)
def ajr (j:CJ):AZ->Int->AL Int:=aU (aiT j) Aw
def acd (j:CJ) (L:(AZ->Int->AL Int)):AZ->Int->AL Int:=fun J q=>(bif q<(j.Events.length:Int) then(BF j.Events q).bind fun M=>(Iz J M.Id).bind fun O=>(BF j.Events q).bind fun U=>(aMZ j U.Id).bind fun u=>(Iz O u).bind fun z=>L z (BA (q+1))else(Iz J (j.State.length:Int)).bind fun I=>ajr j I 0)
def amf (j:CJ):AZ->Int->AL Int:=aU (acd j) Aw
def aPa (j:CJ):AL Int:=(Og [] j.Id).bind fun q=>(Iz q (j.Events.length:Int)).bind fun u=>amf j u 0
def afE (dJ r) (h:aPa dJ=some r):BL 46 [G8 dJ] [] (AV r) []:=BP func46 rfl<|AY<|AU h fun x1 hx1 h=>AX 2<|.Z (x:=(Ho x1)) (aHt [.d (.lit (.slice none 0 0)),Dy dJ.Id] (jL [] dJ.Id x1 hx1).view rfl)<|AU h fun x2 hx2 h=>AX 3<|.p (Bh Am dJ.Events CB rfl)<|.X (O4 x1 (dJ.Events.length:Int) x2 hx2).view<|Ac<|AY<|Ak<|EI (fun v3 v4=>⟨BX 77 [(1,.ptr 0 0),(3,Ho v3),(4,AV v4)],[.box (Au (F9 dJ))],0⟩) _ _ _ _ (Ag 77 26 [AP 0]) h<|fun J25 k5 hk5 v3 v4 h=>Ac<|AX 3<|.Z (Bh Am dJ.Events CB rfl)<|Cc h (fun h=>Ac<|Ak<|DF h fun x7 hx7 x8 yK h=>AX 4<|.p (BU Am hx7 CB CY rfl)<|.a 2<|.X (O4 v3 x7.Id x8 yK).view<|OJ h fun x9 uy q u x11 z h=>El AA AA AA (.a 5<|.p (BU Am uy CB CY rfl)<|.a 2<|.ca (ahf dJ x9.Id q u)<|.ca (O4 x8 q x11 z).view<|.a 1<|.nil _)<|BJ<|.a 3<|.nil<|hk5 _ _ _ (Ag 77 26 [AP 0]) h) fun h=>DC<|AU h fun x12 I h=>AX 3<|.p (Bh C9 dJ.State KH rfl)<|.X (O4 v3 (dJ.State.length:Int) x12 I).view<|Ac<|AY<|Ak<|EI (fun j J=>⟨BX 77 [(1,.ptr 0 0),(3,Ho j),(5,AV J)],[.box (Au (F9 dJ))],0⟩) _ _ _ _ (Ag 77 42 [AP 0]) h<|fun J24 k15 L j J h=>Ac<|AX 3<|.Z (Bh C9 dJ.State KH rfl)<|Cc h (fun h=>Ac<|Ak<|DF h fun x17 M O U h=>AX 4<|.p (BU C9 M KH OX rfl)<|.a 2<|.X (O4 j x17.Kind O U).view<|DF h fun x19 Y Z E8 h=>AX 4<|.p (BU C9 Y KH OX rfl)<|.a 2<|.X (jL O x19.Key Z E8).view<|DF h fun x21 Nz KN QZ h=>BJ<|.a 4<|.p (BU C9 Nz KH OX rfl)<|.a 2<|.ca (O4 Z x21.Id KN QZ).view<|.a 1<|.nil<|BJ<|.a 3<|.nil<|L _ _ _ (Ag 77 42 [AP 0]) h) fun h=>DC<|AU h fun x23 O1 h=>AX 1<|.X (aSL j x23 O1)<|DN
def agl :(A8 AO):=[{ FT with Id:=1 },{ FT with Id:=2 }]
def anI :(A8 Ey):=[(⟨0,1,4,false⟩:Ey),(⟨1,2,3,false⟩:Ey)]
def L9 :CJ:={ Ia with Id:=aSF,Events:=agl,Rows:=anI }
def agf :(A8 AO):=[{ FT with Id:=2 },{ FT with Id:=3 }]
def UO :CJ:={ Ia with Id:=aSF,Events:=agf }
def aPI :(A8 Ey):=[(⟨0,2,4,true⟩:Ey),(⟨1,1,4,false⟩:Ey)]
def VE (j:AQ):AL AQ:=some j
def Ty  :AL AQ:=(aEe L9 UO).bind fun M=>(aY M [1,3]).bind fun O=>(bif O then(aRk L9 UO).bind fun U=>(aY U [2]).bind fun Y=>(bif Y then(ZJ L9 UO).bind fun Z=>(bif (Z==1)then(ZJ UO L9).bind fun j=>(bif (j==1)then(bF L9 UO).bind fun q=>(bif (!q)then(bF L9 ({ L9 with Rows:=aPI })).bind fun u=>(bif u then(PZ L9).bind fun z=>(PZ ({ L9 with Rows:=aPI })).bind fun I=>(bif (z==I)then(PZ L9).bind fun J=>(aPa L9).bind fun L=>VE (J==L)else VE false)else VE false)else VE false)else VE false)else VE false)else VE false)else VE false)
def adi (h:Ty=some true):BL 11 [] [] (Aj true) []:=by
 refine BP func11 rfl ?_;unfold Ty at h;refine AX 1<|.bC ?_;refine AX 2<|.p (Xt Ku QJ AA AA (ED AA) [EL ({ FT with Id:=1 }),EL ({ FT with Id:=2 })] [Am ({ FT with Id:=1 }),Am ({ FT with Id:=2 })] AA AA AA AA rfl)<|.a 2<|.p (Xt eP jg AA AA (ED AA) [U3 (⟨0,1,4,false⟩:Ey),U3 (⟨1,2,3,false⟩:Ey)] [I8 (⟨0,1,4,false⟩:Ey),I8 (⟨1,2,3,false⟩:Ey)] AA AA AA AA rfl)<|.a 3<|.bC ?_;refine AX 2<|.p (Xt Ku QJ AA AA (ED AA) [EL ({ FT with Id:=2 }),EL ({ FT with Id:=3 })] [Am ({ FT with Id:=2 }),Am ({ FT with Id:=3 })] AA AA AA AA rfl)<|.a 3<|.bC ?_;refine AX 3<|.bC ?_;refine AX 2<|.p (Xt eP jg AA AA (ED AA) [U3 (⟨0,2,4,true⟩:Ey),U3 (⟨1,1,4,false⟩:Ey)] [I8 (⟨0,2,4,true⟩:Ey),I8 (⟨1,1,4,false⟩:Ey)] AA AA AA AA rfl)<|.a 2<|.bC ?_;refine Dp (fun s=>∃(v1:AQ),Cj s ⟨BX 69 [(0,Aj v1)],[],0⟩/\VE v1=some true) ?_ ?_
 ·clear h;rintro s ⟨v1,hs,h⟩;refine DW hs ?_;clear hs;unfold VE at h;refine FC ?_;rw[←Ch h];exact⟨[Aj v1],[],⟨Gu AA,trivial⟩,AA,AA,AA⟩
 intro K2;obtain⟨x3,hx3,h⟩:=DT h;obtain⟨x4,hx4,h⟩:=DT h;cases x4 with
 |true=>
  replace h:=P8 rfl h;obtain⟨x6,hx6,h⟩:=DT h;obtain⟨x7,hx7,h⟩:=DT h;cases x7 with
  |true=>
   replace h:=P8 rfl h;obtain⟨x9,uy,h⟩:=DT h;rcases xF (x9==1)with j|j
   ·replace h:=P8 j h;obtain⟨I,J,h⟩:=DT h;rcases xF (I==1)with q|q
    ·replace h:=P8 q h;obtain⟨L,M,h⟩:=DT h;rcases xF (!L)with u|u
     ·replace h:=P8 u h;obtain⟨x15,O,h⟩:=DT h;cases x15 with
      |true=>
       replace h:=P8 rfl h;obtain⟨U,Y,h⟩:=DT h;obtain⟨Z,WY,h⟩:=DT h;rcases xF (U==Z)with z|z
       ·replace h:=P8 z h;obtain⟨EK,E8,h⟩:=DT h;obtain⟨x21,Nz,h⟩:=DT h;refine El AA AA AA (.a 2<|.ca (aQF L9 UO x3 hx3).view<|.p (Xt F7 zero3 AA AA (ED AA) [AV 1,AV 3] [Ae 1,Ae 3] AA AA AA AA rfl)<|.ca (aDo x3 [1,3] true hx4)<|.a 3<|.ca (am9 L9 UO x6 hx6).view<|.p (Xt F7 zero3 AA AA (ED AA) [AV 2] [Ae 2] AA AA AA AA rfl)<|.ca (aDo x6 [2] true hx7)<|.a 4<|.ca (aCK L9 UO x9 uy)<|.a 2<|.c (Bo some j)<|.a 2<|.ca (aCK UO L9 I J)<|.a 2<|.c (Bo some q)<|.a 2<|.ca (sW L9 UO L M)<|.a 2<|.c (Bo some u)<|.a 2<|.ca (sW L9 _ true O)<|.a 3<|.ca (Sr L9 U Y)<|.a 1<|.ca (Sr _ Z WY)<|.a 2<|.c (Bo some z)<|.a 1<|.ca (Sr L9 EK E8)<|.a 1<|.ca (afE L9 x21 Nz)<|.a 3<|.nil _) ?_;exact K2 _ ⟨(EK==x21),Ag 69 1 [],h⟩
       replace h:=PD z h;exact absurd (Ch (show some false=some true from h)) Bf
      |false=>
       replace h:=PD rfl h;exact absurd (Ch (show some false=some true from h)) Bf
     replace h:=PD u h;exact absurd (Ch (show some false=some true from h)) Bf
    replace h:=PD q h;exact absurd (Ch (show some false=some true from h)) Bf
   replace h:=PD j h;exact absurd (Ch (show some false=some true from h)) Bf
  |false=>
   replace h:=PD rfl h;exact absurd (Ch (show some false=some true from h)) Bf
 |false=>
  replace h:=PD rfl h;exact absurd (Ch (show some false=some true from h)) Bf
def aQ8 :Ty=some true:=AA
def aF7 (r) (h:Ty=some r):BL 11 [] [] (Aj r) []:=by
 obtain rfl:=Ci (h.symm.trans aQ8);exact adi aQ8
def aI5 (j:BI) (q:BI):AL (BI×BI×AQ):=(zY j q).bind fun u=>(bif u>=0 then(NY j 0 u).bind fun z=>(NY j (BA (u+(q.size:Int))) ((j).size)).bind fun I=>some (z,I,true)else some (j,Cb,false))
def aeA (fD WZ r) (h:aI5 fD WZ=some r):BL 274 [Dy fD,Dy WZ] [] (.eH [Dy r.1,Dy r.2.1,Aj r.2.2]) []:=BP func274 rfl<|AY<|Ac<|AU h fun I j h=>AX 2<|.X (ahk fD WZ I j)<|AY<|Bc h (fun h=>DF h fun J q L u h=>Hr AA AA AA (.a 2<|.p (aK3 q (fun _=>rfl) Wx MQ rfl)<|.a 5<|.p (aK3 u Wx (fun _=>rfl) MQ rfl)<|.a 3<|.nil _)<|DN) fun h=>AY<|DN
def strings_Cut (q:BI) (j:BI):AL (BI×BI×AQ):=(aI5 q j).bind fun u=>some (u.1,u.2.1,u.2.2)
def aen (fD WZ r) (h:strings_Cut fD WZ=some r):BL 204 [Dy fD,Dy WZ] [] (.eH [Dy r.1,Dy r.2.1,Aj r.2.2]) []:=BP func204 rfl<|AY<|AU h fun q j h=>AX 2<|.X (aeA fD WZ q j)<|DN
def mQ (j:Int):AL AQ:=(bif (j==95)then some true else some (j==46)).bind fun q=>(bif q then some true else some (j==45)).bind fun u=>(bif u then some true else some (j==61)).bind fun z=>some z
def ahU (eY r) (h:mQ eY=some r):BL 272 [.d (DI eY)] [] (Aj r) []:=BP func272 rfl<|AY<|AX 2<|AU h fun z j h=>.mg 5 3 (Aj z) (.bi j)<|.a 1<|AU h fun I q h=>.mg 10 2 (Aj I) (Dz q)<|.a 1<|AU h fun J u h=>.mg 14 2 (Aj J) (Dz u)<|.aW<|DN
def fP (j:Int):AL AQ:=(bif j>=97 then some (decide (j<=122))else some false).bind fun q=>(bif q then some true else(bif j>=48 then some (decide (j<=57))else some false).bind fun u=>some u).bind fun z=>some z
def aIZ (eY r) (h:fP eY=some r):BL 271 [.d (DI eY)] [] (Aj r) []:=BP func271 rfl<|AY<|AX 2<|AU h fun z j h=>.mg 5 3 (Aj z) (.bi j)<|.a 1<|AU h fun I q h=>.mg 10 6 (Aj I) (Dz q (k2:=fun e i=>by subst e;have h:=i;exact .a 2<|AU h fun J u h=>.mg 12 3 (Aj J) (.bi u)<|.aW<|EO))<|.aW<|DN
def aL4 (q:BI) (j:(Int->AL AQ)) (J:(Int->AL AQ)):Int->AL AQ:=fun u=>(bif u<(q.size:Int) then(Hy q u).bind fun L=>(fP L).bind fun M=>(bif (!M)then(Hy q u).bind fun z=>(j z).bind fun I=>some (!I)else some false).bind fun O=>(bif O then some false else J (BA (u+1)))else some true)
def aKA (q:BI) (j:(Int->AL AQ)):Int->AL AQ:=bI (aL4 q j) Aw
def Ym (q:BI) (j:(Int->AL AQ)):AL AQ:=(bif (q.size:Int)<1 then some true else some (decide ((q.size:Int)>32))).bind fun u=>(bif u then some false else aKA q j 0)
def aP2 (z:BI) (q:(Int->AL AQ)) (j:D) (u:TG Ah DI Dt j q) (r:AQ) (h:Ym z q=some r):BL 269 [Dy z,.d j] [] (Aj r) []:=BP func269 rfl<|AY<|Ac<|AX 3<|AU h fun x1 L h=>.mg 9 4 (Aj x1) (.bi L)<|.bC<|Bc h D7 fun h=>Ac<|AY<|Ak<|FZ (fun Z=>⟨BX 33 [(0,Dy z),(1,.d j),(15,AV (z.size:Int)),(16,AV Z)],[],0⟩) _ _ _ (Ag 33 98307 []) h<|fun J14 k5 M Z h=>AY<|Ac<|Cc h (fun h=>Ac<|Ak<|AY<|DF h fun x7 O x8 U h=>AX 2<|.p (WE (k:=.i64) O MQ rfl)<|.ca (aIZ x7 x8 U)<|.a 1<|AU h fun x9 Y h=>.mg 24 7 (Aj x9) (.bi Y (fun h=>DF h fun x11 I x12 J h=>.a 3<|.p (WE (k:=.i64) I MQ rfl)<|.Z (mZ (d:=j) (u:TG Ah DI Dt j q) J rfl)<|EO))<|.bC<|Bc h D7 fun h=>BJ<|.a 2<|.nil<|M _ _ (Ag 33 98307 []) h) fun h=>Hl
def aD4 (j:BI):AL AQ:=(Ym j (fun a0=>mQ a0)).bind fun q=>some q
def ap8 (fD r) (h:aD4 fD=some r):BL 202 [Dy fD] [] (Aj r) []:=BP func202 rfl<|AY<|AU h fun q j h=>AX 1<|.X (aP2 fD (fun a0=>mQ a0) (.fn (.func 272) [] []) ⟨272,[],rfl,ac5,fun a0 b u=>ahU a0 b u⟩ q j)<|DN
def rJ (j:Int):AL AQ:=(bif (j==46)then some true else some (j==45)).bind fun q=>some q
def abH (eY r) (h:rJ eY=some r):BL 270 [.d (DI eY)] [] (Aj r) []:=BP func270 rfl<|AY<|AX 2<|AU h fun q j h=>.mg 5 3 (Aj q) (.bi j)<|.aW<|DN
def aAe (j:BI):AL AQ:=(Ym j (fun a0=>rJ a0)).bind fun q=>(bif q then(Hy j 0).bind fun u=>(fP u).bind fun z=>some z else some false).bind fun I=>(bif I then(Hy j (BA ((j.size:Int)-1))).bind fun J=>(fP J).bind fun L=>some L else some false).bind fun M=>some M
def aht (fD r) (h:aAe fD=some r):BL 201 [Dy fD] [] (Aj r) []:=BP func201 rfl<|AY<|AU h fun M j h=>AX 1<|.ca (aP2 fD (fun a0=>rJ a0) (.fn (.func 270) [] []) ⟨270,[],rfl,afR,fun a0 b O=>abH a0 b O⟩ M j)<|.a 1<|AU h fun U q h=>.mg 6 3 (Aj U) (Dz q (fun e i=>by subst e;have h:=i;exact DF h fun Y u Z z h=>.a 1<|.p (WE (k:=.i64) u MQ rfl)<|.X (aIZ Y Z z)<|EO))<|.a 1<|AU h fun x6 I h=>.mg 11 6 (Aj x6) (Dz I (fun e i=>by subst e;have h:=i;exact DF h fun x8 J x9 L h=>.a 4<|.p (WE (k:=.i64) J MQ rfl)<|.X (aIZ x8 x9 L)<|EO))<|.aW<|DN
def lS (j:BI) (q:BI):AL (BI×BI×AQ):=(bif (j.toList==Cb.toList)then some true else(Hy j 0).bind fun L=>(strings_IndexByte q L).bind fun M=>some (decide (M<0))).bind fun O=>(bif O then some (Cb,Cb,false)else(NY j 1 ((j).size)).bind fun U=>(strings_Cut U fF).bind fun u=>(bif (!u.2.2)then some true else(aD4 u.1).bind fun z=>some (!z)).bind fun Y=>(bif Y then some true else(aAe u.2.1).bind fun I=>some (!I)).bind fun J=>(bif J then some (Cb,Cb,false)else some (u.1,u.2.1,true)))
def aR0 (BD agS r) (h:lS BD agS=some r):BL 130 [Dy BD,Dy agS] [] (.eH [Dy r.1,Dy r.2.1,Aj r.2.2]) []:=BP func130 rfl<|AY<|Ac<|AX 2<|AU h fun x1 z h=>.mg 12 6 (Aj x1) (.bi z (k2:=fun h=>DF h fun x3 I x4 J h=>.a 2<|.p (WE (k:=.i64) I MQ rfl)<|.X (adr agS x3 x4 J)<|EO))<|.bC<|Bc h D7 fun h=>DF h fun x6 L M O h=>AX 1<|.p (aK3 L Qe (fun _=>rfl) MQ rfl)<|.X (aen x6 fF M O)<|Ac<|AX 2<|AU h fun x8 U h=>.mg 28 4 (Aj x8) (.bi U (k2:=fun h=>AU h fun Y j h=>.a 1<|.X (ap8 M.1 Y j)<|EO))<|.a 1<|AU h fun Z q h=>.mg 34 3 (Aj Z) (Dz q (k2:=fun e i=>by subst e;have h:=i;exact AU h fun Hz u h=>.a 1<|.X (aht M.2.1 Hz u)<|EO))<|.bC<|Ql
def mP (q:BI) (j:BI):AL Int:=(lS q j).bind fun u=>(bif (!u.2.2)then some 3 else some 0)
def aRb (fD ajt r) (h:mP fD ajt=some r):BL 166 [Dy fD,Dy ajt] [] (AV r) []:=BP func166 rfl<|AY<|Ac<|AU h fun q j h=>AX 2<|.X (aR0 fD ajt q j)<|AY<|Ql
def dW (j:BI):AL Int:=(mP j oU).bind fun q=>some q
def aHV (fD r) (h:dW fD=some r):BL 89 [Dy fD] [] (AV r) []:=BP func89 rfl<|AY<|AU h fun q j h=>AX 1<|.X (aRb fD oU q j)<|DN
def aJq (j:BI):AL (CJ×Int):=(dW j).bind fun q=>(bif (q != 0)then some (Ia,3)else some ({ Ia with Id:=j },0))
def abr (BD r) (h:aJq BD=some r):BL 30 [Dy BD] [] (.eH [G8 r.1,AV r.2]) []:=BP func30 rfl<|AY<|Ac<|AU h fun u j h=>AX 1<|.X (aHV BD u j)<|Bc h (fun h=>AY<|FC<|by rw[←Ci h];exact⟨[G8 Ia,AV 3],[],⟨⟨0,Au (F9 Ia),true,9,AA,AA,AA,Lu,ED AA,Vd,AA⟩,Gu AA,trivial⟩,AA,AA,AA⟩) fun h=>AY<|FC<|by rw[←Ci h];exact⟨[G8 ({ Ia with Id:=BD }),AV 0],[],⟨⟨0,Au (F9 ({ Ia with Id:=BD })),true,9,AA,AA,AA,Lu,ED AA,Vd,AA⟩,Gu AA,trivial⟩,AA,AA,AA⟩
def YV (q:AZ) (j:AQ):AL AZ:=(XV q 1).bind fun u=>(bif j then(Dc 1 u [1]).bind fun z=>some z else(Dc 1 u [0]).bind fun I=>some I)
def aQ9 (gW MV r) (h:YV gW MV=some r):BL 214 [Ho gW,Aj MV] [] (.aS 0) [(Ib r)]:=BP func214 rfl<|Ba<|.f (DJ 5 1 rfl)<|.bC<|AU h fun z j h=>AX 1<|.Y (x:=.aS 1) (N7 [Ho gW,AV 1] (pO gW 1 z j) rfl)<|Ac<|AY<|Bc h (fun h=>AU h fun I q h=>AX 1<|.p (Eu JL Qr [DI 1] rfl)<|.Y (Eb (k:=1) DI q JL AA (fun _=>rfl) Bf rfl)<|Na) fun h=>AU h fun J u h=>AX 1<|.p (Eu JL Qr [DI 0] rfl)<|.Y (Eb (k:=1) DI u JL AA (fun _=>rfl) Bf rfl)<|Na
def aIc (j:GV) (u:(AZ->Int->AL AZ)):AZ->Int->AL AZ:=fun v2 q=>(bif q<(j.length:Int) then(BF j q).bind fun z=>(uP v2 z).bind fun I=>u I (BA (q+1))else some v2)
def aRi (j:GV):AZ->Int->AL AZ:=aU (aIc j) Aw
def aEF (q:AZ) (j:GV):AL AZ:=(Xd q (j.length:Int)).bind fun u=>aRi j u 0
def anw (gW dF r) (h:aEF gW dF=some r):BL 277 [.aS 0,Ie dF,.d (.fn (.func 120) [] [])] [(Ib gW)] (.aS 1) [.dead,(Ib r)]:=BP func277 rfl<|Ba<|.f (DJ 5 1 rfl)<|.bC<|AU h fun L j h=>AX 2<|.p (Bh Dj dF Hq rfl)<|.Y (x:=.aS 2) (Eh [.ent 0] [.aS 0,AV (dF.length:Int)] (pJ gW (dF.length:Int) L j) rfl)<|Ac<|AX 1<|.Z (Bh Dj dF Hq rfl)<|Ak<|EI (fun v2 I=>⟨BX 25 [(0,.aS 1),(2,.d (.fn (.func 120) [] [])),(13,Ie dF),(14,AV (dF.length:Int)),(15,AV I)],[.dead,(Ib v2)],1⟩) _ _ _ _ (Ag 25 57349 [(0,false),AP 2]) h<|fun O U q v2 I h=>AY<|Ac<|Cc h (fun h=>Ac<|Ak<|AU h fun J u h=>Ba<|.Z (BU Dj u Hq NC rfl)<|AU h fun M z h=>BJ<|.a 3<|.f (x:=.aS 2) (aO5 [.ent 1] [] [] [.aS 1,Dy J] (aS5 v2 J M z) rfl)<|.a 1<|.nil<|BJ<|.a 2<|.nil<|q _ _ _ (Ag 25 57349 [(0,false),AP 2]) h) fun h=>DC<|AY<|aOy
def jO (q:AZ) (j:GV):AL AZ:=(XV q (BA ((BA (8*(j.length:Int)))+10))).bind fun u=>(aEF u j).bind fun z=>some z
def aPp (gW dF r) (h:jO gW dF=some r):BL 215 [Ho gW,Ie dF] [] (.aS 0) [(Ib r)]:=BP func215 rfl<|Ba<|.f (DJ 5 1 rfl)<|.bC<|DF h fun u j z q h=>AX 2<|.p (Bh Dj dF Hq rfl)<|.a 2<|.f (x:=.aS 1) (N7 [Ho gW,AV (BA ((BA (8*(dF.length:Int)))+10))] (pO gW (BA ((BA (8*(dF.length:Int)))+10)) u j) rfl)<|.a 1<|.Y (x:=.aS 2) (Eh [.ent 1] [.aS 1,Ie dF,.d (.fn (.func 120) [] [])] (anw u dF z q) rfl)<|Na
def aFL (j:CV) (z:(AZ->Int->AL AZ)):AZ->Int->AL AZ:=fun u q=>(bif q<7 then(BF ([j.Levels.User,j.Levels.Message,j.Levels.State,j.Levels.gV,j.Levels.kY,j.Levels.pR,j.Levels.iM]:AZ) q).bind fun I=>(Jc u I).bind fun J=>z J (BA (q+1))else some u)
def aH0 (j:CV):AZ->Int->AL AZ:=aU (aFL j) Aw
def aCQ (j:CV) (I:(AZ->Int->AL AZ)):AZ->Int->AL AZ:=fun u q=>(bif q<(j.Levels.Kinds.length:Int) then(BF j.Levels.Kinds q).bind fun z=>(Jc u z.Kind).bind fun J=>(Jc J z.N).bind fun L=>I L (BA (q+1))else aH0 j u 0)
def aF2 (j:CV):AZ->Int->AL AZ:=aU (aCQ j) Aw
def aCH (j:CV) (z:(AZ->Int->AL AZ)):AZ->Int->AL AZ:=fun M q=>(bif q<(j.Levels.Users.length:Int) then(BF j.Levels.Users q).bind fun u=>(P6 M u.User).bind fun I=>(Jc I u.N).bind fun J=>z J (BA (q+1))else(Jc M (j.Levels.Kinds.length:Int)).bind fun L=>aF2 j L 0)
def aR5 (j:CV):AZ->Int->AL AZ:=aU (aCH j) Aw
def uZ (j:CV):AL AZ:=(P6 [] j.Text).bind fun q=>(Jc q j.N).bind fun u=>(Jc u j.Target).bind fun z=>(YV z j.Thread).bind fun I=>(P6 I j.Via).bind fun J=>(jO J j.Allow).bind fun L=>(jO L j.fV).bind fun M=>(Jc M (j.Levels.Users.length:Int)).bind fun O=>aR5 j O 0
def aMH (eY r) (h:uZ eY=some r):BL 134 [Io eY] [] (Ho r) []:=BP func134 rfl<|AY<|AU h fun x1 hx1 h=>AX 2<|.Z (x:=(Ho x1)) (aHt [.d (.lit (.slice none 0 0)),Dy eY.Text] (jJ [] eY.Text x1 hx1).view rfl)<|AU h fun x2 hx2 h=>AX 3<|.X (Oi x1 eY.N x2 hx2).view<|AU h fun x3 hx3 h=>AX 3<|.X (Oi x2 eY.Target x3 hx3).view<|AU h fun x4 hx4 h=>AX 3<|.X (aQ9 x3 eY.Thread x4 hx4).view<|AU h fun x5 hx5 h=>AX 3<|.X (jJ x4 eY.Via x5 hx5).view<|AU h fun x6 hx6 h=>AX 3<|.X (aPp x5 eY.Allow x6 hx6).view<|AU h fun x7 hx7 h=>AX 3<|.X (aPp x6 eY.fV x7 hx7).view<|AY<|AU h fun x8 yK h=>AX 3<|.p (Bh FN eY.Levels.Users Hu rfl)<|.X (Oi x7 (eY.Levels.Users.length:Int) x8 yK).view<|Ac<|AX 2<|.Z (Bh FN eY.Levels.Users Hu rfl)<|Ak<|EI (fun v9 u=>⟨BX 103 [(3,Ho v9),(4,.ptr 0 0),(46,QS eY.Levels.Users),(47,AV (eY.Levels.Users.length:Int)),(48,AV u)],[.box (Au (Gq eY.Levels))],0⟩) _ _ _ _ (Ag 103 492581209243672 [AP 1]) h<|fun J32 k11 z v9 u h=>AY<|Ac<|Cc h (fun h=>Ac<|Ak<|AU h fun I J h=>Ba<|.Z (BU FN J Hu Nq rfl)<|DF h fun L M x15 O h=>El AA AA AA (.a 3<|.ca (jJ v9 I.User L M).view<|.a 2<|.ca (Oi L I.N x15 O).view<|.a 1<|.nil _)<|BJ<|.a 2<|.nil<|z _ _ _ (Ag 103 492581209243672 [AP 0]) h) fun h=>DC<|AU h fun x16 U h=>AX 3<|.p (Bh Fb eY.Levels.Kinds IC rfl)<|.X (Oi v9 (eY.Levels.Kinds.length:Int) x16 U).view<|Ac<|AX 2<|.Z (Bh Fb eY.Levels.Kinds IC rfl)<|Ak<|EI (fun j Y=>⟨BX 103 [(3,Ho j),(4,.ptr 0 0),(66,QO eY.Levels.Kinds),(67,AV (eY.Levels.Kinds.length:Int)),(68,AV Y)],[.box (Au (Gq eY.Levels))],0⟩) _ _ _ _ (Ag 103 516508834063867445272 [AP 0]) h<|fun J31 k19 Z j Y h=>AY<|Ac<|Cc h (fun h=>Ac<|Ak<|AU h fun x21 Nz h=>Ba<|.Z (BU Fb Nz IC Nu rfl)<|DF h fun KN QZ x23 O1 h=>El AA AA AA (.a 3<|.ca (Oi j x21.Kind KN QZ).view<|.a 2<|.ca (Oi KN x21.N x23 O1).view<|.a 1<|.nil _)<|BJ<|.a 2<|.nil<|Z _ _ _ (Ag 103 516508834063867445272 [AP 0]) h) fun h=>DC<|Ac<|AY<|Ak<|EI (fun q v25=>⟨BX 103 [(3,Ho q),(94,.d ((MZ Ae) ([eY.Levels.User,eY.Levels.Message,eY.Levels.State,eY.Levels.gV,eY.Levels.kY,eY.Levels.pR,eY.Levels.iM]:(A8 Int)))),(95,AV v25)],[],0⟩) _ _ _ _ (Ag 103 59421121885698253195157962760 []) h<|fun J30 k26 avY q v25 h=>AY<|Ac<|Cc h (fun h=>Ac<|Ak<|AU h fun x28 hx28 h=>Ba<|.Z (zu (k:=.i64) Ae hx28 zX EF AA rfl)<|AU h fun x29 hx29 h=>BJ<|.a 2<|.ca (Oi q x28 x29 hx29).view<|.a 1<|.nil<|BJ<|.a 2<|.nil<|avY _ _ _ (Ag 103 59421121885698253195157962760 []) h) fun h=>Hl
def aAj (j:AO):AL Int:=(uZ j.Content).bind fun q=>(XQ q).bind fun u=>some u
def acH (aZ r) (h:aAj aZ=some r):BL 60 [EL aZ] [] (AV r) []:=BP func60 rfl<|AY<|DF h fun u j z q h=>AX 2<|.ca (aMH aZ.Content u j)<|.X (aJT u z q)<|DN
def TD (j:AO):AL AQ:=(aAj j).bind fun q=>some (q==j.Hash)
def qH (aZ r) (h:TD aZ=some r):BL 137 [EL aZ] [] (Aj r) []:=BP func137 rfl<|AY<|AU h fun q j h=>Hr AA AA AA (.a 1<|.ca (acH aZ q j)<|.a 4<|.nil _)<|DN
def Rf (j:GV):AL GV:=(Dc 16 [] j).bind fun q=>some q
def aD9 (ay r) (h:Rf ay=some r):BL 238 [Ie ay] [] (.aS 0) [(mV r)]:=BP func238 rfl<|Ba<|.f (DJ 9 1 rfl)<|.bC<|AU h fun q j h=>AX 1<|.Y (aCv 9 1 (Eb (k:=_) Dj j bM AA (fun _=>rfl) Bf rfl))<|Na
def Zh (j:DX):AL DX:=(Dc 24 [] j.Users).bind fun q=>(Dc 16 [] (({ j with Users:=q }).Kinds)).bind fun u=>some ({ { j with Users:=q }with Kinds:=u })
def aNB (ay r) (h:Zh ay=some r):BL 239 [N9 ay] [] (N9 r) []:=BP func239 rfl<|AY<|AU h fun j q h=>AX 2<|.f (aCv 146 2 (Eb (k:=_) FN q aEI AA (fun _=>rfl) Bf rfl))<|.conv _ (ML (e:=146) (s:=2) 3 (xs:=List.map FN j) AA)<|.aW<|AU h fun u z h=>AX 2<|.f (aCv 221 2 (Eb (k:=_) Fb z aJS AA (fun _=>rfl) Bf rfl))<|.conv _ (ML (e:=221) (s:=2) 5 (xs:=List.map Fb u) AA)<|.aW<|AY<|FC<|by rw[←Ci h];exact⟨[N9 ({ { ay with Users:=j }with Kinds:=u })],[],⟨⟨1,Au (Gq ({ { ay with Users:=j }with Kinds:=u })),true,9,AA,AA,AA,nU,ED AA,aH5,AA⟩,trivial⟩,AA,AA,AA⟩
def oV (j:AQ):AL Int:=(bif j then some 5 else some 0)
def sV (j:Int) (q:AQ):AL Int:=(bif q then some 2 else(bif (j==6)then some 96 else(bif (j==7)then some 1 else(bif (j==9)then some 3 else(bif (j==11)then some 13 else(bif (j==12)then oV (j==12)else(bif (j==13)then oV (j==13)else oV (j==14))))))))
def iL (j:Int):AL Int:=(bif (j==2)then some 19 else(bif (j==3)then some 128 else(bif (j==4)then some 34 else(bif (j==5)then sV j (j==5)else(bif (j==8)then sV j (j==8)else sV j (j==10))))))
def aLR (iP r) (h:iL iP=some r):BL 291 [AV iP] [] (AV r) []:=BP func291 rfl<|AY<|Ac<|AY<|Ak<|AY<|Dv h D7 fun h=>AY<|Dv h D7 fun h=>AY<|Dv h D7 fun h=>Dp (fun s=>∃(z:AQ),Cj s ⟨BX 26 [(3,AV iP),(10,Aj z)],[],0⟩/\sV iP z=some r) (by rintro s ⟨z,hs,h⟩;exact DW hs<|Dv h D7 fun h=>AY<|Dv h D7 fun h=>AY<|Dv h D7 fun h=>AY<|Dv h D7 fun h=>AY<|Dv h D7 fun h=>Dp (fun s=>∃(j:AQ),Cj s ⟨BX 26 [(22,Aj j)],[],0⟩/\oV j=some r) (by rintro s ⟨j,hs,h⟩;exact DW hs<|Ql)<|fun q=>AY<|Cc h (fun h=>q _ ⟨(iP==12),Ag 26 4194304 [],h⟩) fun h=>AY<|Cc h (fun h=>q _ ⟨(iP==13),Ag 26 4194304 [],h⟩) fun h=>BJ<|.a 2<|.nil<|q _ ⟨(iP==14),Ag 26 4194304 [],h⟩)<|fun u=>AY<|Cc h (fun h=>u _ ⟨(iP==5),Ag 26 1032 [],h⟩) fun h=>AY<|Cc h (fun h=>u _ ⟨(iP==8),Ag 26 1032 [],h⟩) fun h=>BJ<|.a 2<|.nil<|u _ ⟨(iP==10),Ag 26 1032 [],h⟩
def lG (j:Int) (v2:AQ):AL Int:=(bif v2 then(iL j).bind fun q=>some q else(bif (j==14)then some 4 else some 0))
def eB (j:Int):AL Int:=(bif (j==2)then some 18 else(bif (j==3)then lG j (j==3)else(bif (j==4)then lG j (j==4)else(bif (j==5)then lG j (j==5)else lG j (j==6)))))
def aQr (iP r) (h:eB iP=some r):BL 240 [AV iP] [] (AV r) []:=BP func240 rfl<|AY<|Ac<|AY<|Ak<|AY<|Dv h D7 fun h=>Dp (fun s=>∃(v2:AQ),Cj s ⟨BX 15 [(0,AV iP),(3,AV iP),(6,Aj v2)],[],0⟩/\lG iP v2=some r) (by rintro s ⟨v2,hs,h⟩;exact DW hs<|Dv h (fun h=>AU h fun q j h=>AX 1<|.X (aLR iP q j)<|DN) fun h=>AY<|Ql)<|fun K6=>AY<|Cc h (fun h=>K6 _ ⟨(iP==3),Ag 15 73 [],h⟩) fun h=>AY<|Cc h (fun h=>K6 _ ⟨(iP==4),Ag 15 73 [],h⟩) fun h=>AY<|Cc h (fun h=>K6 _ ⟨(iP==5),Ag 15 73 [],h⟩) fun h=>BJ<|.a 2<|.nil<|K6 _ ⟨(iP==6),Ag 15 73 [],h⟩
def aJz (j:CV):AL CV:=some j
def aFB (z:Int) (j:CV) (q:CV):AL CV:=(bif ((Ef .and .i64 z 128) != 0)then(Zh j.Levels).bind fun u=>aJz ({ q with Levels:=u })else aJz q)
def aJn (q:Int) (j:CV) (z:CV):AL CV:=(bif ((Ef .and .i64 q 64) != 0)then(Rf j.fV).bind fun u=>aFB q j ({ z with fV:=u })else aFB q j z)
def aH1 (q:Int) (j:CV) (z:CV):AL CV:=(bif ((Ef .and .i64 q 32) != 0)then(Rf j.Allow).bind fun u=>aJn q j ({ z with Allow:=u })else aJn q j z)
def aGz (q:Int) (j:CV) (u:CV):AL CV:=(bif ((Ef .and .i64 q 16) != 0)then aH1 q j ({ u with Via:=j.Via })else aH1 q j u)
def aIq (q:Int) (j:CV) (u:CV):AL CV:=(bif ((Ef .and .i64 q 4) != 0)then aGz q j ({ u with Target:=j.Target })else aGz q j u)
def qE (q:Int) (j:CV):AL CV:=(bif (q==1)then(Rf j.Allow).bind fun z=>(Rf j.fV).bind fun I=>(Zh j.Levels).bind fun J=>some ({ { { j with Allow:=z }with fV:=I }with Levels:=J })else(eB q).bind fun u=>(bif ((Ef .and .i64 u 2) != 0)then aIq u j ({ Ed with N:=j.N })else aIq u j Ed))
def aMD (iP fK r) (h:qE iP fK=some r):BL 149 [AV iP,Io fK] [] (Io r) []:=BP func149 rfl<|AY<|Ac<|AY<|Bc h (fun h=>OJ h fun x2 hx2 x3 hx3 x4 hx4 h=>Hr AA AA AA (.a 2<|.ca (aD9 fK.Allow x2 hx2).view<|.a 2<|.ca (aD9 fK.fV x3 hx3).view<|.a 2<|.ca (aNB fK.Levels x4 hx4)<|.a 6<|.nil _)<|AY<|FC<|by rw[←Ci h];exact⟨[Io ({ { { fK with Allow:=x2 }with fV:=x3 }with Levels:=x4 })],[],⟨⟨1,Au (FY ({ { { fK with Allow:=x2 }with fV:=x3 }with Levels:=x4 })),true,16,AA,AA,AA,Sj,ED AA,Qe,AA⟩,trivial⟩,AA,AA,AA⟩) fun h=>AY<|AU h fun j hx5 h=>AX 1<|.X (aQr iP j hx5)<|Dp (fun s=>∃(I:CV),Cj s ⟨BX 64 [(3,.ptr 0 0),(4,.ptr 1 0),(5,.ptr 2 0),(6,AV j)],[.box (Au (FY fK)),.box (Au (FY Ed)),.box (Au (FY I))],0⟩/\aIq j fK I=some r) (by rintro s ⟨I,hs,h⟩;exact DW hs<|Dp (fun s=>∃(J:CV),Cj s ⟨BX 64 [(3,.ptr 0 0),(4,.ptr 1 0),(5,.ptr 2 0),(6,AV j)],[.box (Au (FY fK)),.box (Au (FY Ed)),.box (Au (FY J))],0⟩/\aGz j fK J=some r) (by rintro s ⟨J,hs,h⟩;exact DW hs<|Dp (fun s=>∃(L:CV),Cj s ⟨BX 64 [(3,.ptr 0 0),(4,.ptr 1 0),(5,.ptr 2 0),(6,AV j)],[.box (Au (FY fK)),.box (Au (FY Ed)),.box (Au (FY L))],0⟩/\aH1 j fK L=some r) (by rintro s ⟨L,hs,h⟩;exact DW hs<|Dp (fun s=>∃(M:CV),Cj s ⟨BX 64 [(3,.ptr 0 0),(4,.ptr 1 0),(5,.ptr 2 0),(6,AV j)],[.box (Au (FY fK)),.box (Au (FY Ed)),.box (Au (FY M))],0⟩/\aJn j fK M=some r) (by rintro s ⟨M,hs,h⟩;exact DW hs<|Dp (fun s=>∃(q:CV),Cj s ⟨BX 64 [(3,.ptr 0 0),(4,.ptr 1 0),(5,.ptr 2 0),(6,AV j)],[.box (Au (FY fK)),.box (Au (FY Ed)),.box (Au (FY q))],0⟩/\aFB j fK q=some r) (by rintro s ⟨q,hs,h⟩;exact DW hs<|Dp (fun s=>∃(z:CV),Cj s ⟨BX 64 [(4,.ptr 0 0),(5,.ptr 1 0)],[.box (Au (FY Ed)),.box (Au (FY z))],0⟩/\aJz z=some r) (by rintro s ⟨z,hs,h⟩;exact DW hs<|AY<|FC<|by rw[←Ci h];exact⟨[Io z],[],⟨⟨0,Au (FY z),true,16,AA,AA,AA,Sj,ED AA,Qe,AA⟩,trivial⟩,AA,AA,AA⟩)<|fun O=>AX 1<|.Z (Qu (k:=.i64) (u:=j) (v:=128) rfl)<|Bc h (fun h=>AU h fun U Y h=>BJ<|.a 2<|.ca (aNB fK.Levels U Y)<|.a 2<|.nil<|O _ ⟨({ q with Levels:=U }),Ag 64 48 [AP 1,AP 2],h⟩) fun h=>O _ ⟨q,Ag 64 48 [AP 1,AP 2],h⟩)<|fun Z=>AX 1<|.Z (Qu (k:=.i64) (u:=j) (v:=64) rfl)<|Bc h (fun h=>AU h fun x17 ab8 h=>BJ<|.a 2<|.ca (aD9 fK.fV x17 ab8).view<|.a 2<|.nil<|Z _ ⟨({ M with fV:=x17 }),Ag 64 120 [AP 0,AP 1,AP 2],h⟩) fun h=>Z _ ⟨M,Ag 64 120 [AP 0,AP 1,AP 2],h⟩)<|fun K18=>AX 1<|.Z (Qu (k:=.i64) (u:=j) (v:=32) rfl)<|Bc h (fun h=>AU h fun EK E8 h=>BJ<|.a 2<|.ca (aD9 fK.Allow EK E8).view<|.a 2<|.nil<|K18 _ ⟨({ L with Allow:=EK }),Ag 64 120 [AP 0,AP 1,AP 2],h⟩) fun h=>K18 _ ⟨L,Ag 64 120 [AP 0,AP 1,AP 2],h⟩)<|fun K21=>AX 1<|.Z (Qu (k:=.i64) (u:=j) (v:=16) rfl)<|Bc h (fun h=>BJ<|.a 4<|.nil<|K21 _ ⟨({ J with Via:=fK.Via }),Ag 64 120 [AP 0,AP 1,AP 2],h⟩) fun h=>K21 _ ⟨J,Ag 64 120 [AP 0,AP 1,AP 2],h⟩)<|fun K23=>AX 1<|.Z (Qu (k:=.i64) (u:=j) (v:=4) rfl)<|Bc h (fun h=>BJ<|.a 4<|.nil<|K23 _ ⟨({ I with Target:=fK.Target }),Ag 64 120 [AP 0,AP 1,AP 2],h⟩) fun h=>K23 _ ⟨I,Ag 64 120 [AP 0,AP 1,AP 2],h⟩)<|fun K25=>AX 1<|.Z (Qu (k:=.i64) (u:=j) (v:=2) rfl)<|Bc h (fun h=>BJ<|.a 4<|.nil<|K25 _ ⟨({ Ed with N:=fK.N }),Ag 64 120 [AP 0,AP 1,AP 2],h⟩) fun h=>K25 _ ⟨Ed,Ag 64 120 [AP 0,AP 1,AP 2],h⟩
def sS (j:AO):AL AO:=(qE j.Kind j.Content).bind fun q=>some ({ j with Content:=q })
def aMt (aZ r) (h:sS aZ=some r):BL 131 [EL aZ] [] (EL r) []:=BP func131 rfl<|AY<|AU h fun j q h=>AX 4<|.ca (aMD aZ.Kind aZ.Content j q)<|aOQ
def bf (j:Int):AL AQ:=(bif j>=1 then some (decide (j<=10))else some false).bind fun q=>some q
def eK (iP r) (h:bf iP=some r):BL 231 [AV iP] [] (Aj r) []:=BP func231 rfl<|AY<|AX 2<|AU h fun q j h=>.mg 5 3 (Aj q) (.bi j)<|.aW<|DN
def Zp (j:BI):AL Int:=(mP j xA).bind fun q=>some q
def aEN (fD r) (h:Zp fD=some r):BL 289 [Dy fD] [] (AV r) []:=BP func289 rfl<|AY<|AU h fun q j h=>AX 1<|.X (aRb fD xA q j)<|DN
def aFO (j:BI) (k2:(Int->AL AQ)):Int->AL AQ:=fun q=>(bif q<(j.size:Int) then(Hy j q).bind fun u=>(bif u<33 then some true else(Hy j q).bind fun z=>some (decide (z>126))).bind fun I=>(bif I then some false else k2 (BA (q+1)))else(bif (j.size:Int)>=1 then some (decide ((j.size:Int)<=32))else some false).bind fun J=>some J)
def aQE (j:BI):Int->AL AQ:=bI (aFO j) Aw
def aDc (j:BI):AL AQ:=aQE j 0
def afw (aif r) (h:aDc aif=some r):BL 290 [Dy aif] [] (Aj r) []:=BP func290 rfl<|AY<|Ac<|AY<|Ak<|FZ (fun J=>⟨BX 28 [(0,Dy aif),(5,AV (aif.size:Int)),(6,AV J)],[],0⟩) _ _ _ (Ag 28 97 []) h<|fun L k2 j J h=>AY<|Ac<|Cc h (fun h=>Ac<|Ak<|AY<|AU h fun U q h=>AX 2<|.p (WE (k:=.i64) q MQ rfl)<|.a 1<|AU h fun M u h=>.mg 13 5 (Aj M) (.bi u (k2:=fun h=>AU h fun Y z h=>.a 2<|.Z (WE (k:=.i64) z MQ rfl)<|EO))<|.bC<|Bc h D7 fun h=>BJ<|.a 2<|.nil<|j _ _ (Ag 28 97 []) h) fun h=>DC<|AX 3<|AU h fun O I h=>.mg 23 4 (Aj O) (.bi I)<|.aW<|DN
def aEb (j:AO):AL AQ:=(dW j.Room).bind fun q=>(bif (q != 0)then some true else(Zp j.bH).bind fun u=>some (u != 0)).bind fun z=>(bif z then some false else(bif (j.Kind==2)then(Zp j.Key).bind fun I=>some (I==0)else(bif (j.Kind==9)then(aDc j.Key).bind fun J=>some J else some true)))
def amK (aZ r) (h:aEb aZ=some r):BL 232 [EL aZ] [] (Aj r) []:=BP func232 rfl<|AY<|Ac<|AU h fun J j h=>AX 2<|.ca (aHV aZ.Room J j)<|.a 1<|AU h fun L q h=>.mg 7 5 (Aj L) (.bi q (k2:=fun h=>AU h fun M u h=>.a 2<|.X (aEN aZ.bH M u)<|EO))<|.bC<|Bc h D7 fun h=>Ac<|AY<|Ak<|AY<|Dv h (fun h=>AU h fun O z h=>AX 2<|.X (aEN aZ.Key O z)<|DN) fun h=>AY<|Bc h (fun h=>AU h fun U I h=>AX 2<|.X (afw aZ.Key U I)<|DN) fun h=>AY<|DN
def aKf (j:AZ) (k2:(Int->AL AQ)):Int->AL AQ:=fun q=>(bif q<(j.length:Int) then(BF j q).bind fun u=>(bif u<0 then some true else(bif q>0 then(BF j (BA (q-1))).bind fun z=>some (decide (z>=u))else some false).bind fun I=>some I).bind fun J=>(bif J then some false else k2 (BA (q+1)))else some true)
def aOK (j:AZ):Int->AL AQ:=bI (aKf j) Aw
def wP (j:AZ):AL AQ:=aOK j 0
def aQ1 (ay r) (h:wP ay=some r):BL 233 [CX ay] [] (Aj r) []:=BP func233 rfl<|AY<|Ac<|AX 1<|.Z (Bh Ae ay D6 rfl)<|Ak<|FZ (fun J=>⟨BX 28 [(0,CX ay),(5,CX ay),(6,AV (ay.length:Int)),(7,AV J)],[],0⟩) _ _ _ (Ag 28 225 []) h<|fun L k2 j J h=>AY<|Ac<|Cc h (fun h=>Ac<|Ak<|AU h fun U q h=>AX 1<|.Z (BU Ae q D6 EF rfl)<|AX 2<|AU h fun M u h=>.mg 14 12 (Aj M) (.bi u (k2:=fun h=>.a 2<|AU h fun O z h=>.mg 17 8 (Aj O) (.bi z (fun h=>AU h fun Y I h=>.a 3<|.Z (BU Ae I D6 EF rfl)<|EO))<|.aW<|EO))<|.bC<|Bc h D7 fun h=>BJ<|.a 2<|.nil<|j _ _ (Ag 28 225 []) h) fun h=>Hl
def uX (j:Int):AL AQ:=(bif j>=1 then some (decide (j<=14))else some false).bind fun q=>some q
def aSQ (iP r) (h:uX iP=some r):BL 292 [AV iP] [] (Aj r) []:=BP func292 rfl<|AY<|AX 2<|AU h fun q j h=>.mg 5 3 (Aj q) (.bi j)<|.aW<|DN
def aCW (j:DX):AL AQ:=(bif ((j.Users.length:Int)==0)then some ((j.Kinds.length:Int)==0)else some false).bind fun I=>(bif I then some (j.User==0)else some false).bind fun J=>(bif J then some (j.Message==0)else some false).bind fun L=>(bif L then some (j.State==0)else some false).bind fun M=>(bif M then some (j.gV==0)else some false).bind fun O=>(bif O then some (j.kY==0)else some false).bind fun q=>(bif q then some (j.pR==0)else some false).bind fun u=>(bif u then some (j.iM==0)else some false).bind fun z=>some z
def aot (ay r) (h:aCW ay=some r):BL 354 [N9 ay] [] (Aj r) []:=BP func354 rfl<|AY<|AX 2<|.p (Bh FN ay.Users Hu rfl)<|.a 1<|AU h fun Z z h=>.mg 7 5 (Aj Z) (.bi z (fun h=>.a 2<|.Z (Bh Fb ay.Kinds IC rfl)<|EO))<|.a 1<|AU h fun x3 I h=>.mg 14 3 (Aj x3) (Dz I)<|.a 1<|AU h fun x5 J h=>.mg 19 3 (Aj x5) (Dz J)<|.a 1<|AU h fun x7 L h=>.mg 24 3 (Aj x7) (Dz L)<|.a 1<|AU h fun x9 M h=>.mg 29 3 (Aj x9) (Dz M)<|.a 1<|AU h fun O j h=>.mg 34 3 (Aj O) (Dz j)<|.a 1<|AU h fun U q h=>.mg 39 3 (Aj U) (Dz q)<|.a 1<|AU h fun Y u h=>.mg 44 3 (Aj Y) (Dz u)<|.aW<|DN
def aEC (j:Int):AL Int:=some j
def aEf (j:CV) (u:Int):AL Int:=(aCW j.Levels).bind fun q=>(bif (!q)then aEC (Ef .or .i64 u 128)else aEC u)
def aDe (j:CV) (q:Int):AL Int:=(bif (j.fV.length:Int)>0 then aEf j (Ef .or .i64 q 64)else aEf j q)
def aEs (j:CV) (q:Int):AL Int:=(bif (j.Allow.length:Int)>0 then aDe j (Ef .or .i64 q 32)else aDe j q)
def aEi (j:CV) (q:Int):AL Int:=(bif (!(j.Via.toList==Cb.toList))then aEs j (Ef .or .i64 q 16)else aEs j q)
def yt (j:CV) (q:Int):AL Int:=(bif j.Thread then aEi j (Ef .or .i64 q 8)else aEi j q)
def Fn1 (j:CV) (v2:Int):AL Int:=(bif (j.Target != 0)then yt j (Ef .or .i64 v2 4)else yt j v2)
def yC (j:CV) (q:Int):AL Int:=(bif (j.N != 0)then Fn1 j (Ef .or .i64 q 2)else Fn1 j q)
def qo (j:CV):AL Int:=(bif (!(j.Text.toList==Cb.toList))then yC j (Ef .or .i64 0 1)else yC j 0)
def aTw (eY r) (h:qo eY=some r):BL 293 [Io eY] [] (AV r) []:=BP func293 rfl<|AY<|AY<|Dp (fun s=>∃(j:Int),Cj s ⟨BX 47 [(1,.ptr 0 0),(3,AV j)],[.box (Au (FY eY))],0⟩/\yC eY j=some r) (by rintro s ⟨j,hs,h⟩;exact DW hs<|Dp (fun s=>∃(v2:Int),Cj s ⟨BX 47 [(1,.ptr 0 0),(3,AV v2)],[.box (Au (FY eY))],0⟩/\Fn1 eY v2=some r) (by rintro s ⟨v2,hs,h⟩;exact DW hs<|Dp (fun s=>∃(q:Int),Cj s ⟨BX 47 [(1,.ptr 0 0),(3,AV q)],[.box (Au (FY eY))],0⟩/\yt eY q=some r) (by rintro s ⟨q,hs,h⟩;exact DW hs<|Dp (fun s=>∃(z:Int),Cj s ⟨BX 47 [(1,.ptr 0 0),(3,AV z)],[.box (Au (FY eY))],0⟩/\aEi eY z=some r) (by rintro s ⟨z,hs,h⟩;exact DW hs<|Dp (fun s=>∃(I:Int),Cj s ⟨BX 47 [(1,.ptr 0 0),(3,AV I)],[.box (Au (FY eY))],0⟩/\aEs eY I=some r) (by rintro s ⟨I,hs,h⟩;exact DW hs<|Dp (fun s=>∃(J:Int),Cj s ⟨BX 47 [(1,.ptr 0 0),(3,AV J)],[.box (Au (FY eY))],0⟩/\aDe eY J=some r) (by rintro s ⟨J,hs,h⟩;exact DW hs<|Dp (fun s=>∃(L:Int),Cj s ⟨BX 47 [(1,.ptr 0 0),(3,AV L)],[.box (Au (FY eY))],0⟩/\aEf eY L=some r) (by rintro s ⟨L,hs,h⟩;exact DW hs<|Dp (fun s=>∃(v8:Int),Cj s ⟨BX 47 [(3,AV v8)],[],0⟩/\aEC v8=some r) (by rintro s ⟨v8,hs,h⟩;exact DW hs<|AY<|DN)<|fun K9=>AU h fun x10 M h=>AX 2<|.X (aot eY.Levels x10 M)<|Bc h (fun h=>BJ<|.a 1<|.p (XH (k:=.i64) (u:=L) (v:=128) rfl)<|.a 1<|.nil<|K9 _ ⟨(Ef .or .i64 L 128),Ag 47 8 [],h⟩) fun h=>K9 _ ⟨L,Ag 47 8 [],h⟩)<|fun O=>AX 2<|.Z (Bh Dj eY.fV Hq rfl)<|Bc h (fun h=>BJ<|.a 1<|.p (XH (k:=.i64) (u:=J) (v:=64) rfl)<|.a 1<|.nil<|O _ ⟨(Ef .or .i64 J 64),Ag 47 10 [AP 0],h⟩) fun h=>O _ ⟨J,Ag 47 10 [AP 0],h⟩)<|fun U=>AX 2<|.Z (Bh Dj eY.Allow Hq rfl)<|Bc h (fun h=>BJ<|.a 1<|.p (XH (k:=.i64) (u:=I) (v:=32) rfl)<|.a 1<|.nil<|U _ ⟨(Ef .or .i64 I 32),Ag 47 10 [AP 0],h⟩) fun h=>U _ ⟨I,Ag 47 10 [AP 0],h⟩)<|fun Y=>AY<|Bc h (fun h=>BJ<|.a 1<|.p (XH (k:=.i64) (u:=z) (v:=16) rfl)<|.a 1<|.nil<|Y _ ⟨(Ef .or .i64 z 16),Ag 47 10 [AP 0],h⟩) fun h=>Y _ ⟨z,Ag 47 10 [AP 0],h⟩)<|fun Z=>AY<|Bc h (fun h=>BJ<|.a 1<|.p (XH (k:=.i64) (u:=q) (v:=8) rfl)<|.a 1<|.nil<|Z _ ⟨(Ef .or .i64 q 8),Ag 47 10 [AP 0],h⟩) fun h=>Z _ ⟨q,Ag 47 10 [AP 0],h⟩)<|fun K20=>AY<|Bc h (fun h=>BJ<|.a 1<|.p (XH (k:=.i64) (u:=v2) (v:=4) rfl)<|.a 1<|.nil<|K20 _ ⟨(Ef .or .i64 v2 4),Ag 47 10 [AP 0],h⟩) fun h=>K20 _ ⟨v2,Ag 47 10 [AP 0],h⟩)<|fun K22=>AY<|Bc h (fun h=>BJ<|.a 1<|.p (XH (k:=.i64) (u:=j) (v:=2) rfl)<|.a 1<|.nil<|K22 _ ⟨(Ef .or .i64 j 2),Ag 47 10 [AP 0],h⟩) fun h=>K22 _ ⟨j,Ag 47 10 [AP 0],h⟩)<|fun K24=>AY<|Bc h (fun h=>BJ<|.a 1<|.p (XH (k:=.i64) (u:=0) (v:=1) rfl)<|.a 1<|.nil<|K24 _ ⟨(Ef .or .i64 0 1),Ag 47 10 [AP 0],h⟩) fun h=>K24 _ ⟨0,Ag 47 10 [AP 0],h⟩
def aGU (j:BI) (u:(Int->AL Int)):Int->AL Int:=fun q=>(bif q<(j.size:Int) then(Hy j q).bind fun z=>(bif z<33 then some true else(Hy j q).bind fun I=>some (decide (I>126))).bind fun J=>(bif J then some 3 else u (BA (q+1)))else some 0)
def aGy (j:BI):Int->AL Int:=bI (aGU j) Aw
def rP (j:BI):AL Int:=(bif (j.toList==Cb.toList)then some 9 else(bif (j.size:Int)>64 then some 7 else aGy j 0))
def aPD (agU r) (h:rP agU=some r):BL 355 [Dy agU] [] (AV r) []:=BP func355 rfl<|AY<|Ac<|Ak<|AY<|Dv h D7 fun h=>AY<|Bc h D7 fun h=>Ac<|AY<|Ak<|FZ (fun I=>⟨BX 27 [(0,Dy agU),(12,AV (agU.size:Int)),(13,AV I)],[],0⟩) _ _ _ (Ag 27 12289 []) h<|fun J M j I h=>AY<|Ac<|Cc h (fun h=>Ac<|Ak<|AY<|AU h fun O q h=>AX 2<|.p (WE (k:=.i64) q MQ rfl)<|.a 1<|AU h fun L u h=>.mg 20 5 (Aj L) (.bi u (k2:=fun h=>AU h fun U z h=>.a 2<|.Z (WE (k:=.i64) z MQ rfl)<|EO))<|.bC<|Bc h D7 fun h=>BJ<|.a 2<|.nil<|j _ _ (Ag 27 12289 []) h) fun h=>Hl
def aFN (j:GV) (k3:(Int->AL Int)):Int->AL Int:=fun v2=>(bif v2<(j.length:Int) then(BF j v2).bind fun u=>(rP u).bind fun q=>(bif (q != 0)then some q else k3 (BA (v2+1)))else some 0)
def aPh (j:GV):Int->AL Int:=bI (aFN j) Aw
def VZ (j:GV):AL Int:=(bif (j.length:Int)>100 then some 7 else aPh j 0)
def aMp (ay r) (h:VZ ay=some r):BL 300 [Ie ay] [] (AV r) []:=BP func300 rfl<|AY<|Ac<|AX 1<|.Z (Bh Dj ay Hq rfl)<|Bc h D7 fun h=>Ac<|AX 1<|.Z (Bh Dj ay Hq rfl)<|Ak<|FZ (fun v2=>⟨BX 21 [(9,Ie ay),(10,AV (ay.length:Int)),(11,AV v2)],[],0⟩) _ _ _ (Ag 21 3584 []) h<|fun J k3 j v2 h=>AY<|Ac<|Cc h (fun h=>Ac<|Ak<|AU h fun z q h=>Ba<|.Z (BU Dj q Hq NC rfl)<|AU h fun I u h=>AX 1<|.X (aPD z I u)<|AY<|Bc h D7 fun h=>BJ<|.a 2<|.nil<|j _ _ (Ag 21 3584 []) h) fun h=>Hl
def jH (j:Int):AL AQ:=(bif j<(-1000) then some true else some (decide (j>1000))).bind fun q=>some q
def aGC (ano r) (h:jH ano=some r):BL 358 [AV ano] [] (Aj r) []:=BP func358 rfl<|AY<|AX 2<|AU h fun q j h=>.mg 5 3 (Aj q) (.bi j)<|.aW<|DN
def aAN (q:Ii) (k3:(Int->AL Int)) (v2:Int) (u:AQ):AL Int:=(bif u then some 8 else(jH q.N).bind fun j=>(bif j then some 2 else k3 (BA (v2+1))))
abbrev Mc:=A8 Ii
def aGY (j:Mc) (k3:(Int->AL Int)):Int->AL Int:=fun v2=>(bif v2<(j.length:Int) then(BF j v2).bind fun q=>(Zp q.User).bind fun z=>(bif (z != 0)then some 3 else(bif v2>0 then(BF j (BA (v2-1))).bind fun u=>aAN q k3 v2 (Op.bytesLess (q.User.toList) (u.User.toList)||q.User.toList==u.User.toList)else aAN q k3 v2 false))else some 0)
def aOP (j:Mc):Int->AL Int:=bI (aGY j) Aw
def y8 (j:Mc):AL Int:=(bif (j.length:Int)>100 then some 7 else aOP j 0)
def ajC (ay r) (h:y8 ay=some r):BL 356 [QS ay] [] (AV r) []:=BP func356 rfl<|AY<|Ac<|AX 1<|.Z (Bh FN ay Hu rfl)<|Bc h D7 fun h=>Ac<|AX 1<|.Z (Bh FN ay Hu rfl)<|Ak<|FZ (fun v2=>⟨BX 39 [(0,QS ay),(8,QS ay),(9,AV (ay.length:Int)),(10,AV v2)],[],0⟩) _ _ _ (Ag 39 1793 []) h<|fun Z k3 L v2 h=>AY<|Ac<|Cc h (fun h=>Ac<|Ak<|AU h fun q M h=>AX 1<|.Z (BU FN M Hu Nq rfl)<|Ak<|AU h fun x6 O h=>AX 2<|.X (aEN q.User x6 O)<|Dv h D7 fun h=>Dp (fun s=>∃(U:AQ),Cj s ⟨BX 39 [(0,QS ay),(4,.ptr 0 0),(8,QS ay),(9,AV (ay.length:Int)),(10,AV v2),(20,Aj U)],[.box (Au (FN q))],0⟩/\aAN q k3 v2 U=some r) (by rintro s ⟨U,hs,h⟩;exact DW hs<|Dv h D7 fun h=>AU h fun Y u h=>AX 2<|.X (aGC q.N Y u)<|Bc h D7 fun h=>BJ<|.a 2<|.nil<|L _ _ (Ag 39 1793 []) h)<|fun z=>He h (fun j h=>AU h fun I J h=>El AA AA AA (.a 2<|.c (Bo some j)<|.a 5<|.p (BU FN J Hu Nq rfl)<|.a 5<|.nil _)<|z _ ⟨(Op.bytesLess (q.User.toList) (I.User.toList)||q.User.toList==I.User.toList),Ag 39 1050385 [AP 0],h⟩) fun j h=>El AA AA AA (.a 2<|.c (Bo some j)<|.a 11<|.nil _)<|z _ ⟨false,Ag 39 1050385 [AP 0],h⟩) fun h=>Hl
def aBK (q:JR) (k3:(Int->AL Int)) (v2:Int) (u:AQ):AL Int:=(bif u then some 8 else(jH q.N).bind fun j=>(bif j then some 2 else k3 (BA (v2+1))))
abbrev NQ:=A8 JR
def aKp (j:NQ) (k3:(Int->AL Int)):Int->AL Int:=fun v2=>(bif v2<(j.length:Int) then(BF j v2).bind fun q=>(uX q.Kind).bind fun z=>(bif (!z)then some 1 else(bif v2>0 then(BF j (BA (v2-1))).bind fun u=>aBK q k3 v2 (decide (q.Kind<=u.Kind))else aBK q k3 v2 false))else some 0)
def aNR (j:NQ):Int->AL Int:=bI (aKp j) Aw
def zf (j:NQ):AL Int:=(bif (j.length:Int)>100 then some 7 else aNR j 0)
def aal (ay r) (h:zf ay=some r):BL 357 [QO ay] [] (AV r) []:=BP func357 rfl<|AY<|Ac<|AX 1<|.Z (Bh Fb ay IC rfl)<|Bc h D7 fun h=>Ac<|AX 1<|.Z (Bh Fb ay IC rfl)<|Ak<|FZ (fun v2=>⟨BX 39 [(0,QO ay),(8,QO ay),(9,AV (ay.length:Int)),(10,AV v2)],[],0⟩) _ _ _ (Ag 39 1793 []) h<|fun Z k3 J v2 h=>AY<|Ac<|Cc h (fun h=>Ac<|Ak<|AU h fun q L h=>AX 1<|.Z (BU Fb L IC Nu rfl)<|Ak<|AU h fun x6 M h=>AX 2<|.X (aSQ q.Kind x6 M)<|Dv h D7 fun h=>Dp (fun s=>∃(O:AQ),Cj s ⟨BX 39 [(0,QO ay),(4,.ptr 0 0),(8,QO ay),(9,AV (ay.length:Int)),(10,AV v2),(20,Aj O)],[.box (Au (Fb q))],0⟩/\aBK q k3 v2 O=some r) (by rintro s ⟨O,hs,h⟩;exact DW hs<|Dv h D7 fun h=>AU h fun U u h=>AX 2<|.X (aGC q.N U u)<|Bc h D7 fun h=>BJ<|.a 2<|.nil<|J _ _ (Ag 39 1793 []) h)<|fun z=>He h (fun j h=>AU h fun Y I h=>El AA AA AA (.a 2<|.c (Bo some j)<|.a 5<|.p (BU Fb I IC Nu rfl)<|.a 5<|.nil _)<|z _ ⟨(decide (q.Kind<=Y.Kind)),Ag 39 1050385 [AP 0],h⟩) fun j h=>El AA AA AA (.a 2<|.c (Bo some j)<|.a 11<|.nil _)<|z _ ⟨false,Ag 39 1050385 [AP 0],h⟩) fun h=>Hl
def aMB (j:DX) (u:(Int->AL Int)):Int->AL Int:=fun q=>(bif q<7 then(BF ([j.User,j.Message,j.State,j.gV,j.kY,j.pR,j.iM]:AZ) q).bind fun z=>(jH z).bind fun I=>(bif I then some 2 else u (BA (q+1)))else some 0)
def aHU (j:DX):Int->AL Int:=bI (aMB j) Aw
def Zb (j:DX):AL Int:=(y8 j.Users).bind fun q=>(bif (q != 0)then some q else(zf j.Kinds).bind fun u=>(bif (u != 0)then some u else aHU j 0))
def amc (ay r) (h:Zb ay=some r):BL 301 [N9 ay] [] (AV r) []:=BP func301 rfl<|AY<|Ac<|AU h fun L j h=>AX 2<|.X (ajC ay.Users L j)<|AY<|Bc h D7 fun h=>Ac<|AU h fun M q h=>AX 2<|.X (aal ay.Kinds M q)<|AY<|Bc h D7 fun h=>Ac<|AY<|Ak<|FZ (fun J=>⟨BX 40 [(33,.d ((MZ Ae) ([ay.User,ay.Message,ay.State,ay.gV,ay.kY,ay.pR,ay.iM]:(A8 Int)))),(34,AV J)],[],0⟩) _ _ _ (Ag 40 25769803776 []) h<|fun O Z u J h=>AY<|Ac<|Cc h (fun h=>Ac<|Ak<|AU h fun U z h=>Ba<|.Z (zu (k:=.i64) Ae z zX EF AA rfl)<|AU h fun Y I h=>AX 1<|.ca (aGC U Y I)<|.bC<|Bc h D7 fun h=>BJ<|.a 2<|.nil<|u _ _ (Ag 40 25769803776 []) h) fun h=>Hl
def aBl (j:AQ):AL Int:=(bif j then some 7 else some 0)
def Qi (q:Int) (j:CV):AL Int:=(bif (q==9)then some (!(j.Text.toList==Cb.toList))else some false).bind fun z=>(bif z then(rP j.Text).bind fun I=>some I else(bif (q==12)then some (j.Text.toList==Cb.toList)else some false).bind fun J=>(bif J then some 9 else(bif (q==12)then some (decide ((j.Text.size:Int)>32))else some false).bind fun u=>(bif u then aBl u else aBl (decide ((j.Text.size:Int)>400)))))
def akH (iP fK r) (h:Qi iP fK=some r):BL 294 [AV iP,Io fK] [] (AV r) []:=BP func294 rfl<|AY<|Ac<|Ak<|AX 2<|AU h fun L u h=>.mg 8 4 (Aj L) (.bi u)<|.aW<|Dv h (fun h=>AU h fun M z h=>AX 2<|.X (aPD fK.Text M z)<|DN) fun h=>AX 2<|AU h fun O I h=>.mg 19 4 (Aj O) (.bi I)<|.aW<|Dv h D7 fun h=>Dp (fun s=>∃(J:AQ),Cj s ⟨BX 37 [(24,Aj J)],[],0⟩/\aBl J=some r) (by rintro s ⟨J,hs,h⟩;exact DW hs<|Ql)<|fun K10=>AX 2<|AU h fun j q h=>.mg 27 5 (Aj j) (.bi q)<|.aW<|Cc h (fun h=>K10 _ ⟨j,Ag 37 16777216 [],h⟩) fun h=>BJ<|.a 5<|.nil<|K10 _ ⟨(decide ((fK.Text.size:Int)>400)),Ag 37 16777216 [],h⟩
def qA (j:CV) (q:Int) (v2:Int):AL Int:=(bif j.N<q then some true else some (decide (j.N>v2))).bind fun u=>(bif u then some 2 else some 0)
def O8 (q:Int) (j:CV):AL Int:=(bif (q==2)then qA j 0 4 else(bif (q==8)then qA j 0 1000000000 else(bif (q==10)then qA j 1 10000 else(bif (q==9)then(bif (j.N==1)then some true else some (j.N==2)).bind fun u=>(bif u then some true else some (j.N==6)).bind fun z=>(bif z then some 0 else some 2)else qA j 0 3))))
def an5 (iP fK r) (h:O8 iP fK=some r):BL 295 [AV iP,Io fK] [] (AV r) []:=BP func295 rfl<|AY<|AY<|Dp (fun s=>∃(u:Int) (v2:Int),Cj s ⟨BX 39 [(3,.ptr 0 0),(5,AV u),(6,AV v2)],[.box (Au (FY fK))],0⟩/\qA fK u v2=some r) (by rintro s ⟨u,v2,hs,h⟩;exact DW hs<|Ac<|AX 4<|AU h fun L z h=>.mg 33 5 (Aj L) (.bi z)<|.bC<|Ql)<|fun K6=>AY<|Ak<|AY<|Dv h (fun h=>BJ<|.a 1<|.nil<|K6 _ ⟨0,4,Ag 39 104 [AP 0],h⟩) fun h=>AY<|Dv h (fun h=>BJ<|.a 1<|.nil<|K6 _ ⟨0,1000000000,Ag 39 104 [AP 0],h⟩) fun h=>AY<|Dv h (fun h=>BJ<|.a 2<|.nil<|K6 _ ⟨1,10000,Ag 39 104 [AP 0],h⟩) fun h=>AY<|Bc h (fun h=>Ac<|AY<|AX 2<|AU h fun I j h=>.mg 21 3 (Aj I) (.bi j)<|.a 1<|AU h fun J q h=>.mg 26 2 (Aj J) (Dz q)<|.bC<|Ql) fun h=>K6 _ ⟨0,3,Ag 39 104 [AP 0],h⟩
def RX (q:Int) (j:CV):AL Int:=(bif j.Target<0 then some true else(bif (j.Target==0)then some (q != 11)else some false).bind fun u=>some u).bind fun z=>(bif z then some 2 else some 0)
def amZ (iP fK r) (h:RX iP fK=some r):BL 296 [AV iP,Io fK] [] (AV r) []:=BP func296 rfl<|AY<|Ac<|AX 3<|AU h fun u j h=>.mg 8 8 (Aj u) (.bi j (k2:=fun h=>.a 3<|AU h fun z q h=>.mg 12 3 (Aj z) (.bi q)<|.aW<|EO))<|.bC<|Ql
end
end Go.Proofs.YtfmoknlmaldmlaaGreat
