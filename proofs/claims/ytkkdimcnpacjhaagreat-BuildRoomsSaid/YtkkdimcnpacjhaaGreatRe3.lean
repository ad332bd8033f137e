/- Part 3 of the laws' proofs (short forms by wip/shrink2.py). -/
import Derived.Test.YtkkdimcnpacjhaaGreatRe2
set_option linter.defProp false
set_option linter.unnecessarySimpa false
set_option linter.unusedSectionVars false
set_option linter.unusedVariables false
set_option linter.unusedSimpArgs false
namespace Go.Proofs.YtkkdimcnpacjhaaGreat
open Go.RowKit Go.Proofs.Tryz
section
def Dv.freeze {C:En} {ok:Nat->Prop} {H:A8 CP} {es:A8 Bf} {w:Bc} (hm:Dv C ok H es w) {k:Nat} {e:Bf} {hd:CP} (hk:es[k]? =some e) (hl:e.live=true) (O:H[k]? =some hd):Dv C (fun b=>ok b\/EF hd.v=some b) H (es.set k .dead) w:=by
 have z:k<es.length:=(Fv.1 hk).1;have L:=fun b q=>hm.blk k _ hd b hk hl O q;have hg:Ep ok w (fun b=>ok b\/EF hd.v=some b) w:=fun b q=>⟨.inl q,rfl⟩
 refine⟨hm.fr,fun b q=>.inl (hm.yF b q),?_,?_,hm.names,dR,?_,?_,?_⟩
 ·rintro b (q|q)
  ·exact hm.yG b q
  exact .inr (L b q).2.2
 ·rintro b (q|q)
  ·exact hm.kM b q
  exact(L b q).2.1
 ·intro j e' h' he I;rcases MI z he with⟨rfl,rfl⟩|⟨_,J⟩
  ·trivial
  exact(hm.ent j e' h' J I).mono hg (.refl _) (fun _ _ _=>rfl)
 ·intro j e' h' b he M I q;rcases MI z he with⟨rfl,rfl⟩|⟨hne,J⟩
  ·cases M
  have h3:=hm.blk j e' h' b J M I q;refine⟨fun u=>?_,h3.2⟩;rcases u with u|u
  ·exact h3.1 u
  exact hne (hm.Ef j k e' _ h' hd b J hk M hl I O q u)
 intro i j e1 e2 h1 h2 b he1 he2 U Y hh1 hh2 hb1 hb2;rcases MI z he1 with⟨rfl,rfl⟩|⟨_,Z⟩
 ·cases U
 rcases MI z he2 with⟨rfl,rfl⟩|⟨_,amn⟩
 ·cases Y
 exact hm.Ef i j e1 e2 h1 h2 b Z amn U Y hh1 hh2 hb1 hb2
section
variable {P:Cm} {o:Oper} {es:A8 Bf}
def acs {t L M:CO} {x:CM} {k:Nat} {m:A8 (Aw×D)} (ht:P.underlying t=some (.map L M)) (O:es[k]? =some (.map m)) (ho:o.op=.range t x):CS P o [(x,.mp k)] es (.ptr es.length 0) (es.set k .dead++[.iter m []]):=
 .eff fun C ok H a w hm hn=>by
  obtain⟨hd,U,u⟩:=H8 hm.ent hm.hlen O;obtain⟨b,ms,clock,Y,z,h3⟩:=u;have Z:=V4 (hn (x,.mp k) Bj) U;simp only at Z;have hb:b<w.heap.size:=(Gl.1 z).1;have m0:=hm.freeze O rfl U;have g0:Ep ok w (fun c=>ok c\/EF hd.v=some c) w:=fun c q=>⟨.inl q,rfl⟩
  have I:EF hd.v=some b:=by rw[Y];rfl
  have g1:Ep (fun c=>ok c\/EF hd.v=some c) w (fun c=>ok c\/EF hd.v=some c) (w.alloc (.mapIter (some b) clock #[] clock)):=fun c q=>⟨q,L8 _ _ _ (m0.kM c q)⟩
  have J:FZ (fun c=>ok c\/EF hd.v=some c) (w.alloc (.mapIter (some b) clock #[] clock)) (H++[⟨.pointer (some ⟨w.heap.size,0,none⟩),0⟩]) ⟨.pointer (some ⟨w.heap.size,0,none⟩),0⟩ (.iter m []):=
   ⟨w.heap.size,b,ms,clock, #[],rfl,mD _ _,.inr I,(L8 _ _ _ hb).trans z,(h3.mono g0).mono g1,rfl,fun j i hj=>by simp at hj⟩
  obtain⟨m1,g2⟩:=m0.push (.mapIter (some b) clock #[] clock) ⟨.pointer (some ⟨w.heap.size,0,none⟩),0⟩ _ (aF1 w) J;refine⟨.pointer (some ⟨w.heap.size,0,none⟩),_,_,_,.inl ?_,g0.trans g2,Ht _ _,m1,.ptr _ _ w.heap.size 0 P7⟩;have hr:=run_range_map (P:=P) w t L M b ms clock ht z;simp[execOp,ho,Z,Y,hr]
def born_inj {ok:Nat->Prop} {w:Bc} {es:A8 (Aw×D)} {ms:Bh MapEntry} {clock:Nat} (h:Lc ok w es ms clock) {i j:Nat} {m n:MapEntry} (hi:ms[i]? =some m) (u:ms[j]? =some n) (z:m.born=n.born):i=j:=by
 rcases aEv i j with q|q|q
 ·have :=h.inc i j m n q hi u;omega
 ·exact q
 have :=h.inc j i n m q u hi;omega
def acR {ok:Nat->Prop} {w:Bc} {es:A8 (Aw×D)} {ms:Bh MapEntry} {clock:Nat} (h:Lc ok w es ms clock):(ms.toList.map (·.born)).Nodup:=by
 unfold List.Nodup;rw[KN];intro i j hi q u;simp only[DY,TN]at hi q;have z:ms[i]? =some ms[i]:=SC
 have I:ms[j]? =some ms[j]:=Zg
 simp only[Tt,Array.getElem_toList];intro e;have :=born_inj h z I e;omega
def adB {K V:Type} {x:CM} {n i:Nat} {ek:K->Aw} {ev:V->D} {m:A8 (K×V)} {vis:A8 Nat} {p:K×V} (hp:m[i]? =some p) (he:es[n]? =some (.iter (m.map (DT ek ev)) (vis++[i]))) (ho:o.op=.entry x):
 CS P o [(x,.ptr n 0)] es (.eX [.d (.lit (ek p.1)),.d (ev p.2)]) es:=
 .pure fun ok H a w u hl hn=>by
  obtain⟨hd,hh,I⟩:=H8 u hl he;obtain⟨bi,M,ms,clock,seen,O,h2,h3,h4,U,h6,h7⟩:=I;have J:=hn (x,.ptr n 0) Bj;simp only at J;generalize hv:a.eval x=v at J;cases J with
  |ptr _ _ b' s Y=>
   rw[hh]at Y;obtain rfl:=Dh Y;simp only[Value.pointer.injEq,Jh,Addr.mk.injEq]at O;obtain⟨rfl,_⟩:=O;obtain⟨e,Z,q2⟩:=h7 vis.length i Bj;have L:(m.map (DT ek ev))[i]? =some (DT ek ev p):=by rw[Ji,hp];rfl
   obtain⟨r1,r2,_⟩:=U.ent i _ e L Z;refine⟨.tuple #[e.key,e.val],?_,.eX _ _ rfl fun j hj=>?_⟩
   ·have q:seen.back?=some e.born:=by
     rw[Array.back?_eq_getElem?,h6];simpa using q2
    have z:e∈ms.toList:=by
     rw[Array.mem_toList_iff];exact Array.mem_of_getElem? Z
    have hf:ms.find? (·.born==e.born)=some e:=by rw[←Array.find?_toList];exact find_born e ms.toList (acR U) z
    have g1:(getObj b').run P w=.ok (.mapIter (some M) clock seen clock) w:=by simp[getObj,Sem.run,h2]
    have g2:(getObj M).run P w=.ok (.map ms clock) w:=Sz h4;simp[execOp,ho,hv,Instr.entry,g1,g2,q,hf]
   match j,hj with
   |0,_=>rw[show([Ai.d (.lit (ek p.1)),.d (ev p.2)]:A8 Ai).getD 0 .junk=.d (.lit (ek p.1))from rfl,show(#[e.key,e.val]:Bh Aw).getD 0 undef=e.key from rfl,r1];exact .d _ _ (.lit _)
   |1,_=>exact .d _ _ r2
end
def afI {P:Cm} {w:Bc} {ok:Nat->Prop} {ty:CO} {bi Y clock:Nat} {seen:Bh Nat} {ms:Bh MapEntry} {es:A8 (Aw×D)} (hi:w.heap[bi]? =some (.mapIter (some Y) clock seen clock)) (hb:w.heap[Y]? =some (.map ms clock)) (hM:Lc ok w es ms clock):
 ((leftOf ms seen).size=0/\(Instr.next (.pointer (some ⟨bi,0,none⟩)) false ty).run P w=.ok (.tuple #[.bool false]) w)\/
 ∃e∈(leftOf ms seen).toList,∃q:Bc,(q=w\/q=w.drew)/\(Instr.next (.pointer (some ⟨bi,0,none⟩)) false ty).run P w=.ok (.tuple #[.bool true,e.key,e.val]) (q.putObj bi (.mapIter (some Y) clock (seen.push e.born) clock)):=by
 have z:∀x∈ms.toList,x.born<clock:=fun x I=>by
  obtain⟨i,hi,rfl⟩:=IK I;have J:i<ms.size:=Gp
  have Z:i<es.length:=by rw[←hM.len];exact J
  have :=(hM.ent i es[i] ms[i] (by simp[Z]) (by simp[J])).2.2;simpa using this
 simp only[Instr.next,getObj,Fl,Sem.run,hi,hb,Result.andThen,next_test_false seen ms clock clock z (EX _),RU,KT];unfold leftOf;have u:∀x∈(Array.filter (fun e=> !seen.contains e.born) ms).toList,x.born<clock:=fun x I=>z x (by simp at I ⊢;exact I.1);generalize Array.filter (fun e=> !seen.contains e.born) ms=L at u ⊢;have e1:L.filter (fun x=>x.born<clock)=L:=Array.filter_eq_self.2 (fun x I=>by simpa using u x Ti)
 have e2:L.filter (fun x=>x.born>=clock)= #[]:=by
  rw[Array.filter_eq_empty_iff];intro x I;have :=u x Ti;simp;omega
 simp only[e1,e2,Array.append_empty];by_cases h0:L.size=0
 ·left;have :L= #[]:=XY h0;subst this;refine⟨rfl,?_⟩;simp[choose,Sem.run,Question.forced]
 right;have hne:L.isEmpty=false:=by simp[Array.isEmpty,h0]
 simp only[hne,RU,KT,Array.empty_append,Array.size_map]
 have hch:∃(j:Nat) (q:Bc),j<L.size/\(q=w\/q=w.drew)/\(choose (Question.mapNext L.size)).run P w=.ok j q:=by
  by_cases hf:L.size<=1
  ·exact⟨0,w,AB,.inl rfl,by simp[choose,Sem.run,Question.forced,hf]⟩
  exact⟨_,w.drew,nN _ AB,.inr rfl,by
   simp only[choose,Sem.run,Question.forced,Hd,hf,KT,Question.cut]
   rfl⟩
 obtain⟨j,q,hj,M,O⟩:=hch;refine⟨L[j],Bj,q,M,?_⟩;have hi1:q.heap[bi]? =some (.mapIter (some Y) clock seen clock):=by rcases M with rfl|rfl<;>exact hi
 have U:∀(o':Obj),(setObj bi o').run P q=.ok () (q.putObj bi o'):=fun o'=>by simp[setObj,Sem.run,hi1,World.putObj]
 simp only[O,Array.getElem?_map,bQ hj,Ij,Fl,U,Result.andThen];rfl
section
variable {P:Cm} {ops:Bh Oper} {o:Oper} {rest l:A8 Oper} {σ:BR} {Q:Exit->BR->Prop} {K V:Type}
def ait {ms:Bh MapEntry} {seen:Bh Nat} {e:MapEntry} (h:e∈(leftOf ms seen).toList):e∈ms.toList/\e.born∉seen:=by
 unfold leftOf at h;simp at h;exact⟨by simpa using h.1,h.2⟩
def Dw.next {ek:K->Aw} {ev:V->D} {x:CM} {ty:Ad} (n:Nat) (m:A8 (K×V)) (vis:A8 Nat) (hn:σ.ents[n]? =some (.iter (m.map (DT ek ev)) vis)) (ho:o.op=.next x false) (hx:σ.get x=.ptr n 0) (hg:JC ops σ o.guard=some true)
 (h0:(∀i,i<m.length->i∈vis)->Dw P ops rest (σ.qJ o.dst (.eX [.d (Ea false)])) Q)
 (h1:∀i p,m[i]? =some p->i∉vis->Dw P ops rest (σ.put o.dst (.eX [.d (Ea true),.d (.lit (ek p.1)),.d (ev p.2)]) (σ.ents.set n (.iter (m.map (DT ek ev)) (vis++[i])))) Q):Dw P ops (o::rest) σ Q:=by
 refine⟨fun ro l2 Q' C ok H a w z hk=>?_⟩;show wpListIn (JF ro) 0 P ops Q' (o::(rest++l2)) a w;unfold wpListIn;rw[DX (Q7 z (Na hg))];have hv:=hx▸z.get x;obtain⟨hd,Z,hent⟩:=H8 z.mem.ent z.mem.hlen hn;obtain⟨bi,L,ms,clock,seen,q1,q2,q3,q4,q5,q6,q7⟩:=hent
 have J:a.eval x=.pointer (some ⟨bi,0,none⟩):=by
  generalize a.eval x=v at hv;cases hv with
  |ptr _ _ b' s hH=>
   rw[Z]at hH;obtain rfl:=Dh hH;simp only[Value.pointer.injEq,Jh,Addr.mk.injEq]at q1;obtain⟨rfl,_⟩:=q1;rfl
 have hlen:ms.size=m.length:=by rw[q5.len,DY]
 unfold Oper.wpIn;rw[iT _ _ _ (by rw[ho];intro c h;cases h)];rcases afI (P:=P) (ty:=o.type) q2 q4 q5 with⟨hs,hr⟩|⟨e,M,w1,hw1,hr⟩
 ·have he:(execOp a.eval o).run P w=.ok (.value (.tuple #[.bool false])) w:=by simp[execOp,ho,J,hr]
  rw[he];refine⟨fun _ _=>trivial,?_⟩
  refine(h0 fun i hi=>?_).run ro l2 Q' C ok H _ w (z.put o.dst (.refl _ _) (.refl _) z.mem (.eX _ _ rfl fun j q=>by
   match j,q with
   |0,_=>exact .d _ _ (.lit _))) hk
  have O:i<ms.size:=AB
  have hnot:ms[i]∉(leftOf ms seen).toList:=by
   have :leftOf ms seen= #[]:=XY hs;rw[this];simp
  have hin:ms[i].born∈seen:=by
   apply ig;intro hc;refine hnot ?_;unfold leftOf;simp[hc]
  obtain⟨j,q,U⟩:=Array.getElem_of_mem hin;have hjv:j<vis.length:=AB
  obtain⟨e,r1,r2⟩:=q7 j vis[j] (by simp[hjv])
  have hb:e.born=ms[i].born:=by
   have e3:seen[j]? =some seen[j]:=Zg
   rw[e3,U]at r2;exact(Dh r2).symm
  have :=born_inj q5 r1 (show ms[i]? =some ms[i] by simp[O]) hb;rw[←this];simp
 have he:(execOp a.eval o).run P w=.ok (.value (.tuple #[.bool true,e.key,e.val])) (w1.putObj bi (.mapIter (some L) clock (seen.push e.born) clock)):=by simp[execOp,ho,J,hr]
 rw[he];refine⟨fun _ _=>trivial,?_⟩;obtain⟨aHS,hes⟩:=ait M;obtain⟨i,hi,hie⟩:=IK aHS;have O:i<ms.size:=Gp
 have Y:ms[i]? =some e:=by rw[←hie];simp[O]
 have him:i<m.length:=AB
 have hpe:(m.map (DT ek ev))[i]? =some (DT ek ev m[i]):=by simp[him]
 obtain⟨r1,r2,_⟩:=q5.ent i _ e hpe Y
 have aHT:i∉vis:=fun hc=>by
  obtain⟨j,q,U⟩:=IK hc;obtain⟨e2,s1,s2⟩:=q7 j i (by simp[←U,q]);rw[Y]at s1;obtain rfl:=Dh s1;exact hes (Array.mem_of_getElem? s2)
 have I:Dv C ok H σ.ents w1/\Ep ok w ok w1:=by
  rcases hw1 with rfl|rfl
  ·exact⟨z.mem,.refl _ _⟩
  exact z.mem.drew
 have hi1:w1.heap[bi]? =some (.mapIter (some L) clock seen clock):=by rcases hw1 with rfl|rfl<;>exact q2
 have u:w1.heap[L]? =some (.map ms clock):=(I.2 L q3).2.trans q4;have hne:L≠bi:=fun e=>by rw[e,hi1]at u;cases u
 obtain⟨m2,g2⟩:=I.1.akw (o:=.mapIter (some L) clock (seen.push e.born) clock) (e':=.iter (m.map (DT ek ev)) (vis++[i])) hn rfl Z (by rw[q1];rfl)
  (fun g=>⟨bi,L,ms,clock,seen.push e.born,q1,X9 (Gl.1 hi1).1,q3,(YJ hne).trans u,(q5.mono I.2).mono g,by simp[q6],fun j i' q=>by
   by_cases hjl:j<vis.length
   ·rw[Hf hjl]at q;obtain⟨e2,s1,s2⟩:=q7 j i' q;exact⟨e2,s1,by rw[Array.getElem?_push_lt AB];simpa[bQ (show j<seen.size by omega)]using s2⟩
   have hj2:j=vis.length:=by
    have :=(Fv.1 q).1;simp at this;omega
   subst hj2;simp at q;subst q
   exact⟨e,Y,by rw[←q6];simp⟩⟩)
 have g3:=I.2.trans g2
 have hp:=(h1 i m[i] (by simp[him]) aHT).run ro l2 Q' C ok H (a.put o.dst (.tuple #[.bool true,e.key,e.val])) _ (z.put o.dst (x:=.eX [.d (Ea true),.d (.lit (ek m[i].1)),.d (ev m[i].2)]) g3 (.refl _) m2 (.eX _ _ rfl fun j q=>by
  match j,q with
  |0,_=>exact .d _ _ (.lit _)
  |1,_=>
   show R ok _ H (.d (.lit (ek m[i].1))) e.key;rw[r1];exact .d _ _ (.lit _)
  |2,_=>exact .d _ _ (r2.mono g3))) hk
 exact hp
def Bz.aEf {A Rr:Type} {cd:Code} (S:A8 Nat->A->BR) (m:A8 (K×V)) (step:A->K×V->AO A) (Kf:A->AO Rr) (r:Rr) (a0:A) (hs:Cb σ (S [] a0))
 (L:∀vis:A8 Nat,vis.Nodup->(∀i,i∈vis↔i<m.length)->((vis.filterMap fun(i:Nat)=>m[i]?).foldlM step a0).bind Kf=some r)
 (round:∀(J:BR->Prop) (vis:A8 Nat) (a:A),((∀i,i<m.length->i∈vis)->Kf a=some r)->(∀i p,m[i]? =some p->i∉vis->∃a',step a p=some a'/\∀s,Cb s (S (vis++[i]) a')->J s)->Bz P cd (S vis a) (KH J Q)):Bz P (.loop cd) σ Q:=by
 have U:∀vis:A8 Nat,vis.Nodup->(∀i∈vis,i<m.length)->∃rest,(vis++rest).Nodup/\(∀i,i∈vis++rest↔i<m.length):=fun vis q u=>by
  refine⟨(List.range m.length).filter fun i=> !vis.contains i,?_,fun i=>?_⟩
  ·refine aBo.2 ⟨q,List.Pairwise.filter _ List.nodup_range,fun a ha b Y e=>?_⟩;subst e;rw[HY]at Y;simp[ha]at Y
  rw[Il,HY];constructor
  ·rintro(h|h)
   ·exact u i h
   simpa using h.1
  intro h;by_cases hc:i∈vis
  ·exact .inl hc
  exact .inr ⟨KC,by simp[hc]⟩
 refine Bz.loop (fun n s=>∃vis a,n=m.length-vis.length/\vis.Nodup/\(∀i∈vis,i<m.length)/\(vis.filterMap fun(i:Nat)=>m[i]?).foldlM step a0=some a/\Cb s (S vis a)) (m.length) ⟨[],a0,Bj,Zv,fun i h=>J8,rfl,hs⟩ ?_;rintro n s ⟨vis,a,rfl,q,u,hf,M⟩;refine DJ M (round _ vis a (fun hc=>?_) (fun i p hp hi=>?_))
 ·have :=L vis q (fun i=>⟨u i,hc i⟩);rw[hf]at this;exact this
 have him:i<m.length:=(Fv.1 hp).1;have z:(vis++[i]).Nodup:=aBo.2 ⟨q,Bj,fun a ha b Y e=>by simp at Y;subst Y;subst e;exact hi ha⟩
 have I:∀j∈vis++[i],j<m.length:=fun j Z=>by
  rcases Il.1 Z with h|h
  ·exact u j h
  simp at h;subst h;exact him
 obtain⟨rest,h1,h2⟩:=U (vis++[i]) z I;have h3:=L _ h1 h2;rw[dL,dL]at h3;simp only[QC,aJX,hp,List.foldlM_append,Ud,List.foldlM_nil,hf,bind,pure,Af]at h3;cases hst:step a p with
 |none=>rw[hst]at h3;simp at h3
 |some a'=>
  refine⟨a',rfl,fun s hs=>⟨m.length-(vis++[i]).length,?_,vis++[i],a',rfl,z,I,?_,hs⟩⟩
  ·have :vis.length<m.length:=by
    have M:vis.length<=(List.range m.length).length:=by
     refine aWo q ?_;intro j Z;simpa using u j Z
    have O:(vis++[i]).length<=(List.range m.length).length:=by
     refine aWo z ?_;intro j Z;simpa using I j Z
    simp at O;omega
   simp;omega
  rw[dL,List.foldlM_append,hf];simp[hp,hst]
end
def aln {α:Type}:∀(m:A8 α) (vis:A8 Nat),vis.Nodup->(∀i,i∈vis↔i<m.length)->(vis.filterMap fun(i:Nat)=>m[i]?).Perm m:=fun m vis j q=>by
 have u:vis.Perm (List.range m.length):=by
  rw[List.perm_iff_count];intro a;rw[j.count,List.nodup_range.count];simp[q a]
 have z:((List.range m.length).filterMap fun(i:Nat)=>m[i]?)=m:=by
  apply bV;intro i
  have :∀(n:Nat),n<=m.length->((List.range n).filterMap fun(i:Nat)=>m[i]?)=m.take n:=by
   intro n
   induction n with
   |zero=>intro _;simp
   |succ n I=>
    intro L;rw[List.range_succ,dL,I AB];have hl:n<m.length:=AB
    simp[hl]
  rw[this m.length (EX _),GX]
 have J:=u.filterMap (fun(i:Nat)=>m[i]?)
 rwa [z]at J
def aJi {α β:Type} {c:α->Ad} {f:α->β} {b:Nat}:∀(l:A8 α) (v:A8 β),
 l.foldlM (fun v p=>bif c p then(DL b v [f p]).bind fun x=>some x else some v) v=if(v.length+(l.filter c).length)*b<=140737488355328\/l.filter c=[]then some (v++(l.filter c).map f)else none
 | [],v=>Bj
 |p::l,v=>by
  rw[Ud];cases u:c p with
  |false=>
   have q:=aJi (c:=c) (f:=f) (b:=b) l v;simp only[BZ,bind,Af,q,Ru,u,RU,KT]
  |true=>
   simp only[Bq,Ru,u,Jr];have I:DL b v [f p]=if(v.length+[f p].length)*b<=140737488355328 then some (v++[f p])else none:=rfl
   rw[I];by_cases j:(v.length+[f p].length)*b<=140737488355328
   ·rw[DX j];have q:=aJi (c:=c) (f:=f) (b:=b) l (v++[f p]);simp only[Af,bind,q];have z:(v++[f p]).length+(l.filter c).length=v.length+(p::l.filter c).length:=EN
    rw[z];by_cases hl:l.filter c=[]
    ·rw[hl]at z ⊢;simp only[GZ,N8]at j ⊢;simp[j]
    simp[hl]
   rw[Dk j];simp only[Option.bind_none,bind];rw[Dk];rintro(h|h)
   ·refine j (FC (Jz _ ?_) h);simp
   cases h
def ak9 {α β Rr:Type} {c:α->Ad} {f:α->β} {b:Nat} {u q:A8 α} {v:A8 β} {Kf:A8 β->AO Rr} {r:Rr} (hp:u.Perm q) (I:∀x y,x.Perm y->Kf x=Kf y)
 (h:(q.foldlM (fun v p=>bif c p then(DL b v [f p]).bind fun x=>some x else some v) v).bind Kf=some r):
 (u.foldlM (fun v p=>bif c p then(DL b v [f p]).bind fun x=>some x else some v) v).bind Kf=some r:=by
 rw[aJi]at h ⊢;have j:=hp.filter c
 have e:((v.length+(u.filter c).length)*b<=140737488355328\/u.filter c=[])↔((v.length+(q.filter c).length)*b<=140737488355328\/q.filter c=[]):=by
  rw[j.length_eq];constructor
  ·rintro(h|h)
   ·exact .inl h
   exact .inr (by rw[h]at j;exact j.symm.eq_nil)
  rintro(h|h)
  ·exact .inl h
  exact .inr (by rw[h]at j;exact j.eq_nil)
 by_cases z:((v.length+(q.filter c).length)*b<=140737488355328\/q.filter c=[])
 ·rw[DX z]at h;rw[DX (e.2 z)];simp only[Af]at h ⊢;rw[←h];exact I _ _ ((j.map f).append_left v)
 rw[Dk z]at h;cases h
section
variable {K V:Type} [BEq K]
def Gf :A8 (K×V)->K->Nat
 | [],_=>0
 |p::m,k=>bif k==p.1 then 0 else Gf m k+1
def aP6 {ek:K->Aw} {kd:TypeDesc} (hs:∀a b,Instr.sameNow kd (ek a) (ek b)=some (a==b)) (k:K) (v:V):∀(m:A8 (K×V)) (l:A8 MapEntry) (i:Nat),l.map (·.key)=m.map (fun p=>ek p.1)->
 (Instr.findNow kd (ek k) l i=some none/\DV m k=none/\FM m k v=m++[(k,v)]/\Gf m k=m.length)\/
 ∃e p,Instr.findNow kd (ek k) l i=some (some (i+Gf m k,e.val))/\l[Gf m k]? =some e/\m[Gf m k]? =some p/\DV m k=some p.2/\(k==p.1)=true/\FM m k v=m.set (Gf m k) (k,v)
 | [],[],_,_=>.inl ⟨rfl,rfl,rfl,rfl⟩
 | [],_::_,_,h=>J8
 |_::_,[],_,h=>J8
 |p::m,e::l,i,h=>by
  simp only[JJ,aFR]at h;cases j:(k==p.1)with
  |true=>
   refine .inr ⟨e,p,?_,?_,?_,?_,j,?_⟩
   ·simp[Instr.findNow,h.1,hs,j,Gf]
   ·simp[Gf,j]
   ·simp[Gf,j]
   ·simp[DV,j]
   simp[FM,Gf,j]
  |false=>
   rcases aP6 hs k v m l (i+1) h.2 with⟨q,u,z,I⟩|⟨e',J,q,u,z,I,L,M⟩
   ·refine .inl ⟨?_,?_,?_,?_⟩
    ·simp[Instr.findNow,h.1,hs,j,q]
    ·simp[DV,j,u]
    ·simp[FM,j,z]
    simp[Gf,j,I]
   refine .inr ⟨e',J,?_,by simpa[Gf,j]using u,by simpa[Gf,j]using z,?_,L,?_⟩
   ·simp[Instr.findNow,h.1,hs,j,q,Gf];omega
   ·simp[DV,j,I]
   simp[FM,j,M,Gf]
def aTc (k:K) (v:V):∀m:A8 (K×V),(FM m k v)[Gf m k]? =some (k,v)
 | []=>rfl
 |p::m=>by
  cases j:(k==p.1)with
  |true=>simp[FM,Gf,j]
  |false=>simp[FM,Gf,j,aTc k v m]
def aTz (k:K) (v u:V):∀m:A8 (K×V),(FM m k v).set (Gf m k) (k,u)=FM m k u
 | []=>rfl
 |p::m=>by
  cases j:(k==p.1)with
  |true=>simp[FM,Gf,j]
  |false=>simp[FM,Gf,j,aTz k v u m]
end
section
variable {ok:Nat->Prop} {w:Bc} {es:A8 (Aw×D)} {ms:Bh MapEntry} {clock:Nat}
def Ro.nil:Ro #[] 0:=⟨rfl,fun i e h=>J8⟩
def Ro.push (h:Ro ms clock) {k v:Aw}:Ro (ms.push { key:=k,val:=v,born:=clock }) (clock+1):=by
 refine⟨by simp[h.1],fun i e j=>?_⟩;rw[aLz]at j;split at j
 ·rename_i q;obtain rfl:=Dh j;rw[q];exact h.1
 exact h.2 i e j
def Ro.modify (h:Ro ms clock) (j:Nat) (f:MapEntry->MapEntry) (u:∀e,(f e).born=e.born):Ro (ms.modify j f) clock:=by
 refine⟨by simp[h.1],fun i e q=>?_⟩;rw[OH]at q;split at q
 ·rw[Ul]at q;obtain⟨z,I,rfl⟩:=q;rw[u];exact h.2 i z I
 exact h.2 i e q
def Ro.find (h:Ro ms clock) {n:Nat} (q:n<ms.size):ms.findIdx? (fun e=>(e.born:Int)==(n:Int))=some n:=by
 rw[Array.findIdx?_eq_some_iff_getElem];refine⟨q,?_,fun j u=>?_⟩
 ·have :=h.2 n ms[n] Zg;simp[this]
 have :=h.2 j ms[j] (by simp[Nat.lt_trans u q]);simp[this];omega
def ajv (ms:Bh MapEntry) (j:Nat) (k v:Aw) (q:∀e,ms[j]? =some e->e.key=k):(ms.modify j fun e=>{ e with val:=v })=ms.modify j fun e=>{ e with key:=k,val:=v }:=by
 apply yx;intro i;rw[OH,OH];split
 ·rename_i e;subst e;cases hm:ms[j]? with
  |none=>rfl
  |some e=>simp[q e hm]
 rfl
def ala (ms:Bh MapEntry) (j:Nat) (k v:Aw) (q:∀e,ms[j]? =some e->e.val=v):(ms.modify j fun e=>{ e with key:=k })=ms.modify j fun e=>{ e with key:=k,val:=v }:=by
 apply yx;intro i;rw[OH,OH];split
 ·rename_i e;subst e;cases hm:ms[j]? with
  |none=>rfl
  |some e=>simp[q e hm]
 rfl
end
section
variable {P:Cm} {o:Oper} {es:A8 Bf} {K V:Type} [BEq K]
def aaM {t:CO} {j:Bh (Nat×CM)} {q:A8 (Nat×Nat)} {z:Aw} {cs:A8 Ai} (u:Jj P t q z) (vs:A8 Ai) (I:LG (fun(i:Nat)=>q[i]?) (GI z) j.toList vs=cs) (hp:O6 (fun(i:Nat)=>q[i]?) (GI z).length j.toList vs=true) (J:o.op=.build t j):
 CS P o (Nw j.toList vs) es (.ag cs) es:=I▸ahR u vs hp J
def PZ (x y:Int):Int:=bif y>x then y else x
def aFi {x y:CM} {ats:Bh CO} {kd:IntKind} {a b:Int} (z:o.op=.call { callee:=.builtin .max,args:= #[x,y],argTypes:=ats }):
 CS P o [(x,.d (.lit (.int kd a))),(y,.d (.lit (.int kd b)))] es (.d (.lit (.int kd (PZ a b)))) es:=
 .pure fun ok H c w _ _ j=>by
  have q:=(FK j).1.lit;have u:=(FK j).2.lit;simp only at q u;have e:PZ a b=if b>a then b else a:=by unfold PZ;by_cases h:b>a<;>simp[h]
  refine⟨.int kd (PZ a b),?_,.d _ _ (.lit _)⟩;rw[e];simp[execOp,z,resolve,invoke,builtin,q,u,Go.run_max_int2]
def aMK {t:CO} (u:o.op=.makeMap t none):CS P o [] es (.mp es.length) (es++[.iL []]):=
 .eff fun C ok H a w hm M=>by
  have q:FZ ok (w.alloc (.map #[] 0)) (H++[⟨.map (some w.heap.size),0⟩]) ⟨.map (some w.heap.size),0⟩ (.iL []):=
   ⟨w.heap.size, #[],0,rfl,(aI4 w _).1,⟨rfl,fun i e m z=>Fn1,fun i j m n _ hm=>by simp at hm⟩,.nil⟩
  obtain⟨I,J⟩:=hm.push (.map #[] 0) ⟨.map (some w.heap.size),0⟩ _ (fun b q=>aNp) q;refine⟨.map (some w.heap.size),_,ok,_,.inl ?_,J,Ht _ _,I,.mp _ _ 0 rfl P7⟩;have L:(newObj (.map #[] 0)).run P w=.ok w.heap.size (w.alloc (.map #[] 0)):=rfl;simp[execOp,u,Instr.makeMap,L]
def aDu {t J L:CO} {x y:CM} {k:Nat} {ek:K->Aw} (ev:V->D) (M:V) {z:Aw} {m:A8 (K×V)} {key:K} (ht:P.underlying t=some (.map J L)) (Z:KeyTy P J ek) (hz:(P.info? L).bind (·.zero)=some z) (q:cG z=ev M) (u:z.cells.all (·.oneCell')=true)
 (he:es[k]? =some (.iL (m.map (DT ek ev)))) (ho:o.op=.lookup t x y false):CS P o [(x,.mp k),(y,.d (.lit (ek key)))] es (.d (ev ((DV m key).getD M))) es:=
 .pure fun ok H a w j hl O=>by
  obtain⟨hd,hh,I⟩:=H8 j hl he;obtain⟨b,ms,clock,h1,h2,h3,_⟩:=I;have U:=V4 (FK O).1 hh;have Y:=(FK O).2.lit;simp only at U Y;obtain⟨v,hr,hv⟩:=aG7 (key:=key) ev ht Z hz q u h2 h3 false;refine⟨v,?_,.d _ _ hv⟩;simp[execOp,ho,U,Y,h1,hr]
def tq {C:En} {ok:Nat->Prop} {H:A8 CP} {w:Bc} (hm:Dv C ok H es w) {k:Nat} {es0 u:A8 (Aw×D)} {b clock j:Nat} {ms q:Bh MapEntry} {hd:CP} (J:es[k]? =some (.iL es0)) (L:H[k]? =some hd) (z:hd.v=.map (some b)) (I:w.heap[b]? =some (.map ms clock))
 (M:Lc ok w u q j) (O:Ro q j):(setObj b (.map q j)).run P w=.ok () (w.putObj b (.map q j))/\Dv C ok H (es.set k (.iL u)) (w.putObj b (.map q j))/\Ep ok w ok (w.putObj b (.map q j)):=by
 refine⟨by simp[setObj,Sem.run,I,World.putObj],hm.akw J rfl L xA fun U=>⟨b,q,j,z,X9 (Gl.1 I).1,M.mono U,O⟩⟩
def aiO {t kt vt:CO} {x y u:CM} {k:Nat} {ek:K->Aw} (ev:V->D) {m:A8 (K×V)} {key:K} {val:V} (ht:P.underlying t=some (.map kt vt)) (J:KeyTy P kt ek) (U:es[k]? =some (.iL (m.map (DT ek ev)))) (ho:o.op=.mapUpdate t x y u):
 CS P o [(x,.mp k),(y,.d (.lit (ek key))),(u,.d (ev val))] es .junk (es.set k (.iL ((FM m key val).map (DT ek ev)))):=
 .eff fun C ok H a w hm Y=>by
  obtain⟨hd,Z,hok⟩:=H8 hm.ent hm.hlen U;obtain⟨b,ms,clock,L,M,O,h4⟩:=hok;have hx:=V4 (Y (x,.mp k) Bj) Z;have hy:=(Y (y,.d (.lit (ek key))) Bj).lit;have hu:EU ok w (ev val) (a.eval u):=by have :=Y (u,.d (ev val)) Bj;cases this with |d _ _ h=>exact h
  simp only at hx hy;obtain⟨kd,q,hs⟩:=J.same;have hks:ms.toList.map (·.key)=m.map (fun p=>ek p.1):=by rw[O.keys];simp[DT,pz]
  have z:=J.check;rcases aBY (i:=0) hs key val m ms.toList hks with⟨q1,_,q3⟩|⟨j,e,p,q1,q2,q3,_,q5,q6⟩
  ·have hM:=O.push (k:=ek key) hu;obtain⟨r1,r2,r3⟩:=tq (P:=P) hm U Z L M hM h4.push;refine⟨undef,_,ok,H,.inr ⟨rfl,?_⟩,r3,.refl _,?_,.junk _⟩
   ·simp[execOp,ho,hx,hy,L,Instr.mapUpdate,underlying,ht,Sz M,z,Instr.findKey,q,q1,r1]
   rw[q3,Kw];exact r2
  have hM:=O.modify (k:=ek key) hu j;obtain⟨r1,r2,r3⟩:=tq (P:=P) hm U Z L M hM (h4.modify j _ fun _=>rfl)
  have I:e.key=ek key:=by
   have h5:(m.map (DT ek ev))[j]? =some (DT ek ev p):=by rw[Ji,q3];rfl
   rw[(O.ent j _ e h5 tC).1,J.eq _ _ q5];rfl
  have hst:∀w,(Instr.keyThatStays (ek key) (ek key)).run P w=.ok (ek key) w:=fun w=>by simp[Instr.keyThatStays,J.bits]
  have hms:ms[j]? =some e:=tC
  refine⟨undef,_,ok,H,.inr ⟨rfl,?_⟩,r3,.refl _,?_,.junk _⟩
  ·simp[execOp,ho,hx,hy,L,Instr.mapUpdate,underlying,ht,Sz M,z,Instr.findKey,q,q1,hms,I,hst,r1]
  rw[q6,aAg];exact r2
def aLZ {t kt vt:CO} {x y:CM} {k:Nat} {ek:K->Aw} (ev:V->D) (J:V) {z:Aw} {m:A8 (K×V)} {key:K} (ht:P.underlying t=some (.map kt vt)) (hk:KeyTy P kt ek) (hz:(P.info? vt).bind (·.zero)=some z) (hzv:cG z=ev J) (hzl:z.cells.all (·.oneCell')=true)
 (he:es[k]? =some (.iL (m.map (DT ek ev)))) (ho:o.op=.mapEntry t x y):
 CS P o [(x,.mp k),(y,.d (.lit (ek key)))] es (.eX [.d (ev ((DV m key).getD J)),.d (Ag (Gf m key:Nat))]) (es.set k (.iL ((FM m key ((DV m key).getD J)).map (DT ek ev)))):=
 .eff fun C ok H a w hm hn=>by
  obtain⟨hd,hh,hok⟩:=H8 hm.ent hm.hlen he;obtain⟨b,ms,clock,h1,h2,L,h4⟩:=hok;have hx:=V4 (FK hn).1 hh;have hy:=(FK hn).2.lit;simp only at hx hy;obtain⟨kd,M,hs⟩:=hk.same;have hks:ms.toList.map (·.key)=m.map (fun p=>ek p.1):=by rw[L.keys];simp[DT,pz]
  have O:=hk.check;have hml:ms.size=m.length:=by have :=L.len;simpa using this
  obtain⟨i0,hi0,hz'⟩:=iQ.1 hz;rcases aP6 (i:=0) hs key ((DV m key).getD J) m ms.toList hks with⟨q1,q2,q3,q4⟩|⟨e,p,q1,q2,q3,q4,q5,q6⟩
  ·have U:EU ok w (ev ((DV m key).getD J)) z:=by
    rw[q2];have :=aPa (ok:=ok) (w:=w) hzl;rw[hzv]at this;exact this
   have hM:=L.push (k:=ek key) U;obtain⟨r1,r2,Y⟩:=tq (P:=P) hm he hh h1 h2 hM h4.push;refine⟨.tuple #[z,goInt clock],_,ok,H,.inl ?_,Y,.refl _,?_,.eX _ _ rfl fun i hi=>?_⟩
   ·simp[execOp,ho,hx,hy,h1,Instr.mapEntry,underlying,ht,Sz h2,O,Instr.findKey,M,q1,r1,zeroValue,typeInfo,hi0,hz']
   ·rw[q3,Kw];exact r2
   match i,hi with
   |0,_=>
    have u:=U.mono Y;exact .d _ _ u
   |1,_=>
    have :goInt (clock:Nat)=.int .i64 (Gf m key:Nat):=by rw[q4,←hml,←h4.1];rfl
    show R ok _ H (.d (Ag (Gf m key:Nat))) (goInt clock);rw[this];exact .d _ _ (.lit _)
  have h5:(m.map (DT ek ev))[Gf m key]? =some (DT ek ev p):=by rw[Ji,q3];rfl
  have j:ms[Gf m key]? =some e:=tC
  have q:=L.ent _ _ e h5 j;have U:EU ok w (ev ((DV m key).getD J)) e.val:=by rw[q4];exact q.2.1
  have hM:=L.modify (k:=ek key) U (Gf m key);have hmk:=ala ms (Gf m key) (ek key) e.val (fun e' Z=>by rw[j]at Z;rw[←Dh Z]);rw[←hmk]at hM;have hkey:e.key=ek key:=by rw[q.1,hk.eq _ _ q5];rfl
  obtain⟨r1,r2,Y⟩:=tq (P:=P) hm he hh h1 h2 hM (h4.modify _ _ fun _=>rfl);have hst:∀w,(Instr.keyThatStays (ek key) (ek key)).run P w=.ok (ek key) w:=fun w=>by simp[Instr.keyThatStays,hk.bits]
  have I:e.born=Gf m key:=h4.2 _ e j;refine⟨.tuple #[e.val,goInt (Gf m key:Nat)],_,ok,H,.inl ?_,Y,.refl _,?_,.eX _ _ rfl fun i hi=>?_⟩
  ·simp[execOp,ho,hx,hy,h1,Instr.mapEntry,underlying,ht,Sz h2,O,Instr.findKey,M,q1,j,hkey,hst,r1,I]
  ·rw[q6,aAg];exact r2
  match i,hi with
  |0,_=>
   have u:=U.mono Y;exact .d _ _ u
  |1,_=>exact .d _ _ (.lit _)
def aIc {t kt:CO} {x s u:CM} {k:Nat} {ek:K->Aw} (ev:V->D) {m:A8 (K×V)} {key:K} {z0 val:V} (hk:KeyTy P kt ek) (Y:es[k]? =some (.iL ((FM m key z0).map (DT ek ev)))) (ho:o.op=.entryStore t x s u):
 CS P o [(x,.mp k),(s,.d (Ag (Gf m key:Nat))),(u,.d (ev val))] es .junk (es.set k (.iL ((FM m key val).map (DT ek ev)))):=
 .eff fun C ok H a w hm L=>by
  obtain⟨hd,Z,M⟩:=H8 hm.ent hm.hlen Y;obtain⟨b,ms,clock,h1,h2,O,h4⟩:=M;have hx:=V4 (L (x,.mp k) Bj) Z;have hy:a.eval s=.int .i64 (Gf m key:Nat):=(L (s,.d (Ag (Gf m key:Nat))) Bj).lit;have hu:EU ok w (ev val) (a.eval u):=by have :=L (u,.d (ev val)) Bj;cases this with |d _ _ h=>exact h
  simp only at hx;have j:=aTc key z0 m;have h5:((FM m key z0).map (DT ek ev))[Gf m key]? =some (DT ek ev (key,z0)):=by rw[Ji,j];rfl
  have q:Gf m key<ms.size:=by
   have h6:=(Fv.1 j).1;have :=O.len;rw[DY]at this;omega
  have z:ms[Gf m key]? =some ms[Gf m key]:=Zg
  have I:=O.ent _ _ _ h5 z;have hM:=O.modify (k:=ek key) hu (Gf m key);have U:=ajv ms (Gf m key) (ek key) (a.eval u) (fun e' J=>by rw[z]at J;rw[←Dh J];exact I.1);rw[←U]at hM;obtain⟨r1,r2,r3⟩:=tq (P:=P) hm Y Z h1 h2 hM (h4.modify _ _ fun _=>rfl);refine⟨undef,_,ok,H,.inr ⟨rfl,?_⟩,r3,.refl _,?_,.junk _⟩
  ·simp[execOp,ho,hx,hy,h1,Instr.entryStore,Sz h2,asInt,asIntOf,h4.find q,r1]
  have e1:((FM m key z0).map (DT ek ev)).set (Gf m key) (ek key,ev val)=(FM m key val).map (DT ek ev):=by
   rw[←aTz key z0 val m,aAg];rfl
  rw[←e1];exact r2
end
section
variable {P:Cm} {σ:BR} {Q:Exit->BR->Prop} {c:CM} {x y:Code}
def Dy {A:Type} {b:Ad} {u v z:A} (h:(bif b then u else v)=z) (ht:u=z->Bz P x σ Q) (j:v=z->Bz P y σ Q) (q:σ.get c=.d (.lit (.bool b)):=by kernel_rfl):Bz P (.cond c x y) σ Q:=
 Bz.cond b q (fun e=>ht (U0 e h)) (fun e=>j (UM e h))
def CB {A:Type} {b:Ad} {u v z:A} (h:(bif b then u else v)=z) (ht:u=z->Q .normal σ) (j:v=z->Bz P y σ Q) (q:σ.get c=.d (.lit (.bool b)):=by kernel_rfl):Bz P (.cond c .skip y) σ Q:=Dy h (fun e=>G9 (ht e)) j q
def BI {A:Type} {b:Ad} {u v z:A} (h:(bif b then u else v)=z) (ht:u=z->Bz P x σ Q) (j:v=z->Q .normal σ) (q:σ.get c=.d (.lit (.bool b)):=by kernel_rfl):Bz P (.cond c x .skip) σ Q:=Dy h ht (fun e=>G9 (j e)) q
end
section
variable {P:Cm} {ops:Bh Oper} {o:Oper} {rest:A8 Oper} {σ σ':BR} {K:Exit->BR->Prop} {ns:A8 (CM×Ai)} {x:Ai} {es':A8 Bf}
def Dw.f (h:CS P o ns σ.ents x es') (k:Dw P ops rest (σ.put o.dst x es') K) (j:(ns.map fun n=>σ.get n.1)=ns.map (·.2):=by kernel_rfl) (q:JC ops σ o.guard=some true:=by kernel_rfl) (ht:(KF ns).all (tmpsOf o).contains=true:=by kernel_rfl):Dw P ops (o::rest) σ K:=Dw.e es' h k rfl j q ht
def Chain.f (h:CS P o ns σ.ents x es') (k:Chain P ops rest (σ.put o.dst x es') σ') (j:(ns.map fun n=>σ.get n.1)=ns.map (·.2):=by kernel_rfl) (q:JC ops σ o.guard=some true:=by kernel_rfl):Chain P ops (o::rest) σ σ':=Chain.e es' h k rfl j q
def Fe.f {rs:A8 Ai} {ess:A8 (A8 Bf)} {bs:A8 Ad} (h:CS P o ns σ.ents x es') (k:Fe P ops rest (σ.put o.dst x es') rs ess bs σ') (j:(ns.map fun n=>σ.get n.1)=ns.map (·.2):=by kernel_rfl) (q:JC ops σ o.guard=some true:=by kernel_rfl)
 (ht:(KF ns).all (tmpsOf o).contains=true:=by kernel_rfl):Fe P ops (o::rest) σ (x::rs) (es'::ess) (true::bs) σ':=Fe.e es' h k rfl j q ht
end
def XV {A:Type} {b:Ad} {u v z:A} (h:(bif b then u else v)=z):(b=true/\u=z)\/(b=false/\v=z):=by
 cases b with
 |true=>exact .inl ⟨rfl,h⟩
 |false=>exact .inr ⟨rfl,h⟩
def Ce {A:Type} {a b:A} (h:some a=some b):a=b:=Dh h
def eu {α β γ:Type} {x:AO α} {y:α->AO β} {f:α->β->AO γ} {z:γ} (h:(x.bind fun a=>(y a).bind (f a))=some z):∃a,x=some a/\∃b,y a=some b/\f a b=some z:=by
 obtain⟨a,j,h⟩:=EM h;obtain⟨b,q,h⟩:=EM h;exact⟨a,j,b,q,h⟩
def aDj {α β γ δ:Type} {x:AO α} {y:α->AO β} {w:α->β->AO δ} {f:α->β->δ->AO γ} {z:γ} (h:(x.bind fun a=>(y a).bind fun b=>(w a b).bind (f a b))=some z):∃a,x=some a/\∃b,y a=some b/\∃d,w a b=some d/\f a b d=some z:=by
 obtain⟨a,j,b,q,h⟩:=eu h;obtain⟨d,u,h⟩:=EM h;exact⟨a,j,b,q,d,u,h⟩
def AQ {α β:Type} {x:AO α} {f:α->AO β} {z:β} {G:Prop} (h:x.bind f=some z) (k:∀a,x=some a->f a=some z->G):G:=by
 obtain⟨a,j,h⟩:=EM h;exact k a j h
def CJ {α β γ:Type} {x:AO α} {y:α->AO β} {f:α->β->AO γ} {z:γ} {G:Prop} (h:(x.bind fun a=>(y a).bind (f a))=some z) (k:∀a,x=some a->∀b,y a=some b->f a b=some z->G):G:=by
 obtain⟨a,j,b,q,h⟩:=eu h;exact k a j b q h
def IZ {α β γ δ:Type} {x:AO α} {y:α->AO β} {w:α->β->AO δ} {f:α->β->δ->AO γ} {z:γ} {G:Prop} (h:(x.bind fun a=>(y a).bind fun b=>(w a b).bind (f a b))=some z) (k:∀a,x=some a->∀b,y a=some b->∀d,w a b=some d->f a b d=some z->G):G:=by
 obtain⟨a,j,b,q,d,u,h⟩:=aDj h;exact k a j b q d u h
section
variable {P:Cm} {o:Oper} {es:A8 Bf} {α:Type}
def BQ {x y:CM} {t e:CO} {i:Int} {agg:Ad} {size:Nat} (enc:α->D) {l:A8 α} {a:α} (h:Am l i=some a) (ht:P.underlying t=some (.slice e)) (j:Ee P e agg size) (q:o.op=.indexAddr t x y) (hs:(enc a).cells.length=size:=by kernel_rfl):
 CS P o [(x,.d (C9 enc l)),(y,.d (.lit (.int .i64 i)))] es (.d (.ref (enc a).cells 0)) es:=WX enc h ht j hs q
def EG {t e:CO} {size q len:Nat} {z:Aw} (hE:Gu P t e size q) (J:(P.info? e).bind (·.zero)=some z) (ys:A8 D) {j:Bh (Nat×CM)} (L:o.op=.buildSlice t len j) (M:z.cells.all (·.oneCell')=true:=by kernel_rfl) (u:z.cells.size=size:=by kernel_rfl) (hlen:Nat.ble (len*size) 16777216=true:=by kernel_rfl)
 (hp:O6 (fun i=>some (i*size,size)) (len*size) j.toList (ys.map .d)=true:=by kernel_rfl) (O:LG (fun i=>some (i*size,size)) (Qu z (len*size)) j.toList (ys.map .d)=flat ys:=by kernel_rfl) (hl:ys.length=len:=by kernel_rfl) (I:ys.all (fun y=>y.cells.length=size)=true:=by kernel_rfl):
 CS P o (Nw j.toList (ys.map .d)) es (.d (.sl ys)) es:=aHE hE J M u (Dj hlen) (ys.map .d) ys hp O hl I L
def Gz {t e:CO} {size q len:Nat} {z:Aw} (hE:Gu P t e size q) (J:(P.info? e).bind (·.zero)=some z) (ys:A8 D) {j:Bh (Nat×CM)} (L:o.op=.buildSlice t len j) (M:z.cells.all (·.oneCell')=true:=by kernel_rfl) (u:z.cells.size=size:=by kernel_rfl) (hlen:Nat.ble (len*size) 16777216=true:=by kernel_rfl)
 (hp:O6 (fun i=>some (i*size,size)) (len*size) j.toList (ys.map .d)=true:=by kernel_rfl) (O:LG (fun i=>some (i*size,size)) (Qu z (len*size)) j.toList (ys.map .d)=flat ys:=by kernel_rfl) (hl:ys.length=len:=by kernel_rfl) (I:ys.all (fun y=>y.cells.length=size)=true:=by kernel_rfl):
 CS P o (Nw j.toList (ys.map .d)) es (.aO es.length) (es++[.arr e size ys]):=a0a hE J M u (Dj hlen) (ys.map .d) ys hp O hl I L
def Dw.aM {ops:Bh Oper} {l:A8 Oper} {σ:BR} {K:Exit->BR->Prop} [T:Kn P] {M:BR->Prop} (n:Nat) (k:M (OQ (Gy T ops n l σ))) (hl:l.length=n:=by kernel_rfl) (h:(Gy T ops n l σ).isSome=true:=by kernel_rfl):Dw P ops l σ (KH M K):=
 .a n (by rw[qK (ZF hl)];exact .aZ k) h
end
def Ec {A:Type} {b:Ad} {u v z:A} {G:Prop} (h:(bif b then u else v)=z) (j:b=true->u=z->G) (k2:b=false->v=z->G):G:=by
 rcases XV h with⟨e,h⟩|⟨e,h⟩
 ·exact j e h
 exact k2 e h
def aaL {A:Type} (o:AO A) (f:A->Ai):Ai:=match o with
 |none=>.d (.lit (.pointer none))
 |some a=>f a
def afX {A:Type} (o:AO A) (f:A->A8 Bf):A8 Bf:=match o with
 |none=>[]
 |some a=>f a
def jJ {A B:Type} (o:AO A) (x:AO B) (f:A->AO B):AO B:=match o with
 |none=>x
 |some a=>f a
def aQ9 {A B:Type} {x z:AO B} {f:A->AO B} (h:jJ none x f=z):x=z:=h
def aW8 {A B:Type} {x z:AO B} {a:A} {f:A->AO B} (h:jJ (some a) x f=z):f a=z:=h
section
variable {P:Cm} {o:Oper} {es:A8 Bf}
def aOr {t t':CO} {x y:CM} {k off:Nat} (ht:P.underlying t=some (.pointer (P.pointee t))) (I:o.op=.binOp .eql t x y t'):CS P o [(x,.ptr k off),(y,.d (.lit (.pointer none)))] es (.d (Ea false)) es:=
 .pure fun _ _ a w _ _ q=>⟨.bool false,by
  have j:=(FK q).1;have z:=(FK q).2.lit;simp only at j z;generalize J:a.eval x=u at j;cases j with
  |ptr _ _ b s M=>
   have L:(eqGuard .eql t x y (Value.pointer (some ⟨b,off,none⟩)) (.pointer none)).run P w=.ok () w:=by
    unfold eqGuard;simp[pure,Sem.run_pure']
   simp only[execOp,I,J,z,Fl,L,G8,run_eql_pointer_nil w t _ ht,Gw]
   rfl,.d _ _ (.lit _)⟩
def aXw {t t':CO} {x y:CM} (ht:P.underlying t=some (.pointer (P.pointee t))) (z:o.op=.binOp .eql t x y t'):CS P o [(x,.d (.lit (.pointer none))),(y,.d (.lit (.pointer none)))] es (.d (Ea true)) es:=
 .pure fun _ _ a w _ _ j=>⟨.bool true,by
  have q:=(FK j).1.lit;have u:=(FK j).2.lit;simp only at q u
  have I:(eqGuard .eql t x y (Value.pointer none) (.pointer none)).run P w=.ok () w:=by
   unfold eqGuard;simp[pure,Sem.run_pure']
  simp only[execOp,z,q,u,Fl,I,G8,run_eql_pointer_nil w t _ ht,Gw]
  rfl,.d _ _ (.lit _)⟩
end
def aHn :A8 ResultVar->Ad
 | []=>true
 | .tmp _::rs=>aHn rs
 |_::_=>false
def aDB (σ:BR):A8 ResultVar->A8 Ai
 | []=>[]
 | .tmp t::rs=>σ.slots.getD t .junk::aDB σ rs
 |_::rs=>.junk::aDB σ rs
def aTC {P:Cm} {σ:BR}:∀{rs:A8 ResultVar},aHn rs=true->YW P σ rs (aDB σ rs)
 | [],_=>trivial
 | .tmp _::_,h=>⟨rfl,aTC h⟩
def FQ {P:Cm} {σ:BR} {rs:A8 ResultVar} {j:Ai} {E':A8 Bf} (π:A8 (Nat×Ad)) (ha:aHn rs=true:=by kernel_rfl) (q:Uj σ.base σ.ents π=true:=by kernel_rfl) (u:j=(lT (aDB σ rs)).back π:=by kernel_rfl) (z:E'=SY σ.ents π:=by kernel_rfl):
 ∃xs π,YW P σ rs xs/\Uj σ.base σ.ents π=true/\j=(lT xs).back π/\E'=SY σ.ents π:=⟨_,π,aTC ha,q,u,z⟩
def UW :Nat->Nat->A8 (Nat×Nat×Nat)
 |0,_=>[]
 |n+1,x=>(x % 2048,x/2048 % 64,x/131072 % 2048)::UW n (x/268435456)
def aHg :A8 (Nat×Nat×Nat)->A8 (A8 Nat)->Nat->A8 (A8 Nat)
 | [],N,_=>N
 |t::Tr,N,n=>bif Nat.beq t.2.2 n then aHg Tr (N++[t.2.1::N.getD t.1 []]) (n+1)else aHg Tr N n
def Ph (n x:Nat):A8 (A8 Nat):=aHg (UW n x) [[]] 1
section
variable {P:Cm} [T:Kn P] {id:Nat} {ops:Bh Oper} {σ:BR} {Q:Exit->BR->Prop} {y:Code}
def Bz.aFB (L:A8 (JR P)) (n x j:Nat) (q:Q .normal (Hq T L ops σ ((Ph n x).getD j []))) (hm:P.follows .mixedOrders=true:=by kernel_rfl) (u:fP ops (Ph n x) (UW n x) [j]=true:=by kernel_rfl)
 (z:((UW n x).map fun t=>NH T L ops (Hq T L ops σ ((Ph n x).getD t.1 [])) t.2.1)=(UW n x).map fun t=>some (Hq T L ops σ ((Ph n x).getD t.2.2 []),NR L t.2.1):=by kernel_rfl) (I:(Ph n x).getD 0 [0]=[]:=by kernel_rfl):Bz P (.region id ops true) σ Q:=
 Bz.node1 L _ _ j q hm u I z
def aDS (L:A8 (JR P)) (n x j:Nat) (q:Bz P y (Hq T L ops σ ((Ph n x).getD j [])) Q) (hm:P.follows .mixedOrders=true:=by kernel_rfl) (u:fP ops (Ph n x) (UW n x) [j]=true:=by kernel_rfl)
 (z:((UW n x).map fun t=>NH T L ops (Hq T L ops σ ((Ph n x).getD t.1 [])) t.2.1)=(UW n x).map fun t=>some (Hq T L ops σ ((Ph n x).getD t.2.2 []),NR L t.2.1):=by kernel_rfl) (I:(Ph n x).getD 0 [0]=[]:=by kernel_rfl):Bz P (.seq (.region id ops true) y) σ Q:=
 Bz.aGN L _ _ j q hm u I z
def Bz.atI (L:A8 (JR P)) (n x:Nat) (F:A8 Nat) (j:BR) (q:Pz (fun k=>jh (Hq T L ops σ ((Ph n x).getD k [])) j) F) (u:Bz P y j Q) (hm:P.follows .mixedOrders=true:=by kernel_rfl) (z:fP ops (Ph n x) (UW n x) F=true:=by kernel_rfl)
 (I:((UW n x).map fun t=>NH T L ops (Hq T L ops σ ((Ph n x).getD t.1 [])) t.2.1)=(UW n x).map fun t=>some (Hq T L ops σ ((Ph n x).getD t.2.2 []),NR L t.2.1):=by kernel_rfl) (J:(Ph n x).getD 0 [0]=[]:=by kernel_rfl):Bz P (.seq (.region id ops true) y) σ Q:=
 Bz.aGO L _ _ F j q u hm z J I
end
end
end Go.Proofs.YtkkdimcnpacjhaaGreat
section
namespace Go
open Go.Proofs.YtkkdimcnpacjhaaGreat
variable {P:Cm}
def aEP (w:Bc) (U Y ty q:CO) (b o u I:Nat) (a:Addr) (z J k n:Nat) (cs:A8 Aw)
 (Z:P.underlying U=some (.slice q)) (hs:(P.info? q).map (·.size)=some k) (hn:n=Nat.min z u) (hl:cs.length=n*k)
 (L:∀j v,cs[j]? =some v->w.cell? (a.add j)=some v) (hc:∀j,j<cs.length->(w.cell? ⟨b,o+j,none⟩).isSome=true) (hf:∀j,j<cs.length->w.frozen? ⟨b,o+j,none⟩=false) (h1:∀v∈cs,v.oneCell'=true):
 (Builtin.copy_ #[U,Y] ty #[.slice (some ⟨b,o,none⟩) u I,.slice (some a) z J]).run P w=.ok (goInt n) (w.setCells b o cs):=by
 have M:=aR1 (P:=P) w a cs L;have hst:=run_storeCells_cells (P:=P) b o cs 0 w aAs (by simpa using hf) h1;rw[hl]at M;cases O:P.info? q with
 |none=>simp[O]at hs
 |some i=>
  have hi:i.size=k:=by simpa[O]using hs
  simp[Builtin.copy_,a1q Z,Builtin.lenOf,Builtin.firstCells,sizeOf,typeInfo,O,hi,←hn,M,hst]
end Go
namespace Go.Proofs.YtkkdimcnpacjhaaGreat
open Go.Proofs.Tryz
open Go.Shelf Go.RowKit Go.Lib
section
variable {P:Cm} {o:Oper} {es:A8 Bf}
def Ve (x y:Int):Int:=bif y<x then y else x
def ac9 {x y:CM} {ats:Bh CO} {kd:IntKind} {a b:Int} (z:o.op=.call { callee:=.builtin .min,args:= #[x,y],argTypes:=ats }):
 CS P o [(x,.d (.lit (.int kd a))),(y,.d (.lit (.int kd b)))] es (.d (.lit (.int kd (Ve a b)))) es:=
 .pure fun ok H c w _ _ j=>by
  have q:=(FK j).1.lit;have u:=(FK j).2.lit;simp only at q u;have e:Ve a b=if b<a then b else a:=by unfold Ve;by_cases h:b<a<;>simp[h]
  refine⟨.int kd (Ve a b),?_,.d _ _ (.lit _)⟩;rw[e];simp[execOp,z,resolve,invoke,builtin,q,u,Go.run_min_int2]
end
set_option linter.unusedVariables false
set_option linter.unusedSimpArgs false
set_option maxHeartbeats 4000000 in
set_option maxRecDepth 100000 in
def anL (b n c i vb vc:Nat) (cs vs:A8 Aw) (w:Bc) (hi:i<n) (hroom:n+1<=c) (hc63:c<=9223372036854775807) (hvb:vb≠b)
 (hcl:cs.length=n*29) (hvl:vs.length=29)
 (hcs:∀j v,cs[j]? =some v->w.cell? ⟨b,j,none⟩=some v) (hsp:∀j,j<(n+1)*29->(w.cell? ⟨b,j,none⟩).isSome=true) (hfz:∀j,j<(n+1)*29->w.frozen? ⟨b,j,none⟩=false)
 (hvs:∀j v,vs[j]? =some v->w.cell? ⟨vb,j,none⟩=some v) (h1c:∀v∈cs,v.oneCell'=true) (h1v:∀v∈vs,v.oneCell'=true)
 (tA tB:CO) (kA kB:Nat) (hsa:w.shape? vb=some (tA,kA)) (hsb:w.shape? b=some (tB,kB)) (hkB:kB≠0) (hfa:w.frozen? ⟨vb,0,none⟩=false) (hfe:w.frozen? ⟨vb,kA,none⟩=false):
 Calls Au 80 #[.slice (some ⟨b,0,none⟩) n c,.int .i64 i,.slice (some ⟨vb,0,none⟩) 1 vc] w fun e w'=>
  e=.returned (.slice (some ⟨b,0,none⟩) (n+1) c)/\w'=(w.drew.setCells b ((i+1)*29) (cs.drop (i*29))).setCells b (i*29) vs:=by
 have hz2:¬((i:Int)=(n:Int)):=AB
 have hw1:Ar ((i:Int)+1)=(i:Int)+1:=Qh
 have hw2:Ar ((n:Int)+1)=(n:Int)+1:=Qh
 have hb1:(0:Int)<=(i:Int)+1:=AB
 have hin:i<=n:=AB
 have htn:((i:Int)+1).toNat=i+1:=AB
 have aNy:((n:Int)+1).toNat=n+1:=AB
 have hb2:¬(c=i+1):=AB
 have hb3:(i:Int)<=(n:Int)+1:=AB
 have hb4:¬(c=i):=AB
 have hb5:¬((c:Int)<(n:Int)+1):=AB
 have z:(Au.info? 39).map (·.size)=some 29:=AA
 have U:∀w,(Go.sizeOf 39).run Au w=.ok 29 w:=fun w=>by
  cases Y:Au.info? 39 with
  |none=>simp[Y]at z
  |some i=>
   have h0:i.size=29:=by simpa[Y]using z
   simp[sizeOf,typeInfo,Y,h0]
 have Z:∀lb cb,(callFunc 144 #[.slice (some ⟨vb,0,none⟩) 1 vc,.slice (some ⟨b,(i+1)*29,none⟩) lb cb]).run Au w=.ok (.value (.bool false)) w:=fun lb cb=>by
  rw[run_callFunc_extern func144 AA AA AA (e:=Extern.SlicesOverlaps.overlaps #[22,22] #[4]) AA,
   Lib.run_overlaps_apart w 22 4 39 a0m 29 U ⟨vb,0,none⟩ ⟨b,(i+1)*29,none⟩ 1 vc lb cb hvb tA tB kA kB hsa hsb hkB hfa hfe]
  rfl
 have I:(cs.drop (i*29)).length=(n-i)*29:=by rw[JX,hcl,Nat.sub_mul]
 have J:∀ty BU sc,(Builtin.copy_ #[22,22] ty #[.slice (some ⟨b,(i+1)*29,none⟩) (n-i) BU,.slice (some ⟨b,i*29,none⟩) (n+1-i) sc]).run Au w.drew=.ok (goInt (n-i:Nat)) (w.drew.setCells b ((i+1)*29) (cs.drop (i*29))):=fun ty BU sc=>
  aEP w.drew _ _ ty 39 b ((i+1)*29) (n-i) BU ⟨b,i*29,none⟩ (n+1-i) sc 29 (n-i) (cs.drop (i*29)) a0m z a1t I
   (fun j v q=>by rw[kC];exact hcs (i*29+j) v (by rwa [Qg]at q))
   (fun j q=>hsp _ aGE) (fun j q=>hfz _ aGE) (fun v hv=>h1c v (bI hv))
 obtain⟨W1,u⟩:∃W1,W1=w.drew.setCells b ((i+1)*29) (cs.drop (i*29)):=⟨_,rfl⟩
 have L:∀k,k<(n+1)*29->(W1.cell? ⟨b,k,none⟩).isSome=true:=fun k hk=>by
  rw[u];exact isSome_setCells b (cs.drop (i*29)) ((i+1)*29) w.drew (fun j q=>hsp _ aGE) _ (hsp k hk)
 have M:∀(W:Bc),(∀x,W.cell? x=W1.cell? x)->(∀x,W.frozen? x=W1.frozen? x)->∀ty BU,(Builtin.copy_ #[22,22] ty #[.slice (some ⟨b,i*29,none⟩) (n+1-i) BU,.slice (some ⟨vb,0,none⟩) 1 vc]).run Au W=.ok (goInt (1:Nat)) (W.setCells b (i*29) vs):=fun W O hWf ty BU=>
  aEP W _ _ ty 39 b (i*29) (n+1-i) BU ⟨vb,0,none⟩ 1 vc 29 1 vs a0m z a1t (by rw[hvl])
   (fun j v q=>by
    rw[kC,O,u,World.cell?_setCells_out b _ _ _ _ (fun h _=>absurd h hvb),J3]
    exact hvs j v q)
   (fun j q=>by rw[O];exact L _ AB) (fun j q=>by rw[hWf,u,World.frozen?_setCells];exact hfz _ AB) h1v
 rw[←u]at J;have mixed:Au.follows .mixedOrders=true:=AA
 go_enter func80,Tryz.ntmps80
 go_wp2_with (simp only[Z])
 go_region_law_o (refine step_copy_runI rfl _ _ 22 22 rfl _ _ aFE aFE (J _ _ _) ?_)
 go_wp2_with (at_builtin;refine wpList_copy_runI _ rfl _ _ 22 22 rfl _ _ rfl rfl (M _ (fun _=>rfl) (fun _=>rfl) _ _) ?_)
 go_ret
 first|exact⟨rfl,rfl⟩|exact⟨rfl,by rw[u]⟩
set_option maxHeartbeats 4000000 in
set_option maxRecDepth 100000 in
def ae5 (b n c i vb vc:Nat) (cs vs:A8 Aw) (w:Bc) (hi:i<n) (hnc:n<=c) (hroom:c<n+1) (hbig:(n+1)*376<=140737488355328)
 (hcl:cs.length=n*29) (hvl:vs.length=29)
 (hcs:∀j v,cs[j]? =some v->w.cell? ⟨b,j,none⟩=some v) (hvs:∀j v,vs[j]? =some v->w.cell? ⟨vb,j,none⟩=some v) (h1c:∀v∈cs,v.oneCell'=true) (h1v:∀v∈vs,v.oneCell'=true):
 Calls Au 80 #[.slice (some ⟨b,0,none⟩) n c,.int .i64 i,.slice (some ⟨vb,0,none⟩) 1 vc] w fun e w'=>∃G ROW,e=.returned (.slice (some ⟨w.heap.size,0,none⟩) (n+1) G)/\n+1<=G/\G<=maxLen/\G*29<=ROW.size/\ROW.toList.take (i*29)=cs.take (i*29)/\
  w'=(((w.alloc (.cells ROW 39)).drew.setCells w.heap.size (i*29) vs).drew).setCells w.heap.size ((i+1)*29) (cs.drop (i*29)):=by
 have hE:Gu Au 22 39 29 376:=LX AA;obtain⟨i0,z0,hi0,hz0,hzs,hzb,hzc⟩:=hE.info;have hsz:(Au.info? 39).map (·.size)=some 29:=by rw[hi0];simp[hzs]
 have mixed:Au.follows .mixedOrders=true:=AA
 have hz2:¬((i:Int)=(n:Int)):=AB
 have hz3:(c:Int)<(n:Int)+1:=AB
 have hil:i*29<cs.length:=AB
 have hbw:b<w.heap.size:=block_lt_of_cell (hcs 0 _ (EK AB));have hvw:vb<w.heap.size:=block_lt_of_cell (hvs 0 _ (EK AB));have hkk:(n:Int)+1-(i:Int)=((n+1-i:Nat):Int):=AB
 have O:i+(n+1-i)=n+1:=AB
 have U:(cs.take (i*29)).length=i*29:=aXu
 have L:(Builtin.firstCells i0.size i (.slice (some ⟨b,0,none⟩) i c)).run Au w.drew=.ok (cs.take (i*29)).toArray w.drew:=by
  rw[hzs]
  exact run_firstCells_some w.drew 29 i ⟨b,0,none⟩ i c (cs.take (i*29)) (by rw[U]) (fun j v q=>by
   rw[kC,J3];rw[xW]at q;split at q
   ·exact hcs j v q
   cases q)
 have J:∀ty,(Builtin.append_ #[22,3] ty #[.slice (some ⟨b,0,none⟩) i c,.int .i64 ((n:Int)+1-(i:Int))]).run Au w=
  .ok (.slice (some ⟨w.heap.size,0,none⟩) (n+1) (grownCap w (n+1) c 39)) (w.drew.alloc (.cells ((cs.take (i*29)).toArray++Builtin.zeroCells z0.cells (n+1-i)++Builtin.zeroCells z0.cells (grownCap w (n+1) c 39-(n+1))) 39)):=fun ty=>by
  have h:=Lib.run_append_grow_zeros w 22 3 ty 39 i0 z0 .i64 .i64 hE.und AA hi0 hz0 (some ⟨b,0,none⟩) i c (cs.take (i*29)) L (n+1-i) AB AB AB AB (by rw[hzb];omega) (by rw[hzb,O];exact growslice_fits AB AB);rw[O]at h;rw[hkk];exact h
 have hGn:n+1<=grownCap w (n+1) c 39:=grownCap_ge w _ _ _;have Y:=grownCap_le_maxLen w (n+1) c 39 a1b;obtain⟨G,hG⟩:∃G,G=grownCap w (n+1) c 39:=⟨_,rfl⟩
 obtain⟨ROW,u⟩:∃ROW:Bh Aw,ROW=(cs.take (i*29)).toArray++Builtin.zeroCells z0.cells (n+1-i)++Builtin.zeroCells z0.cells (G-(n+1)):=⟨_,rfl⟩
 rw[←hG]at J hGn Y;rw[←u]at J
 have hRl:ROW.size=G*29:=by
  rw[u];simp[Builtin.zeroCells,hzc];omega
 have hRt:ROW.toList.take (i*29)=cs.take (i*29):=by
  rw[u];simp[IU];rw[pK U]
 obtain⟨W1,z⟩:∃W1,W1=w.drew.alloc (.cells ROW 39):=⟨_,rfl⟩
 rw[←z]at J
 have hN:∀j,j<(n+1)*29->(W1.cell? ⟨w.heap.size,j,none⟩).isSome=true:=fun j q=>by
  rw[z,World.cell?_alloc_at (w:=w.drew) ROW _ w.heap.size j rfl,bQ AB];rfl
 have hNf:∀j,W1.frozen? ⟨w.heap.size,j,none⟩=false:=fun j=>by rw[z];exact World.frozen?_alloc_at (w:=w.drew) ROW _ w.heap.size j rfl
 have hOb:∀j v,w.cell? ⟨b,j,none⟩=some v->W1.cell? ⟨b,j,none⟩=some v:=fun j v h=>by rw[z,aLC (w:=w.drew) _ b j hbw];exact h
 have hOv:∀j v,w.cell? ⟨vb,j,none⟩=some v->W1.cell? ⟨vb,j,none⟩=some v:=fun j v h=>by rw[z,aLC (w:=w.drew) _ vb j hvw];exact h
 have hcpA:∀(W:Bc),(∀x,W.cell? x=W1.cell? x)->(∀x,W.frozen? x=W1.frozen? x)->∀ty BU,(Builtin.copy_ #[22,22] ty #[.slice (some ⟨w.heap.size,i*29,none⟩) (n+1-i) BU,.slice (some ⟨vb,0,none⟩) 1 vc]).run Au W=.ok (goInt (1:Nat)) (W.setCells w.heap.size (i*29) vs):=fun W I Z ty BU=>
  aEP W _ _ ty 39 w.heap.size (i*29) (n+1-i) BU ⟨vb,0,none⟩ 1 vc 29 1 vs hE.und hsz a1t (by rw[hvl])
   (fun j v q=>by rw[kC,I,J3];exact hOv _ v (hvs j v q))
   (fun j q=>by rw[I];exact hN _ AB) (fun j q=>by rw[Z];exact hNf _) h1v
 have hG63:G<=9223372036854775807:=by unfold maxLen at Y;omega
 have hGi:¬(G=i):=AB
 have hGim:¬(G=i+1):=AB
 have hci:¬(c=i):=AB
 have hbN:b≠w.heap.size:=AB
 have hdl:(cs.drop (i*29)).length=(n-i)*29:=by rw[JX,hcl,Nat.sub_mul]
 have M:∀(W:Bc),(∀x,W.cell? x=(W1.setCells w.heap.size (i*29) vs).cell? x)->(∀x,W.frozen? x=(W1.setCells w.heap.size (i*29) vs).frozen? x)->∀ty BU sc,(Builtin.copy_ #[22,22] ty #[.slice (some ⟨w.heap.size,(i+1)*29,none⟩) (n-i) BU,.slice (some ⟨b,i*29,none⟩) (n-i) sc]).run Au W=.ok (goInt (n-i:Nat)) (W.setCells w.heap.size ((i+1)*29) (cs.drop (i*29))):=fun W I Z ty BU sc=>
  aEP W _ _ ty 39 w.heap.size ((i+1)*29) (n-i) BU ⟨b,i*29,none⟩ (n-i) sc 29 (n-i) (cs.drop (i*29)) hE.und hsz a1t hdl
   (fun j v q=>by
    rw[kC,I,World.cell?_setCells_out _ _ _ _ _ (fun h _=>absurd h hbN)]
    exact hOb _ v (hcs (i*29+j) v (by rwa [Qg]at q)))
   (fun j q=>by rw[I];exact isSome_setCells _ vs (i*29) W1 (fun t ht=>hN _ AB) _ (hN _ (by rw[hdl]at q;omega)))
   (fun j q=>by rw[Z,World.frozen?_setCells];exact hNf _) (fun v hv=>h1c v (bI hv))
 subst z;have hE1:∀x,((w.alloc (.cells ROW 39)).drew).cell? x=(w.drew.alloc (.cells ROW 39)).cell? x:=fun x=>rfl;have hE2:∀x,((w.alloc (.cells ROW 39)).drew).frozen? x=(w.drew.alloc (.cells ROW 39)).frozen? x:=fun x=>rfl;have hF1:∀x,(((w.alloc (.cells ROW 39)).drew.setCells w.heap.size (i*29) vs).drew).cell? x=((w.drew.alloc (.cells ROW 39)).setCells w.heap.size (i*29) vs).cell? x:=fun x=>rfl;have hF2:∀x,(((w.alloc (.cells ROW 39)).drew.setCells w.heap.size (i*29) vs).drew).frozen? x=((w.drew.alloc (.cells ROW 39)).setCells w.heap.size (i*29) vs).frozen? x:=fun x=>rfl;have hw1:Ar ((i:Int)+1)=(i:Int)+1:=Qh
 have hw2:Ar ((n:Int)+1)=(n:Int)+1:=Qh
 have hw3:Ar ((n:Int)+1-(i:Int))=(n:Int)+1-(i:Int):=Qh
 have hb1:(0:Int)<=(i:Int)+1:=AB
 have hin:i<=n:=AB
 have htn:((i:Int)+1).toNat=i+1:=AB
 have hb3:(i:Int)<=(n:Int):=AB
 clear hkk O L u hG hil U
 go_enter func80,Tryz.ntmps80
 go_wp2_with (first
  |(at_builtin;refine aIa _ rfl _ _ _ _ rfl _ _ rfl rfl _ _ (J _) ?_)
  |(at_builtin;refine wpList_copy_runI _ rfl _ _ 22 22 rfl _ _ rfl rfl (hcpA _ hE1 hE2 _ _) ?_)
  |(at_builtin;refine wpList_copy_runI _ rfl _ _ 22 22 rfl _ _ rfl rfl (M _ (fun _=>rfl) (fun _=>rfl) _ _ _) ?_))
 go_region_law_o (refine step_copy_runI rfl _ _ 22 22 rfl (.slice (some ⟨w.heap.size,(i+1)*29,none⟩) (n-i) (G-(i+1))) (.slice (some ⟨b,i*29,none⟩) (n-i) (c-i)) aFE aFE (M _ hF1 hF2 3 (G-(i+1)) (c-i)) ?_)
 go_wp2
 go_ret
 exact⟨G,ROW,rfl,hGn,Y,ZF hRl.symm,hRt,rfl⟩
def putAt (cur:Bh Aw):Nat->A8 Aw->Bh Aw
 |_,[]=>cur
 |o,v::r=>putAt (cur.setIfInBounds o v) (o+1) r
def eI :∀(vs:A8 Aw) (o:Nat) (cur:Bh Aw),(putAt cur o vs).size=cur.size
 | [],_,_=>rfl
 |v::r,o,cur=>by rw[putAt,eI r];simp
def vM :∀(vs:A8 Aw) (o:Nat) (cur:Bh Aw),o+vs.length<=cur.size->(putAt cur o vs).toList=cur.toList.take o++vs++cur.toList.drop (o+vs.length)
 | [],o,cur,_=>by simp[putAt]
 |v::r,o,cur,h=>by
  simp only[GZ]at h;rw[putAt,vM r (o+1) _ EN,aI1];refine bV fun j=>?_;simp only[IU,List.getElem?_append,G6,bF,TN,xW,List.getElem?_set,Qg,GZ,Zb,aW6]
  grind
def sD (b:Nat):∀(vs:A8 Aw) (o:Nat) (w:Bc) (cur:Bh Aw) (e:CO) (fr:Nat×Nat),w.heap[b]? =some (.cells cur e fr)->(w.setCells b o vs).heap[b]? =some (.cells (putAt cur o vs) e fr)
 | [],_,_,_,_,_,h=>h
 |v::r,o,w,cur,e,fr,h=>by
  rw[World.setCells,putAt];refine sD b r (o+1) _ _ e fr ?_;simp[World.setCell,OH,h]
set_option maxHeartbeats 4000000 in
set_option maxRecDepth 100000 in
def aau {v:Aw} {n vb vc:Nat} {xs news:A8 Aw} {w:Bc} (hown:lG w 39 29 v n xs) (hsrc:XO w (.slice (some ⟨vb,0,none⟩) 1 vc) 1 29 news) (hb:(n+1)*376<=140737488355328):
 Calls Au 80 #[v,.int .i64 n,.slice (some ⟨vb,0,none⟩) 1 vc] w fun e w'=>∃v',e=.returned v'/\lG w' 39 29 v' (n+1) (xs++news)/\w.grownBy w' v.ownBlock/\∀g,EF v'=some g->EF v=some g\/w.heap.size<=g:=by
 have hE:Gu Au 22 39 29 376:=LX AA;obtain⟨v',w',u,z,I,J⟩:=aJw (ty:=22) hE hown hsrc hb a1b;have mixed:Au.follows .mixedOrders=true:=AA
 rcases hown.2 with⟨rfl,M⟩|⟨g,cap,cur,rfl,_,Y,O,j,U,q⟩
 ·subst M
  go_enter func80,Tryz.ntmps80
  go_wp2_with (at_builtin;refine aIa _ rfl _ _ _ _ rfl _ _ rfl rfl _ _ u ?_)
  go_ret
  exact⟨v',rfl,z,I,J⟩
 have L:cap<=9223372036854775807:=by unfold maxLen at j;omega
 go_enter func80,Tryz.ntmps80
 go_wp2_with (at_builtin;refine aIa _ rfl _ _ _ _ rfl _ _ rfl rfl _ _ u ?_)
 all_goals (go_ret;exact⟨v',rfl,z,I,J⟩)
def yD (b:Nat):∀(vs:A8 Aw) (o:Nat) (w:Bc),(w.setCells b o vs).os=w.os/\(w.setCells b o vs).tape=w.tape/\(w.setCells b o vs).output=w.output/\(w.setCells b o vs).heap.size=w.heap.size/\∀i,i≠b->(w.setCells b o vs).heap[i]? =w.heap[i]?
 | [],_,_=>⟨rfl,rfl,rfl,rfl,fun _ _=>rfl⟩
 |v::r,o,w=>by
  obtain⟨j,q,u,z,I⟩:=yD b r (o+1) (w.setCell ⟨b,o,none⟩ v);rw[World.setCells];refine⟨j,q,u,by rw[z];simp[World.setCell],fun i hi=>?_⟩;rw[I i hi];simp[World.setCell,OH,Zk hi]
def ac2 {cur:Bh Aw} {xs vs:A8 Aw} {a N k:Nat} (q:cur.toList.take N=xs) (hl:xs.length=N) (j:vs.length=k) (ha:a<=N) (hs:N+k<=cur.size):
 (putAt (putAt cur (a+k) (xs.drop a)) a vs).toList.take (N+k)=xs.take a++vs++xs.drop a:=by
 have hd:(xs.drop a).length=N-a:=by rw[JX,hl]
 rw[vM vs a _ (by rw[eI];omega),vM (xs.drop a) (a+k) cur AB,j,hd]
 have u:(cur.toList.take (a+k)++xs.drop a++cur.toList.drop (a+k+(N-a))).take a=xs.take a:=by
  rw[IU,List.take_append_of_le_length EN,aKV,←q,aKV,jK AB,jK ha]
 have z:(cur.toList.take (a+k)++xs.drop a++cur.toList.drop (a+k+(N-a))).drop (a+k)=xs.drop a++cur.toList.drop (a+k+(N-a)):=by
  rw[IU,List.drop_left' EN]
 rw[u,z,←IU,pK (by simp[hd,j,hl];omega)]
def aZf {cur:Bh Aw} {xs vs:A8 Aw} {a N k:Nat} (q:cur.toList.take a=xs.take a) (hl:xs.length=N) (j:vs.length=k) (ha:a<=N) (hs:N+k<=cur.size):
 (putAt (putAt cur a vs) (a+k) (xs.drop a)).toList.take (N+k)=xs.take a++vs++xs.drop a:=by
 have hd:(xs.drop a).length=N-a:=by rw[JX,hl]
 rw[vM (xs.drop a) (a+k) _ (by rw[eI];omega),vM vs a cur AB,j,hd,q];have u:(xs.take a++vs++cur.toList.drop (a+k)).take (a+k)=xs.take a++vs:=pK (by simp[j,hl];omega);rw[u,pK (by simp[hd,j,hl];omega)]
def yE {w:Bc} {g n:Nat} {cur:Bh Aw} {xs:A8 Aw} {T:CO} {fr:Nat×Nat} (q:w.heap[g]? =some (.cells cur T fr)) (ht:cur.toList.take n=xs) (j:Nat) (v:Aw) (h:xs[j]? =some v):w.cell? ⟨g,j,none⟩=some v:=by
 unfold World.cell?;simp only[q];rw[←ht,xW]at h;split at h
 ·simpa using h
 cases h
def abU {w:Bc} {g:Nat} {cur:Bh Aw} {T:CO} {fr:Nat×Nat} (q:w.heap[g]? =some (.cells cur T fr)) (j:Nat) (h:j<cur.size):(w.cell? ⟨g,j,none⟩).isSome=true:=by
 unfold World.cell?;simp[q,h]
def aGY {w:Bc} {g:Nat} {cur:Bh Aw} {T:CO} (q:w.heap[g]? =some (.cells cur T (0,0))) (j:Nat):w.frozen? ⟨g,j,none⟩=false:=by
 unfold World.frozen?;simp[q]
def akV {v:Aw} {n vb vc i:Nat} {xs q:A8 Aw} {w:Bc} (hi:i<=n) (J:lG w 39 29 v n xs) (h1:∀u∈xs,u.oneCell'=true) (hx:lG w 39 29 (.slice (some ⟨vb,0,none⟩) 1 vc) 1 q) (Y:∀u∈q,u.oneCell'=true) (hne:EF v≠some vb) (hb:(n+1)*376<=140737488355328):
 Calls Au 80 #[v,.int .i64 i,.slice (some ⟨vb,0,none⟩) 1 vc] w fun e w'=>∃v',e=.returned v'/\lG w' 39 29 v' (n+1) (xs.take (i*29)++q++xs.drop (i*29))/\Turns v w w'/\∀g,EF v'=some g->EF v=some g\/w.heap.size<=g:=by
 have L:=J.1;have M:q.length=29:=by have :=hx.1;omega
 rcases hx.2 with⟨e0,_⟩|⟨vb',aNz,aHU,e0,_,O,hvn,_,hvs,Z⟩
 ·cases e0
 injection e0 with e1 _ e3
 injection e1 with e1
 injection e1 with e1
 subst e1 e3;rcases gU i n with hin|hin
 ·rcases J.2 with⟨_,h0⟩|⟨g,cap,cur,rfl,_,hg,hnc,hcm,hcs,I⟩
  ·omega
  have hgv:vb≠g:=fun e=>hne jd;have hil:i*29<=n*29:=Jz _ hi;rcases gU n cap with z|z
  ·have hfit:(n+1)*29<=cur.size:=FC (Jz _ z) hcs;refine(anL g n cap i vb vc xs q w hin z (by unfold maxLen at hcm;omega) hgv L M (yE hg I) (fun j hj=>abU hg j AB) (fun j _=>aGY hg j) (yE O Z) h1 Y 39 39 aHU.size cur.size (by simp[World.shape?,O]) (by simp[World.shape?,hg]) AB (aGY O 0) (aGY O _)).mono ?_;rintro e w' ⟨rfl,rfl⟩;have hh:=sD g q (i*29) _ _ _ _ (sD g (xs.drop (i*29)) ((i+1)*29) w.drew cur 39 (0,0) hg);obtain⟨a1,a2,a3,a4,a5⟩:=yD g (xs.drop (i*29)) ((i+1)*29) w.drew;obtain⟨b1,b2,b3,b4,b5⟩:=yD g q (i*29) (w.drew.setCells g ((i+1)*29) (xs.drop (i*29)));refine⟨_,rfl,⟨?_,.inr ⟨g,cap,_,rfl,Du _,hh,z,hcm,by rw[eI,eI];exact hcs,?_⟩⟩,⟨b1.trans a1,b2.trans a2,b3.trans a3,by rw[b4,a4];exact EX _,fun c hc hcb=>?_⟩,fun g' hg'=>.inl hg'⟩
   ·simp[M,L];omega
   ·have :=ac2 (a:=i*29) (k:=29) I L M hil AB;rw[show(i+1)*29=i*29+29 by omega,show(n+1)*29=n*29+29 by omega];exact this
   have U:c≠g:=fun e=>hcb jd;rw[b5 c U,a5 c U];rfl
  refine(ae5 g n cap i vb vc xs q w hin hnc AB hb L M (yE hg I) (yE O Z) h1 Y).mono ?_;rintro e w' ⟨G,ROW,rfl,hGn,hGm,hGs,hRt,rfl⟩
  have hal:((w.alloc (.cells ROW 39)).drew).heap[w.heap.size]? =some (.cells ROW 39 (0,0)):=by
   show(w.heap.push (.cells ROW 39 (0,0)))[w.heap.size]? =_;simp
  have hh:=sD w.heap.size (xs.drop (i*29)) ((i+1)*29) _ _ _ _ (show(((w.alloc (.cells ROW 39)).drew.setCells w.heap.size (i*29) q).drew).heap[w.heap.size]? =_ from sD w.heap.size q (i*29) _ ROW 39 (0,0) hal);obtain⟨a1,a2,a3,a4,a5⟩:=yD w.heap.size q (i*29) (w.alloc (.cells ROW 39)).drew;obtain⟨b1,b2,b3,b4,b5⟩:=yD w.heap.size (xs.drop (i*29)) ((i+1)*29) ((w.alloc (.cells ROW 39)).drew.setCells w.heap.size (i*29) q).drew;refine⟨_,rfl,⟨?_,.inr ⟨w.heap.size,G,_,rfl,Du _,hh,hGn,hGm,by rw[eI,eI];exact hGs,?_⟩⟩,⟨b1.trans a1,b2.trans a2,b3.trans a3,?_,fun c hc hcb=>?_⟩,fun g' hg'=>.inr (by simp[EF]at hg';omega)⟩
  ·simp[M,L];omega
  ·have :=aZf (a:=i*29) (k:=29) hRt L M hil (by have :=Jz 29 hGn;omega);rw[show(i+1)*29=i*29+29 by omega,show(n+1)*29=n*29+29 by omega];exact this
  ·rw[b4];show w.heap.size<=((w.alloc (.cells ROW 39)).drew.setCells w.heap.size (i*29) q).heap.size;rw[a4];show w.heap.size<=(w.heap.push (.cells ROW 39 (0,0))).size;simp
  have U:c≠w.heap.size:=AB
  rw[b5 c U];show((w.alloc (.cells ROW 39)).drew.setCells w.heap.size (i*29) q).heap[c]? =_;rw[a5 c U];show(w.heap.push (.cells ROW 39 (0,0)))[c]? =_;simp[aLz,U]
 have hni:i=n:=AB
 subst hni;refine(aau J ⟨AB,Y,.inl ⟨_,_,rfl,fun j u hj=>by rw[kC,J3];exact yE O Z j u hj⟩⟩ hb).mono ?_;rintro e w' ⟨v',rfl,h2,h3,h4⟩;refine⟨v',rfl,?_,⟨h3.os,h3.tape,h3.output,h3.size,fun k hk hne'=>h3.block k hk ?_⟩,h4⟩
 ·rw[QL AB,qK AB,P8];exact h2
 rcases J.2 with⟨rfl,_⟩|⟨g,cap,cur,rfl,_⟩
 ·simp[Value.ownBlock]
 intro e;exact hne' e.symm
def anw {j:Bh Aw} (hs:j.size=3):j= #[j.getD 0 undef,j.getD 1 undef,j.getD 2 undef]:=by
 refine Z4 (by simp[hs]) fun i u q=>?_;simp at q;have :i=0\/i=1\/i=2:=AB
 rcases this with rfl|rfl|rfl<;>simp[Array.getD,hs]
def aVR {ok:Nat->Prop} {w:Bc} {H:A8 CP} {xs:A8 Ai} {vs:A8 Aw} (h:Fg ok w H xs vs) (n:Nat):Fg ok w H (xs.take n) (vs.take n):=by
 refine⟨by rw[G6,G6,h.1],fun i hi=>?_⟩;rw[G6]at hi;have :=h.2 i AB;rw[aF,aF]at this ⊢;rw[MX AB,MX AB];exact this
def aQU {ok:Nat->Prop} {w:Bc} {H:A8 CP} {xs:A8 Ai} {vs:A8 Aw} (h:Fg ok w H xs vs) (n:Nat):Fg ok w H (xs.drop n) (vs.drop n):=by
 refine⟨by rw[JX,JX,h.1],fun i hi=>?_⟩;rw[JX]at hi;have :=h.2 (n+i) AB;rw[aF,aF]at this ⊢;rw[Qg,Qg];exact this
def aJv {ok:Nat->Prop} {w:Bc} {H:A8 CP} {xs:A8 Ai} {vs:A8 Aw} (h:Fg ok w H xs vs):∀u∈vs,u.oneCell'=true:=fun u q=>by
 obtain⟨i,hi,rfl⟩:=IK q;have j:=h.2 i (by rw[←h.1];exact hi);have :=j.2.leaf j.1
 rwa [aF,EK hi]at this
def aQf {size:Nat}:∀{es:A8 D} (i:Nat),(∀x∈es,x.cells.length=size)->flat (es.take i)=(flat es).take (i*size)
 | [],i,_=>Td
 |x::l,0,_=>Td
 |x::l,i+1,h=>by
  have j:(x.cells.map Ai.d).length=size:=by rw[DY];exact h x (GU ..)
  rw[List.take_succ_cons,UA,UA,aQf i fun y q=>h y (Gv _ q),YG,aF8,Ue,←j,List.take_length_add_append]
def aXC {size:Nat}:∀{es:A8 D} (i:Nat),(∀x∈es,x.cells.length=size)->flat (es.drop i)=(flat es).drop (i*size)
 | [],i,_=>Td
 |x::l,0,_=>Td
 |x::l,i+1,h=>by
  have j:(x.cells.map Ai.d).length=size:=by rw[DY];exact h x (GU ..)
  rw[List.drop_succ_cons,UA,aXC i fun y q=>h y (Gv _ q),YG,aF8,Ue,←j,List.drop_length_add_append]
def Dv.kill {C:En} {ok:Nat->Prop} {H:A8 CP} {es:A8 Bf} {w:Bc} (hm:Dv C ok H es w) (k:Nat):Dv C ok H (es.set k .dead) w:=
 (hm.change (ok':=ok) (H':=H) (w':=w) (es':=es.set k .dead) (fun _=>False) rfl rfl rfl (EX _) (fun _ _ _=>rfl) (fun _ h=>h.elim) (fun _ h=>h) (fun _ h=>.inl h) (.refl _) (by simpa using hm.hlen) (by
  intro j e' h' q u;by_cases z:k=j
  ·subst z;rw[List.getElem?_set]at q;simp only[Jr]at q;split at q
   ·cases q;exact .inr ⟨trivial,fun h=>JD⟩
   cases q
  rw[Y8 z]at q
  exact .inl ⟨q,u,fun _ _ _ h=>h⟩)).1
def aCR {α:Type} (l:A8 α) (i:Int) (m:A8 α):AO (A8 α):=match m with
 | [x]=>if(0<=i/\i<=(l.length:Int))/\l.length<=34359738368 then some (l.take i.toNat++x::l.drop i.toNat)else none
 |_=>none
def av3 {α:Type} {e:α->D} (hk:∀x,(e x).cells.length=29) (l:A8 α) (q:Int) (m r:A8 α) (h:aCR l q m=some r):
 BF 80 [.aO 0,.d (Ag q),.aO 1] [.arr 39 29 (l.map e),.arr 39 29 (m.map e)] (.aO 2) [.dead,.dead,.arr 39 29 (r.map e)]:=by
 unfold aCR at h;split at h
 case h_2=>cases h
 rename_i x;split at h
 case isFalse=>cases h
 rename_i hc;obtain⟨⟨hq0,hql⟩,hb⟩:=hc;obtain rfl:=Dh h;obtain⟨i,rfl⟩:∃i:Nat,q=i:=⟨q.toNat,AB⟩
 have hi:i<=l.length:=AB
 rw[Si];intro ok X H w L hm hs ha;have h0:=ha 0 Bj;have hq:=ha 1 Bj;have h2:=ha 2 Bj;rw[anw hs];obtain⟨hd,hh,hok⟩:=H8 hm.ent hm.hlen (k:=0) rfl;obtain⟨M,O,U⟩:=H8 hm.ent hm.hlen (k:=1) rfl;obtain hv:=Oe h0 hh;obtain hv1:=Oe h2 O
 have hq':L.getD 1 undef=.int .i64 i:=by
  simp only[List.getD,a02,a2Z,ML]at hq;cases hq with |d _ _ hq=>exact EU.aes hq
 rw[hv,hv1,hq'];obtain⟨hz,Y,xs,Z,J⟩:=hok;obtain⟨hz1,aNA,news,u,I⟩:=U;rw[DY]at Z
 obtain⟨g1,c1,hg1⟩:∃g1 c1,M.v=.slice (some ⟨g1,0,none⟩) 1 c1:=by
  rcases u.2 with⟨_,h⟩|⟨g,cap,cur,h,_⟩
  ·cases h
  exact⟨g,cap,h⟩
 have hne:EF hd.v≠some g1:=fun hb=>by
  have :=hm.Ef 0 1 _ _ hd M g1 rfl rfl rfl rfl hh O hb (by rw[hg1];rfl);cases this
 rw[hg1]at u ⊢;refine(akV hi Z (aJv J) u (aJv I) hne AB).mono ?_;rintro y w' ⟨v',rfl,j,ht,hblk⟩;have hlen:l.length+1=((l.take i++x::l.drop i).map e).length:=EN
 rw[hlen]at j
 have hfl:flat ((l.take i++x::l.drop i).map e)=(flat (l.map e)).take (i*29)++flat ([x].map e)++(flat (l.map e)).drop (i*29):=by
  rw[←aQf i Y,←aXC i Y,←o8,←o8,Kw,JJ,YK,aG,IU];rfl
 have hg:=hm.turn (e:=.arr 39 29 ((l.take i++x::l.drop i).map e)) (h':=⟨v',29⟩) (w':=w') (k:=0) rfl rfl hh ht.os ht.tape ht.output ht.size ht.block (fun g hg=>⟨yA j hg,hblk g hg⟩) (fun hgr=>⟨rfl,fun y hy=>by
  obtain⟨z,_,rfl⟩:=FY.1 hy
  exact hk z,_,j,by rw[hfl];exact(a0C (a0C (aVR J _) I) (aQU J _)).mono hgr (.push _ _)⟩)
 refine⟨v',ok,H++[⟨v',29⟩],rfl,hg.1.kill 1,?_⟩;have hl:H.length=2:=hm.hlen;have hr:(H++[(⟨v',29⟩:CP)])[2]? =some ⟨v',29⟩:=by rw[←hl];simp
 rcases j.2 with⟨rfl,_⟩|⟨g,cap,cur,rfl,_⟩
 ·exact .aO 2 _ _ _ 29 hr
 exact .aO 2 _ _ _ 29 hr
end Go.Proofs.YtkkdimcnpacjhaaGreat
end
namespace Go.Proofs.YtkkdimcnpacjhaaGreat
open Go.Proofs.Tryz
section
open Go.RowKit Go.Sort
section
variable {β:Type} {e:β->D} {k:Nat} {ok:Nat->Prop} {w:Bc} {H:A8 CP}
def aUs (u:∀x,(e x).cells.length=k):∀(l:A8 β) (xs:A8 Aw),Fg ok w H (flat (l.map e)) xs->∃z:A8 (β×A8 Aw),z.map (·.1)=l/\z.flatMap (·.2)=xs/\∀p∈z,Fg ok w H ((e p.1).cells.map .d) p.2
 | [],xs,h=>by
   have j:xs.length=0:=h.1;exact⟨[],rfl,(Hw j).symm,fun p hp=>absurd hp FB⟩
 |x::l,xs,h=>by
  rw[JJ,UA]at h;have hl:((e x).cells.map Ai.d).length=k:=by rw[DY,u]
  have j:=aVR h k;have q:=aQU h k;rw[←hl,aAX]at j;rw[←hl,List.drop_left]at q;rw[hl]at j q;obtain⟨z,I,J,L⟩:=aUs u l _ q;refine⟨(x,xs.take k)::z,by rw[JJ,I],by rw[MC,J,SI],fun p hp=>?_⟩;rcases F5.1 hp with rfl|hp
  ·exact j
  exact L p hp
def aOs :∀(z:A8 (β×A8 Aw)),(∀p∈z,Fg ok w H ((e p.1).cells.map .d) p.2)->Fg ok w H (flat ((z.map (·.1)).map e)) (z.flatMap (·.2))
 | [],_=>⟨rfl,fun i hi=>absurd hi (Nat.not_lt_zero i)⟩
 |p::z,h=>by
  rw[JJ,JJ,UA,MC];exact a0C (h p (GU ..)) (aOs z fun q j=>h q (Gv _ j))
end
def El.aCf {β:Type} {P:Cm} {f g:FuncId} {T:CO} {k:Nat} {e:β->D} (hk:∀x,(e x).cells.length=k) {l r:A8 β}
 (h:∀(ok:Nat->Prop) (H:A8 CP) (v:Aw) (w:Bc) (z:A8 (β×A8 Aw)),z.map (·.1)=l->(∀p∈z,Fg ok w H ((e p.1).cells.map .d) p.2)->lG w T k v l.length (z.flatMap (·.2))->
  Calls P f #[v,.func (.func g) #[] #[]] w fun x w'=>x=.returned (.tuple #[])/\∃Z:A8 (β×A8 Aw),(∀p∈Z,p∈z)/\Z.map (·.1)=r/\lG w' T k v r.length (Z.flatMap (·.2))/\Turns v w w'):
 El P f [.aO 0,.d (.fn (.func g) [] [])] [.arr T k (l.map e)] (.eX []) [.arr T k (r.map e)]:=by
 intro ok X H w J hm hs ha;have h0:=ha 0 Bj;have Y:=ha 1 Bj;rw[aTO hs];obtain⟨hd,hh,hok⟩:=H8 hm.ent hm.hlen (k:=0) rfl;obtain hv:=Oe h0 hh
 have hf:J.getD 1 undef=.func (.func g) #[] #[]:=by
  simp only[List.getD,a02,a2Z,ML]at Y;generalize J.getD 1 undef=u at Y;cases Y with
  |d _ _ Y=>
   cases Y with
   |fn _ _ _ vs us hl hm'=>
    have e1:vs= #[]:=XY NJ;have e2:us= #[]:=XY (by simpa using hm');rw[e1,e2]
 rw[hv,hf];obtain⟨hz,hcl,xs,L,hrs⟩:=hok;rw[DY]at L;obtain⟨z,z1,z2,z3⟩:=aUs hk l xs hrs;rw[←z2]at L;refine(h ok H hd.v w z z1 z3 L).mono ?_;rintro x w' ⟨rfl,Z,p1,p2,aHV,ht⟩;have I:=fun b hb=>hm.blk 0 _ hd b rfl rfl hh hb
 have M:Ep ok w ok w':=(hm.change (ok':=ok) (H':=H) (w':=w') (es':=[.dead]) (fun c=>EF hd.v=some c) ht.os ht.tape ht.output ht.size ht.block (fun c hc _=>⟨(I c hc).1,(I c hc).2.2⟩) (fun _ h=>h) (fun _ h=>.inl h) (.refl _) hm.hlen (by
  intro j e' h' q O
  match j,q with
  |0,q=>
   simp at q;subst q;exact .inr ⟨trivial,fun hl=>by cases hl⟩
  |k+1,q=>simp at q)).2
 have hg:=hm.change (ok':=ok) (H':=H) (w':=w') (es':=[.arr T k (r.map e)]) (fun c=>EF hd.v=some c) ht.os ht.tape ht.output ht.size ht.block (fun c hc _=>⟨(I c hc).1,(I c hc).2.2⟩) (fun _ h=>h) (fun _ h=>.inl h) (.refl _) hm.hlen (by
  intro j e' h' q O
  match j,q with
  |0,q=>
   simp at q;subst q;rw[hh]at O;obtain rfl:=Dh O;refine .inr ⟨⟨hz,fun x hx=>?_,_,by rw[DY];exact aHV,?_⟩,fun _ b hb=>⟨(I b hb).1,VP (I b hb).2.1 ht.size,(I b hb).2.2,fun k' e'' h'' hne U=>?_⟩⟩
   ·obtain⟨y,_,rfl⟩:=FY.1 hx;exact hk y
   ·rw[←p2];exact aOs Z fun p hp=>(z3 p (p1 p hp)).mono M (.refl _)
   match k',U with
   |0,_=>exact absurd rfl hne
   |k'+1,U=>simp at U
  |k+1,q=>simp at q)
 exact⟨_,ok,H,rfl,hg.1,.eX [] #[] rfl (fun i hi=>PY)⟩
end
section
section
variable {P:Cm}
def al5 :JR P->A8 (CM×Ai)
 | .call .. =>[]
 | .dat _ _ ns _ _=>ns
 | .at_ _ _ ns _ _ _ _=>ns
 | .fix _ _ ns _ _ _ _=>ns
def aCU (L:A8 (JR P)) (ops:Bh Oper):Ad:=(List.range ops.size).all fun i=>match ops[i]? with
 |some o=>o.guard.isNone&&match aEg i L with
  |some c=>(KF (al5 c)).all (tmpsOf o).contains
  |none=>true
 |none=>true
def aRs (T:Kn P) {L:A8 (JR P)} {ops:Bh Oper} {σ σ':BR} {i:Nat} {o:Oper} (I:ops[i]? =some o) (ht:aCU L ops=true) (h:NH T L ops σ i=some (σ',NR L i)):
 ∃x E ns,CS P o ns σ.ents x E/\needs σ ns/\(KF ns).all (tmpsOf o).contains=true/\o.guard=none/\σ'=σ.put o.dst x E:=by
 unfold aCU at ht;rw[EY]at ht;have u:=ht i (by simpa using(Gl.1 I).1);rw[I]at u;simp only[Df,Option.isNone_iff_eq_none]at u;obtain⟨q,u⟩:=u;unfold NH NR at h;rw[I]at h;simp only at h;split at h
 ·rename_i c O;rw[O]at u;simp only at u;split at h
  ·rename_i J;simp only[O,Ij,Jh]at h;cases c with
   |call i f eG Z run ent dat=>
    simp only[WR,Xa,NT,Jh,Rq.call.injEq]at h;obtain⟨ns,M,U,h4⟩:=a08 run ent h.2 dat;exact⟨_,_,ns,M,U,h4,q,h.1.symm⟩
   |dat i op ns x z=>
    simp only[WR,Xa,NT,Jh,Rq.dat.injEq]at h;exact⟨_,_,ns,z o _ h.2.1,Qs h.2.2,u,q,h.1.symm⟩
   |at_ i op ns k e x z=>
    simp only[WR,Xa,NT,Jh,Rq.at_.injEq]at h;exact⟨_,_,ns,z o _ h.2.2.2 h.2.1,Qs h.2.2.1,u,q,h.1.symm⟩
   |fix i op ns es x E z=>
    simp only[WR,Xa,NT,Jh,Rq.fix.injEq]at h;exact⟨_,_,ns,h.2.2.2▸z o h.2.1,Qs h.2.2.1,u,q,h.1.symm⟩
  cases h
 split at h
 ·rename_i r hr;simp only[Jh,NT]at h;obtain⟨M,U⟩:=Vu T hr;rcases M with⟨ns,a,b,c,_⟩|⟨_,_,⟨j,Y,d,v,J,_⟩⟩
  ·exact⟨_,_,ns,a,b,c,q,h.1.symm⟩
  rw[q]at J;cases J
 cases h
def uQ (ops:Bh Oper) (σ:BR) (i:Nat):BR:=match ops[i]? with
 |some o=>match o.op with
  | .move x=>σ.qJ o.dst (σ.get x)
  | .assign x=>σ.qJ o.dst (σ.get x)
  |_=>σ
 |none=>σ
def Nr (ops:Bh Oper) (σ:BR) (sl:A8 Nat):BR:=sl.foldl (uQ ops) σ
def eP (ops:Bh Oper) (sl m:A8 Nat) (i:Nat):Ad:=match ops[i]? with
 |some o=>o.after.toList.all fun e=> !Region.binds .any e||sl.contains e.on||(m.contains e.on&&(e.on<ops.size))
 |none=>false
def aKr (ops:Bh Oper) (sl:A8 Nat) (N:A8 (A8 Nat)) (F:A8 Nat) (k:Nat) (m:A8 Nat) (T:A8 (Nat×Nat×Nat)):Ad:=
 ((List.range ops.size).all fun i=>sl.contains i||m.contains i|| !eP ops sl m i||
   T.any fun t=>t.2.1==i&&(t.2.2<N.length)&&(fun q=>(List.range ops.size).all fun j=>q.contains j==(m.contains j||j==i)) (N.getD t.2.2 []))&&
 (F.contains k||(List.range ops.size).any fun i=> !sl.contains i&& !m.contains i&&eP ops sl m i)
def Src (ops:Bh Oper) (sl:A8 Nat) (N:A8 (A8 Nat)) (F:A8 Nat):Nat->A8 (A8 Nat)->A8 (Nat×Nat×Nat)->Ad
 |_,[],_=>true
 |k,m::M,Tr=>aKr ops sl N F k m (Tr.takeWhile fun t=>t.1==k)&&Src ops sl N F (k+1) M (Tr.dropWhile fun t=>t.1==k)
def aX5 {ops:Bh Oper} {sl:A8 Nat} {N:A8 (A8 Nat)} {F:A8 Nat}:∀(M:A8 (A8 Nat)) (k:Nat) (Tr:A8 (Nat×Nat×Nat)),Src ops sl N F k M Tr=true->∀j,j<M.length->
 ∃T,aKr ops sl N F (k+j) (M.getD j []) T=true/\∀t∈T,t∈Tr/\t.1=k+j
 | [],_,_,_,j,q=>iR
 |m::M,k,Tr,h,j,q=>by
  unfold Src at h;rw[Df]at h;cases j with
  |zero=>exact⟨_,h.1,fun t ht=>⟨(aHh _).subset ht,by have :=aGf ht;simpa using this⟩⟩
  |succ j=>
   obtain⟨T,z,u⟩:=aX5 M (k+1) _ h.2 j Np;refine⟨T,?_,fun t ht=>⟨(aF0 _).subset (u t ht).1,?_⟩⟩
   ·rw[show k+(j+1)=k+1+j by omega];simpa using z
   rw[(u t ht).2];omega
def aSp (ops:Bh Oper) (sl:A8 Nat):Ad:=sl.all fun i=>match ops[i]? with
 |some o=>(o.after.toList.all fun e=> !Region.binds .any e)&&match o.dst with
  |some d=>(List.range ops.size).all fun j=>match ops[j]? with
   |some p=> !(tmpsOf p).contains d||I9 p i
   |none=>true
  |none=>false
 |none=>false
def aGI {ops:Bh Oper} {C:En} {ok:Nat->Prop} {H:A8 CP} {w:Bc}:∀(sl:A8 Nat) (σ:BR) (a:Act),Holds C ok H σ a w->
 ∃q,Holds C ok H (Nr ops σ sl) q w/\q.tmps.size=a.tmps.size/\q.defers=a.defers/\∀t,(∀i∈sl,∀o,ops[i]? =some o->o.dst≠some t)->q.tmps.getD t undef=a.tmps.getD t undef
 | [],σ,a,h=>⟨a,h,rfl,rfl,fun _ _=>rfl⟩
 |i::sl,σ,a,h=>by
  have I:∀(o:Oper) (x:CM),ops[i]? =some o->uQ ops σ i=σ.qJ o.dst (σ.get x)->∃q,Holds C ok H (Nr ops σ (i::sl)) q w/\q.tmps.size=a.tmps.size/\q.defers=a.defers/\∀t,(∀j∈i::sl,∀o,ops[j]? =some o->o.dst≠some t)->q.tmps.getD t undef=a.tmps.getD t undef:=fun o x u M=>by
   have h1:=h.put o.dst (.refl _ _) (.refl _) h.mem (h.get x);rw[←BR.akm,←M]at h1;obtain⟨q,L,O,U,Y⟩:=aGI sl _ _ h1;refine⟨q,L,by rw[O,size_put],by rw[U,yU],fun t ht=>?_⟩;rw[Y t fun j Z=>ht j (Gv _ Z)];have :=ht i (GU ..) o u;cases hd:o.dst with
   |none=>rfl
   |some d=>exact a1K fun e=>this (by rw[hd,e])
  have J:uQ ops σ i=σ->∃q,Holds C ok H (Nr ops σ (i::sl)) q w/\q.tmps.size=a.tmps.size/\q.defers=a.defers/\∀t,(∀j∈i::sl,∀o,ops[j]? =some o->o.dst≠some t)->q.tmps.getD t undef=a.tmps.getD t undef:=fun M=>by
   obtain⟨q,L,O,U,Y⟩:=aGI sl σ a h;refine⟨q,?_,O,U,fun t ht=>Y t fun j Z=>ht j (Gv _ Z)⟩;unfold Nr at L ⊢;rw[Gm,M];exact L
  cases u:ops[i]? with
  |none=>exact J (by unfold uQ;rw[u])
  |some o=>
   cases z:o.op with
   |move x=>exact I o x u aJ8
   |assign x=>exact I o x u aJ8
   |_=>exact J aJ8
def Bz.aFC (T:Kn P) {id:Nat} {ops:Bh Oper} {σ:BR} {Q:Exit->BR->Prop} (sl:A8 Nat) (L:A8 (JR P)) (N:A8 (A8 Nat)) (Tr:A8 (Nat×Nat×Nat)) (F:A8 Nat) (fin:BR) (hm:P.follows .mixedOrders=true)
 (hsl:(U4 ops&&aSp ops sl&&aCU L ops)=true) (hN:Src ops sl N F 0 N Tr=true) (h0:N.getD 0 [0]=[])
 (hS:(N.map fun m=>sl.map fun i=>NH T L ops (Hq T L ops (Nr ops σ sl) m) i)=N.map fun m=>sl.map fun i=>some (Hq T L ops (Nr ops σ sl) m,NR L i))
 (hT:(Tr.map fun t=>NH T L ops (Hq T L ops (Nr ops σ sl) (N.getD t.1 [])) t.2.1)=Tr.map fun t=>some (Hq T L ops (Nr ops σ sl) (N.getD t.2.2 []),NR L t.2.1))
 (hF:Pz (fun k=>jh (Hq T L ops (Nr ops σ sl) (N.getD k [])) fin) F) (hQ:Q .normal fin):Bz P (.region id ops true) σ Q:=by
 refine⟨fun ro _ C ok H a w u=>?_⟩;refine aAL hm ?_;simp only[Df]at hsl;obtain⟨⟨he,hso⟩,htm⟩:=hsl;have abK:=aMi he
 let S:Nat->BR:=fun k=>Hq T L ops (Nr ops σ sl) (N.getD k [])
 have aDK:∀i∈sl,∃o d,ops[i]? =some o/\o.dst=some d/\(∀e∈o.after.toList,Region.binds .any e=false)/\∀j p,ops[j]? =some p->d∈tmpsOf p->I9 p i=true:=fun i hi=>by
  have z:=EY.1 hso i hi;cases Z:ops[i]? with
  |none=>rw[Z]at z;cases z
  |some o=>
   rw[Z]at z;simp only[Df]at z;cases hd:o.dst with
   |none=>rw[hd]at z;cases z.2
   |some d=>
    rw[hd]at z;simp only[EY]at z;refine⟨o,d,rfl,hd,fun e hee=>by simpa using z.1 e hee,fun j p hp hdp=>?_⟩;have O:=z.2 j (by simpa using(Gl.1 hp).1);rw[hp]at O;simpa[hdp]using O
 let I:Bh Ad->Act->Bc->Prop:=fun l a w=>l.size=ops.size/\∃k ok H U,k<N.length/\(∀i,i<ops.size->i∉sl->l.getD i false=(N.getD k []).contains i)/\Holds C ok H (S k) U w/\U.tmps.size=a.tmps.size/\U.defers=a.defers/\
  ∀t,(∀i∈sl,l.getD i false=false->∀o,ops[i]? =some o->o.dst≠some t)->U.tmps.getD t undef=a.tmps.getD t undef
 have hNN:∀k,k<N.length->(((List.range ops.size).all fun i=>sl.contains i||(N.getD k []).contains i|| !eP ops sl (N.getD k []) i||
  Tr.any fun t=>t.1==k&&t.2.1==i&&(t.2.2<N.length)&&(List.range ops.size).all fun j=>(N.getD t.2.2 []).contains j==((N.getD k []).contains j||j==i))&&
  (F.contains k||(List.range ops.size).any fun i=> !sl.contains i&& !(N.getD k []).contains i&&eP ops sl (N.getD k []) i))=true:=fun k hk=>by
  obtain⟨T,z,O⟩:=aX5 N 0 Tr hN k hk;unfold aKr at z;rw[J3,Df,EY]at z;rw[Df,EY];refine⟨fun i hi=>?_,z.2⟩;have J:=z.1 i hi;rw[TQ]at J ⊢;rcases J with J|J
  ·exact .inl J
  obtain⟨t,ht,h4⟩:=I8.1 J;obtain⟨h5,h6⟩:=O t ht;rw[J3]at h6;refine .inr (I8.2 ⟨t,h5,?_⟩);rw[show(t.1==k)=true by simpa using h6,Gh];exact h4
 refine aAE I (fun l a w h=>h.1) ?_ ?_ ops.size _ _ _ ?_ ?_
 ·rintro l a w ⟨z,k,ok,H,U,hk,hl,u,hz,hdf,hag⟩ i hi;unfold Region.ready at hi;rw[HY]at hi;obtain⟨hi1,hi2⟩:=hi;have hi':i<ops.size:=a0v
  have Z:ops[i]? =some ops[i]:=by simp[hi']
  simp only[Df]at hi2;have Qn:=hi2.2;rw[Z]at Qn;simp only[Ij,ML]at Qn;have aem:=fun e he=>(QJ.1 Qn) e he
  have hdone:∀j,I9 ops[i] j=true->l.getD j false=true:=by
   intro j M;unfold I9 at M;rw[I8]at M;obtain⟨e,hee,M⟩:=M;simp only[Df,Hd]at M;have :=aem e aNJ;simp only[M.2,Eo,Lj]at this;rw[M.1]at this;exact this
  have hself:l.getD i false=false:=by
   have h8:=hi2.1;have hil:i<l.size:=AB
   simp[Array.getD,hil]at h8 ⊢;exact h8
  have hread:∀t∈tmpsOf ops[i],U.tmps.getD t undef=a.tmps.getD t undef:=fun t ht=>hag t fun j M hlj o hoj hd=>by
   obtain⟨o',d,O,J,_,h5⟩:=aDK j M;rw[hoj]at O;obtain rfl:=Dh O;rw[J]at hd;obtain rfl:=Dh hd;have :=hdone j (h5 i _ Z ht);rw[hlj]at this;cases this
  have hrun:∀(x:Ai) (E:A8 Bf) (ns:A8 (CM×Ai)) (Q':Exit->Act->Bc->Prop),CS P ops[i] ns (S k).ents x E->needs (S k) ns->(KF ns).all (tmpsOf ops[i]).contains=true->ops[i].guard=none->
   (∀(q:Act) (w':Bc) (ok':Nat->Prop) (H':A8 CP) (v:Aw),q=U.put ops[i].dst v->Holds C ok' H' ((S k).put ops[i].dst x E) q w'->I (l.setIfInBounds i true) (a.put ops[i].dst v) w')->
   wpOpIn (JF ro) 0 P ops Q' i (fun a' w'=>I (l.setIfInBounds i true) a' w') a w:=fun x E ns Q' hop afP hnt hgn hk'=>by
   unfold wpOpIn;rw[Z];show if Region.wanted ops[i] (yielded ops a.tmps)=true then _ else _
   rw[DX (by unfold Region.wanted;rw[hgn])];refine Qm ?_ (hop.inR ro C ok H a w _ u.mem (fun n hn'=>?_))
   ·rintro a' w' ⟨v,ok',H',rfl,hgr,hnn,hm',hx⟩;exact hk' _ w' ok' H' v rfl (u.put ops[i].dst hgr hnn hm' hx)
   have hnv:=Q5 afP n hn';have hR:=hnv▸u.get n.1
   have heq:U.eval n.1=a.eval n.1:=by
    obtain⟨nx,ny⟩:=n;cases nx with
    |tmp t=>
     refine hread t ?_;rw[EY]at hnt
     have :t∈KF ns:=by
      unfold KF;rw[TR];exact⟨_,hn',rfl⟩
     simpa using hnt t this
    |const v=>rfl
    |global g=>rfl
    |func f=>rfl
   rw[←heq];exact hR
  have aAx:∀(v:Aw) (q:Act),q=U.put ops[i].dst v->q.tmps.size=(a.put ops[i].dst v).tmps.size/\q.defers=(a.put ops[i].dst v).defers/\
   ∀t,(∀j∈sl,(l.setIfInBounds i true).getD j false=false->∀o,ops[j]? =some o->o.dst≠some t)->q.tmps.getD t undef=(a.put ops[i].dst v).tmps.getD t undef:=by
   rintro v q rfl;refine⟨by rw[size_put,size_put,hz],by rw[yU,yU,hdf],fun t ht=>?_⟩;by_cases hdt:ops[i].dst=some t
   ·rw[hdt];by_cases htl:t<a.tmps.size
    ·rw[a2u (by rw[hz];exact htl),a2u htl]
    have e1:∀(b:Act),¬t<b.tmps.size->(b.put (some t) v).tmps.getD t undef=undef:=fun b hb=>by
     have :¬t<(b.put (some t) v).tmps.size:=by rw[size_put];exact hb
     simp[Array.getD,this]
    rw[e1 a htl,e1 U (by rw[hz];exact htl)]
   have e1:∀(b:Act),(b.put ops[i].dst v).tmps.getD t undef=b.tmps.getD t undef:=fun b=>by
    cases hd:ops[i].dst with
    |none=>rfl
    |some d=>exact a1K fun e=>hdt (by rw[hd,e])
   rw[e1,e1];refine hag t fun j M hlj o hoj hd=>?_
   have hij:i≠j:=fun e=>by
    subst e;rw[Z]at hoj;obtain rfl:=Dh hoj;exact hdt hd
   refine ht j M ?_ o hoj hd;simpa only[Io,Nb hij]using hlj
  have hset:∀j,j≠i->(l.setIfInBounds i true).getD j false=l.getD j false:=fun j M=>by
   simp only[Io,Nb (Zk M)]
  have hkm:N.getD k []∈N:=by
   rw[aF,EK hk];exact Ej hk
  by_cases ayH:i∈sl
  ·have h6:NH T L ops (S k) i=some (S k,NR L i):=sJ.1 (sJ.1 hS _ hkm) i ayH;obtain⟨x,E,ns,q1,q2,q3,q4,q5⟩:=aRs T Z htm h6;refine hrun x E ns _ q1 q2 q3 q4 fun q w' ok' H' v e hp=>?_;obtain⟨r1,r2,r3⟩:=aAx v q e;refine⟨by simp[z],k,ok',H',q,hk,fun j M hjs=>?_,q5▸hp,r1,r2,r3⟩;rw[hset j fun e=>hjs (e▸ayH)];exact hl j M hjs
  have hnc:(N.getD k []).contains i=false:=by rw[←hl i hi' ayH];exact hself
  have hrd:eP ops sl (N.getD k []) i=true:=by
   unfold eP;rw[Z];simp only[EY];intro e he;have h9:=aem e dw;cases hb:Region.binds .any e with
   |false=>simp
   |true=>
    simp only[hb,Eo,Lj]at h9 ⊢;by_cases hes:e.on∈sl
    ·simp[hes]
    by_cases hon:e.on<ops.size
    ·rw[←hl e.on hon hes,h9];simp[hon]
    have :l.getD e.on false=false:=aPG
    rw[this]at h9;cases h9
  have O:=hNN k hk;simp only[Df,EY]at O;have J:=O.1 i aBz;rw[hnc,hrd,show sl.contains i=false by simpa using ayH]at J;simp only[Eo,a1T,Lj,I8]at J;obtain⟨⟨k',i',t⟩,aHW,h4⟩:=J;simp only[Df,Oa,Hd,EY]at h4;obtain⟨⟨⟨e1,e2⟩,ht⟩,h5⟩:=h4;have h6:NH T L ops (S k') i'=some (S t,NR L i'):=sJ.1 hT (k',i',t) aHW;rw[e1,e2]at h6;obtain⟨x,E,ns,q1,q2,q3,q4,q5⟩:=aRs T Z htm h6;refine hrun x E ns _ q1 q2 q3 q4 fun q w' ok' H' v e hp=>?_;obtain⟨r1,r2,r3⟩:=aAx v q e;refine⟨by simp[z],t,ok',H',q,ht,fun j M hjs=>?_,q5▸hp,r1,r2,r3⟩;rw[h5 j aAR];by_cases hij:j=i
  ·subst hij;have :(l.setIfInBounds j true).getD j false=true:=by simp[Array.getD,z,M]
   rw[this];simp
  rw[hset j hij,hl j M hjs];simp[hij]
 ·rintro l a w ⟨z,k,ok,H,U,hk,hl,u,hz,hdf,hag⟩ hr
  have hsd:∀i∈sl,l.getD i false=true:=fun i hi=>by
   obtain⟨o,d,O,J,h4,_⟩:=aDK i hi;have hi':i<ops.size:=(Gl.1 O).1;rw[←aFc];intro hf
   have Y:i∈Region.ready .any ops l:=by
    unfold Region.ready;rw[HY];refine⟨aBz,?_⟩;have hil:i<l.size:=AB
    have hf':l.getD i true=false:=qG
    rw[hf',O];simp only[Iu,Gh,Ij,ML];rw[QJ];intro e he;rw[h4 e dw];simp
   rw[hr]at Y;simp at Y
  have O:=hNN k hk;simp only[Df,TQ]at O
  have hFk:k∈F:=by
   rcases O.2 with h|h
   ·simpa using h
   rw[I8]at h;obtain⟨i,hi,J⟩:=h;simp only[og]at hi;simp only[Df,Ls]at J;obtain⟨⟨h7,h4⟩,h5⟩:=J;have his:i∉sl:=by simpa using h7
   have Z:ops[i]? =some ops[i]:=SC
   have Y:i∈Region.ready .any ops l:=by
    unfold Region.ready;rw[HY];refine⟨Gp,?_⟩;have hf:l.getD i false=false:=by rw[hl i hi his];exact h4
    have hil:i<l.size:=AB
    have hf':l.getD i true=false:=qG
    rw[hf',Z];simp only[Iu,Gh,Ij,ML];rw[QJ];intro e he;unfold eP at h5;rw[Z]at h5;simp only[EY]at h5;have h6:=h5 e dw;cases hb:Region.binds .any e with
    |false=>simp
    |true=>
     simp only[hb,Eo,Lj,TQ,Df,Hd]at h6 ⊢;by_cases hes:e.on∈sl
     ·exact hsd _ hes
     rcases h6 with h6|h6
     ·exact absurd (by simpa using h6) hes
     rw[hl e.on h6.2 hes];exact h6.1
   rw[hr]at Y;simp at Y
  have hsame:U=a:=by
   have ht:U.tmps=a.tmps:=by
    apply Z4 hz;intro t J h4;have :=hag t fun i hi hli=>by rw[hsd i hi]at hli;cases hli
    simpa[Array.getD,J,h4]using this
   cases U;cases a;simp only at ht hdf;rw[ht,hdf]
  subst hsame;obtain⟨ok',H',J⟩:=hF.mem k hFk C ok H U w u;exact⟨ok',H',fin,J,hQ⟩
 ·unfold toCome;simp
 have hh':Holds C ok H σ a { w with drawn:=w.drawn+1 }:=
  ⟨⟨⟨u.mem.fr.os,u.mem.fr.tape,u.mem.fr.output,u.mem.fr.size,u.mem.fr.block⟩,u.mem.yF,u.mem.yG,u.mem.kM,u.mem.names,u.mem.hlen,fun k e h z O=>(u.mem.ent k e h z O).drew,u.mem.blk,u.mem.Ef⟩,u.size,u.defers.mono (fun b hb=>⟨hb,rfl⟩),u.base,fun t ht=>R.mono (w:=w) (ok:=ok) (w':={ w with drawn:=w.drawn+1 }) (fun b hb=>⟨hb,rfl⟩) (.refl _) (u.slot t ht)⟩
 obtain⟨U,q1,q2,q3,q4⟩:=aGI (ops:=ops) sl σ a hh';refine⟨Bj,0,ok,H,U,?_,fun i hi _=>?_,?_,q2,q3,fun t ht=>q4 t fun i hi o Z=>ht i hi a1j o Z⟩
 ·cases N with
  |nil=>cases h0
  |cons x l=>simp
 ·have e:N.getD 0 []=[]:=by
   cases N with
   |nil=>rfl
   |cons x l=>simpa using h0
  rw[e];simp[Array.getD]
 have e:S 0=Nr ops σ sl:=by
  show Hq T L ops (Nr ops σ sl) (N.getD 0 [])=_;cases N with
  |nil=>rfl
  |cons x l=>have :x=[]:=a2T
             subst this;rfl
 rw[e];exact q1
end
section
variable {P:Cm} [T:Kn P] {id:Nat} {ops:Bh Oper} {σ:BR} {Q:Exit->BR->Prop} {y:Code}
def Bz.aFD (sl:A8 Nat) (L:A8 (JR P)) (N:A8 (A8 Nat)) (Tr:A8 (Nat×Nat×Nat)) (j:Nat) (u:Bz P y (Hq T L ops (Nr ops σ sl) (N.getD j [])) Q) (hm:P.follows .mixedOrders=true:=by kernel_rfl) (q:(U4 ops&&aSp ops sl&&aCU L ops)=true:=by kernel_rfl) (z:Src ops sl N [j] 0 N Tr=true:=by kernel_rfl) (I:N.getD 0 [0]=[]:=by kernel_rfl)
 (J:(N.map fun m=>sl.map fun i=>NH T L ops (Hq T L ops (Nr ops σ sl) m) i)=N.map fun m=>sl.map fun i=>some (Hq T L ops (Nr ops σ sl) m,NR L i):=by kernel_rfl)
 (M:(Tr.map fun t=>NH T L ops (Hq T L ops (Nr ops σ sl) (N.getD t.1 [])) t.2.1)=Tr.map fun t=>some (Hq T L ops (Nr ops σ sl) (N.getD t.2.2 []),NR L t.2.1):=by kernel_rfl):Bz P (.seq (.region id ops true) y) σ Q:=
 aFH _ (Bz.aFC T sl L N Tr [j] _ hm q z I J M ⟨aHZ _,trivial⟩ rfl) u
end
def aUK {α:Type} (enc:α->D) (l:A8 α):D:=.agg (l.flatMap fun x=>(enc x).cells)
def aPF {α β:Type} {f:α->A8 β} {s:Nat} (q:∀x,(f x).length=s):∀(l:A8 α) (i:Nat) (a:α),l[i]? =some a->∀j,j<s->(l.flatMap f)[i*s+j]? =(f a)[j]?
 | [],i,a,h,j,_=>J8
 |x::l,0,a,h,j,u=>by
  obtain rfl:x=a:=KC
  rw[MC,aDR,J3,Hf (by rw[q];exact u)]
 |x::l,i+1,a,h,j,u=>by
  have h':l[i]? =some a:=KC
  rw[MC,KX (by rw[q,QS];omega),q,show(i+1)*s+j-s=i*s+j by rw[QS];omega];exact aPF q l i a h' j u
def aUP {α β:Type} {f:α->A8 β} {s:Nat} (j:∀x,(f x).length=s):∀l:A8 α,(l.flatMap f).length=l.length*s
 | []=>Bj
 |x::l=>by rw[MC,EZ,j,aUP j l,GZ,QS];omega
section
variable {P:Cm} {o:Oper} {es:A8 Bf} {α:Type}
def afE {x y:CM} {t e:CO} {n s:Nat} {k:IntKind} {i:Int} (enc:α->D) {l:A8 α} {a:α} (h:Am l i=some a) (ht:P.underlying t=some (.array n e)) (U:Ee P e true s) (hl:l.length=n) (hs:∀x,∃cs,enc x=.agg cs/\cs.length=s) (ho:o.op=.index t x y):
 CS P o [(x,.d (aUK enc l)),(y,.d (.lit (.int k i)))] es (.d (enc a)) es:=
 .pure fun ok H ac w _ _ Y=>by
  obtain⟨h0,Z⟩:=GH h;have q:=(FK Y).1;have hy:=(FK Y).2.lit;simp only at q hy;have I:=(Fv.1 Z).1;have hu:(underlying t).run P w=.ok (.array n e) w:=O4
  have hf:∀x,(enc x).cells.length=s:=fun x=>by obtain⟨cs,e1,e2⟩:=hs x;rw[e1];exact e2
  have J:=aUP (f:=fun x=>(enc x).cells) hf l;have u:=aPF (f:=fun x=>(enc x).cells) hf l i.toNat a Z;obtain⟨cs,ea,el⟩:=hs a;generalize hv:ac.eval x=v at q;cases q with
  |d _ _ q=>
   cases q with
   |agg _ vs L z hc=>
    rw[J]at L z hc
    have hm:i.toNat*s+s<=l.length*s:=by
     have :=Jz s I;rw[QS]at this;exact this
    refine⟨.agg (vs.extract (i.toNat*s) (i.toNat*s+s)),?_,?_⟩
    ·have hb:0<=i/\i<n:=⟨h0,AB⟩
     simp only[execOp,ho,hv,hy,Instr.index,asIntOf,Fl,Gw,hu,G8,hb,and_self,Jr,U.size w,part,U.agg w]
    rw[ea];rw[ea]at u;have M:(vs.extract (i.toNat*s) (i.toNat*s+s)).size=s:=by rw[Array.size_extract];omega
    have hg:∀j,j<s->cs.getD j ES=(l.flatMap fun x=>(enc x).cells).getD (i.toNat*s+j) ES:=fun j O=>by
     simp only[aF];rw[u j O];rfl
    refine .d _ _ (.agg _ _ (by rw[M,el]) (fun j O=>?_) (fun j O=>?_))
    ·rw[hg j AB];exact z _ AB
    rw[hg j AB];have :=hc (i.toNat*s+j) AB
    have e3:(vs.extract (i.toNat*s) (i.toNat*s+s)).getD j undef=vs.getD (i.toNat*s+j) undef:=by
     have h5:i.toNat*s+j<vs.size:=AB
     have h6:j<(vs.extract (i.toNat*s) (i.toNat*s+s)).size:=AB
     rw[Array.getD,dif_pos h6,Array.getD,dif_pos h5];show(vs.extract _ _)[j]=vs[i.toNat*s+j];rw[Array.getElem_extract]
    rw[e3];exact this
end
section
variable {P:Cm} {o:Oper} {es:A8 Bf}
def KI {f:FuncId} {ops:Bh CM} {ats:Bh CO} (eG:A8 Ai) {fH:A8 Ai} {j res':Ai} {E':A8 Bf} (q:El P f fH [] j E') (u:o.op=.call { callee:=.value (.func f),args:=ops,argTypes:=ats }) (z:Hg P f=true:=by kernel_rfl) (I:E'.all Bf.closed=true:=by kernel_rfl)
 (ha:NW [] eG fH:=by repeat (first|exact trivial|refine⟨.inl rfl,?_⟩|refine⟨.inr (.inr ⟨rfl,rfl⟩),?_⟩)) (hl:ops.toList.length=eG.length:=by kernel_rfl) (J:j.up [] es.length=res':=by kernel_rfl):CS P o (Fq ops.toList eG) es res' (es++E'):=aRQ q z I ha hl J u
def wo {f:FuncId} {ops:Bh CM} {ats:Bh CO} (eG:A8 Ai) {fH:A8 Ai} {j res':Ai} (q:El P f fH [] j []) (u:o.op=.call { callee:=.value (.func f),args:=ops,argTypes:=ats }) (z:Hg P f=true:=by kernel_rfl)
 (ha:NW [] eG fH:=by repeat (first|exact trivial|refine⟨.inl rfl,?_⟩|refine⟨.inr (.inr ⟨rfl,rfl⟩),?_⟩)) (hl:ops.toList.length=eG.length:=by kernel_rfl) (I:j.up [] es.length=res':=by kernel_rfl):CS P o (Fq ops.toList eG) es res' es:=aQC q z ha hl I u
def EW {f:FuncId} {ops:Bh CM} {ats:Bh CO} (srcs:A8 ET) (eG:A8 Ai) {fH:A8 Ai} {E E':A8 Bf} {j res':Ai} (q:El P f fH E j E') (u:o.op=.call { callee:=.value (.func f),args:=ops,argTypes:=ats }) (z:Hg P f=true:=by kernel_rfl) (I:SA srcs es E E'=true:=by kernel_rfl)
 (hE:Ql srcs es srcs E:=by first|exact trivial|exact PN AA trivial) (ha:NW srcs eG fH:=by repeat (first|exact trivial|refine⟨.inl rfl,?_⟩|refine⟨⟨0,rfl,rfl⟩,?_⟩|refine⟨⟨1,rfl,rfl⟩,?_⟩|refine⟨⟨2,rfl,rfl⟩,?_⟩|refine⟨.inr (.inr ⟨rfl,rfl⟩),?_⟩)) (hl:ops.toList.length=eG.length:=by kernel_rfl)
 (J:res'=j.up srcs es.length:=by kernel_rfl):CS P o (Fq ops.toList eG) es res' (MZ srcs es E'):=als srcs q z I hE ha hl J u
def bf {f:FuncId} {x:CM} {ops:Bh CM} {ats:Bh CO} (srcs:A8 ET) (fi ca eG:A8 Ai) {fH:A8 Ai} {E E':A8 Bf} {j res':Ai} (q:El P f fH E j E') (u:o.op=.call { callee:=.value x,args:=ops,argTypes:=ats }) (z:Hg P f=true:=by kernel_rfl) (I:SA srcs es E E'=true:=by kernel_rfl)
 (hE:Ql srcs es srcs E:=by first|exact trivial|exact PN AA trivial) (ha:NW srcs (fi++eG++ca) fH:=by repeat (first|exact trivial|refine⟨.inl rfl,?_⟩|refine⟨⟨0,rfl,rfl⟩,?_⟩|refine⟨⟨1,rfl,rfl⟩,?_⟩|refine⟨⟨2,rfl,rfl⟩,?_⟩|refine⟨.inr (.inr ⟨rfl,rfl⟩),?_⟩)) (hl:ops.toList.length=eG.length:=by kernel_rfl)
 (J:res'=j.up srcs es.length:=by kernel_rfl):CS P o ((x,.fn (.func f) fi ca)::Fq ops.toList eG) es res' (MZ srcs es E'):=abh srcs fi ca q z I hE ha hl J u
def aRF {f:FuncId} {x:CM} {ops:Bh CM} {ats:Bh CO} (srcs:A8 ET) (fi ca:A8 D) (eG:A8 Ai) {fH:A8 Ai} {E E':A8 Bf} {j res':Ai} (q:El P f fH E j E') (u:o.op=.call { callee:=.value x,args:=ops,argTypes:=ats }) (z:Hg P f=true:=by kernel_rfl) (I:SA srcs es E E'=true:=by kernel_rfl)
 (hE:Ql srcs es srcs E:=by first|exact trivial|exact PN AA trivial) (ha:NW srcs (fi.map .d++eG++ca.map .d) fH:=by repeat (first|exact trivial|refine⟨.inl rfl,?_⟩|refine⟨⟨0,rfl,rfl⟩,?_⟩|refine⟨⟨1,rfl,rfl⟩,?_⟩|refine⟨⟨2,rfl,rfl⟩,?_⟩|refine⟨.inr (.inr ⟨rfl,rfl⟩),?_⟩)) (hl:ops.toList.length=eG.length:=by kernel_rfl)
 (J:res'=j.up srcs es.length:=by kernel_rfl):CS P o ((x,.d (.fn (.func f) fi ca))::Fq ops.toList eG) es res' (MZ srcs es E'):=amf srcs fi ca q z I hE ha hl J u
end
section
variable {P:Cm} {ops:Bh Oper} {o:Oper} {rest l:A8 Oper} {σ:BR} {K:Exit->BR->Prop}
def Dw.ca {f:FuncId} {eG:A8 Ai} {j:Ai} (q:El P f eG [] j []) (k:Dw P ops rest (σ.qJ o.dst (j.up [] σ.ents.length)) K) (u:Hg P f=true:=by kernel_rfl) (z:UE σ o=some (f,eG):=by kernel_rfl)
 (hd:eG.all Ai.BJ=true:=by kernel_rfl) (I:JC ops σ o.guard=some true:=by kernel_rfl):Dw P ops (o::rest) σ K:=.call q u k z hd I
def Fe.ca {σ':BR} {f:FuncId} {eG:A8 Ai} {j:Ai} {rs:A8 Ai} {ess:A8 (A8 Bf)} {bs:A8 Ad} (q:El P f eG [] j []) (k:Fe P ops rest (σ.qJ o.dst (j.up [] σ.ents.length)) rs ess bs σ') (u:Hg P f=true:=by kernel_rfl) (z:UE σ o=some (f,eG):=by kernel_rfl)
 (hd:eG.all Ai.BJ=true:=by kernel_rfl) (I:JC ops σ o.guard=some true:=by kernel_rfl):Fe P ops (o::rest) σ (j.up [] σ.ents.length::rs) (σ.ents::ess) (false::bs) σ':=.call q u k z hd I
end
section
variable {P:Cm} {ops:Bh Oper} {o:Oper} {rest l:A8 Oper} {σ:BR} {K:Exit->BR->Prop}
def Dw.aW [T:Kn P] {M:BR->Prop} (k:M (OQ (Gy T ops l.length l σ))) (h:(Gy T ops l.length l σ).isSome=true:=by kernel_rfl):Dw P ops l σ (KH M K):=.aM l.length k rfl h
def Dw.Z [T:Kn P] {M:BR->Prop} {ns:A8 (CM×Ai)} {x:Ai} (h:CS P o ns σ.ents x σ.ents) (k:M (OQ (Gy T ops rest.length rest (σ.qJ o.dst x)))) (j:(ns.map fun n=>σ.get n.1)=ns.map (·.2):=by kernel_rfl) (q:JC ops σ o.guard=some true:=by kernel_rfl) (ht:(KF ns).all (tmpsOf o).contains=true:=by kernel_rfl) (hh:(Gy T ops rest.length rest (σ.qJ o.dst x)).isSome=true:=by kernel_rfl):Dw P ops (o::rest) σ (KH M K):=Dw.p h (Dw.aW k hh) j q ht
def Dw.Y [T:Kn P] {M:BR->Prop} {ns:A8 (CM×Ai)} {x:Ai} {es':A8 Bf} (h:CS P o ns σ.ents x es') (k:M (OQ (Gy T ops rest.length rest (σ.put o.dst x es')))) (j:(ns.map fun n=>σ.get n.1)=ns.map (·.2):=by kernel_rfl) (q:JC ops σ o.guard=some true:=by kernel_rfl) (ht:(KF ns).all (tmpsOf o).contains=true:=by kernel_rfl) (hh:(Gy T ops rest.length rest (σ.put o.dst x es')).isSome=true:=by kernel_rfl):Dw P ops (o::rest) σ (KH M K):=Dw.f h (Dw.aW k hh) j q ht
def Dw.X [T:Kn P] {M:BR->Prop} {f:FuncId} {eG:A8 Ai} {j:Ai} (q:El P f eG [] j []) (k:M (OQ (Gy T ops rest.length rest (σ.qJ o.dst (j.up [] σ.ents.length))))) (u:Hg P f=true:=by kernel_rfl) (z:UE σ o=some (f,eG):=by kernel_rfl) (hd:eG.all Ai.BJ=true:=by kernel_rfl) (I:JC ops σ o.guard=some true:=by kernel_rfl) (hh:(Gy T ops rest.length rest (σ.qJ o.dst (j.up [] σ.ents.length))).isSome=true:=by kernel_rfl):Dw P ops (o::rest) σ (KH M K):=Dw.ca q (Dw.aW k hh) u z hd I
def Dw.bi [T:Kn P] {A:Type} {b:Ad} {u v z:A} (h:(bif b then u else v)=z) (j:u=z->Dw P ops rest (σ.qJ o.dst (.d (.lit (.bool true)))) K:=by exact fun h=>.aW<|DK) (k2:v=z->Dw P ops rest (σ.qJ o.dst (.d (.lit (.bool false)))) K:=by exact fun h=>.aW<|DK)
 (hs:(WI T ops σ o).map (fun r=>(r.x,r.E,r.bar))=some (.d (.lit (.bool b)),σ.ents,false):=by kernel_rfl):Dw P ops (o::rest) σ K:=Ec h (fun e h=>.c (BP some e) (j h) hs) fun e h=>.c (BP some e) (k2 h) hs
def Dc {A:Type} {b:Ad} {u v z:A} {G:Prop} (h:(bif b then u else v)=z) (j:b=true->u=z->G:=by exact fun e i=>aWE) (k2:b=false->v=z->G:=by exact fun e i=>aWE):G:=Ec h j k2
def Aa [T:Kn P] {id:Nat} {y:Code} {Q:Exit->BR->Prop} (k:Bz P y (OQ (Gy T ops ops.toList.length ops.toList σ)) Q) (h:(Gy T ops ops.toList.length ops.toList σ).isSome=true:=by kernel_rfl):Bz P (.seq (.region id ops false) y) σ Q:=BX (.aW k h)
end
section
variable {P:Cm} {ops:Bh Oper} {l:A8 Oper} {σ:BR} {K:Exit->BR->Prop}
def Dw.mg (a c:Nat) (x:Ai) (j:Dw P ops (l.take (c+1)) σ (KH (fun s=>s.wipe (List.range' a c)=(σ.wipe (List.range' a c)).qJ (some (a+c)) x) K)) (q:Dw P ops (l.drop (c+1)) ((σ.wipe (List.range' a c)).qJ (some (a+c)) x) K):Dw P ops l σ K:=.merge (c+1) (List.range' a c) (a+c) x j q
end
def Ae {σ S:BR} (n w:Nat) (π:A8 (Nat×Ad)) (j:Uj σ.base σ.ents π=true:=by kernel_rfl) (q:S=⟨MV π (mk n w) σ.slots,SY σ.ents π,σ.base⟩:=by kernel_rfl):Cb σ S:=akB (mk n w) π j q
def Oc {α β:Type} {y:α} {g:α->AO (Except Aw β)} {r:Except Aw β} (h:Ll (.ok y) g=some r):g y=some r:=h
def Ov {α β:Type} {u:Aw} {g:α->AO (Except Aw β)} {r:Except Aw β} (h:Ll (.error u) g=some r):some (.error u)=some r:=h
def CU :BA:=⟨#[]⟩
def mQ (k:IntKind) (n:Int):D:=.lit (.int k n)
def l7 :BA:=⟨#[58]⟩
def wC :BA:=⟨#[33]⟩
def uN :BA:=⟨#[64]⟩
def qU :BA:=⟨#[64,33]⟩
def a1L :BA:=⟨#[33,114,58,97]⟩
def XJ :BA:=⟨#[64,97,110,110,58,97]⟩
def aPq :BA:=⟨#[64,98,111,98,58,98]⟩
def JA :BA:=⟨#[84,101,120,116]⟩
def JL :BA:=⟨#[78]⟩
def MB :BA:=⟨#[86,105,97]⟩
def MK :BA:=⟨#[76,101,118,101,108,115]⟩
def Kr :BA:=⟨#[65,108,108,111,119]⟩
def MQ :BA:=⟨#[68,101,110,121]⟩
def JE :BA:=⟨#[84,97,114,103,101,116]⟩
def Lu :BA:=⟨#[84,104,114,101,97,100]⟩
def DN :Aw:=.int .i64 0
def Dn :Aw:=.string CU
def FU :Aw:=.slice none 0 0
def aBw :Aw:=.agg #[FU,FU,DN,DN,DN,DN,DN,DN,DN]
def aAW :Aw:=.agg #[Dn,DN,DN,.bool false,Dn,FU,FU,FU,FU,DN,DN,DN,DN,DN,DN,DN]
def a1H :Aw:=.agg #[Dn,DN]
def a1w :Aw:=.agg #[DN,Dn,Dn,DN,.bool false,Dn,DN,DN,FU,FU,Dn,DN,DN,.bool false,Dn,FU,FU,FU,FU,DN,DN,DN,DN,DN,DN,DN,DN,Dn,DN]
def a2K :Aw:=.agg #[DN,DN,DN]
def a0Y :Aw:=.agg #[.map none,.map none,.map none]
def aDQ :Aw:=.agg #[Dn,DN]
def aXx :Aw:=.agg #[DN,DN]
def aBD :Aw:=.agg #[DN,Dn,DN]
def aDg :Aw:=.agg #[DN,Dn,Dn,DN,.bool false,Dn,DN,DN,FU,FU,Dn,DN,DN,.bool false,Dn,FU,FU,FU,FU,DN,DN,DN,DN,DN,DN,DN,DN,Dn,DN,DN,Dn,Dn,DN,.bool false,Dn,DN,DN,FU,FU,Dn,DN,DN,.bool false,Dn,FU,FU,FU,FU,DN,DN,DN,DN,DN,DN,DN,DN,Dn,DN,DN,Dn,Dn,DN,.bool false,Dn,DN,DN,FU,FU,Dn,DN,DN,.bool false,Dn,FU,FU,FU,FU,DN,DN,DN,DN,DN,DN,DN,DN,Dn,DN,DN,Dn,Dn,DN,.bool false,Dn,DN,DN,FU,FU,Dn,DN,DN,.bool false,Dn,FU,FU,FU,FU,DN,DN,DN,DN,DN,DN,DN,DN,Dn,DN]
def a2x :Aw:=.agg #[DN]
def aU1 :Aw:=.agg #[FU,FU,FU]
def aA8 :Aw:=.agg #[DN,Dn]
def aBe :Aw:=.agg #[DN,.nilFunc]
def aBG :Aw:=.agg #[DN,FU,FU,DN]
def aDy :Aw:=.agg #[DN,DN]
def aBZ :Aw:=.agg #[FU]
def aCI :Aw:=.agg #[DN,DN,DN,DN,DN]
def a2R :Aw:=.agg #[DN,DN,DN,DN,DN,DN,DN]
def a2s :Aw:=.agg #[FU,FU]
def aEV :Aw:=.agg #[FU,FU]
def aD1 :Aw:=.agg #[]
def aA4 :Aw:=.agg #[FU]
def aWP :Aw:=.agg #[FU,FU,FU,FU,FU]
def a2N :Aw:=.agg #[]
def aBu :Aw:=.agg #[DN,DN,DN,FU]
def a2P :Aw:=.agg #[DN,DN,DN]
structure Ig where
 User:ByteArray
 N:Int
def Ez (x:Ig):D:=.agg [DW x.User,Ag x.N]
def ahy :Ig:=⟨CU,0⟩
instance : Inhabited Ig:=⟨ahy⟩
structure KJ where
 Kind:Int
 N:Int
def Ey (x:KJ):D:=.agg [Ag x.Kind,Ag x.N]
def aZP :KJ:=⟨0,0⟩
instance : Inhabited KJ:=⟨aZP⟩
structure Cx where
 Users:(List Ig)
 Kinds:(List KJ)
 User:Int
 Message:Int
 State:Int
 gY:Int
 kD:Int
 nZ:Int
 iJ:Int
def FD (x:Cx):D:=.agg [(C9 Ez) x.Users,(C9 Ey) x.Kinds,Ag x.User,Ag x.Message,Ag x.State,Ag x.gY,Ag x.kD,Ag x.nZ,Ag x.iJ]
def Jq :Cx:=⟨[],[],0,0,0,0,0,0,0⟩
instance : Inhabited Cx:=⟨Jq⟩
structure DI where
 Text:ByteArray
 N:Int
 Target:Int
 Thread:Bool
 Via:ByteArray
 Allow:(List ByteArray)
 iK:(List ByteArray)
 Levels:Cx
def Fa (x:DI):D:=.agg [DW x.Text,Ag x.N,Ag x.Target,Ea x.Thread,DW x.Via,(C9 DW) x.Allow,(C9 DW) x.iK,(C9 Ez) x.Levels.Users,(C9 Ey) x.Levels.Kinds,Ag x.Levels.User,Ag x.Levels.Message,Ag x.Levels.State,Ag x.Levels.gY,Ag x.Levels.kD,Ag x.Levels.nZ,Ag x.Levels.iJ]
def EC :DI:=⟨CU,0,0,false,CU,[],[],Jq⟩
instance : Inhabited DI:=⟨EC⟩
structure QI where
 Server:ByteArray
 Sum:Int
def dH :QI:=⟨CU,0⟩
instance : Inhabited QI:=⟨dH⟩
structure AX where
 Id:Int
 Room:ByteArray
 bG:ByteArray
 Kind:Int
 State:Bool
 Key:ByteArray
 Time:Int
 Depth:Int
 bK:(List Int)
 bT:(List Int)
 Content:DI
 Hash:Int
 o7:QI
def Aq (x:AX):D:=.agg [Ag x.Id,DW x.Room,DW x.bG,Ag x.Kind,Ea x.State,DW x.Key,Ag x.Time,Ag x.Depth,(C9 Ag) x.bK,(C9 Ag) x.bT,DW x.Content.Text,Ag x.Content.N,Ag x.Content.Target,Ea x.Content.Thread,DW x.Content.Via,(C9 DW) x.Content.Allow,(C9 DW) x.Content.iK,(C9 Ez) x.Content.Levels.Users,(C9 Ey) x.Content.Levels.Kinds,Ag x.Content.Levels.User,Ag x.Content.Levels.Message,Ag x.Content.Levels.State,Ag x.Content.Levels.gY,Ag x.Content.Levels.kD,Ag x.Content.Levels.nZ,Ag x.Content.Levels.iJ,Ag x.Hash,DW x.o7.Server,Ag x.o7.Sum]
def Ch :AX:=⟨0,CU,CU,0,false,CU,0,0,[],[],EC,0,dH⟩
instance : Inhabited AX:=⟨Ch⟩
structure Fp where
 b_:(List Int)
def MH (x:Fp):D:=.agg [(C9 Dp) x.b_]
def aDM :Fp:=⟨[]⟩
instance : Inhabited Fp:=⟨aDM⟩
structure Ou where
 aCh:Int
 atK:Nat
def Ur (x:Ou):D:=.agg [Ag x.aCh,aVz x.atK]
def akj :Ou:=⟨0,0⟩
instance : Inhabited Ou:=⟨akj⟩
structure Sm where
 pq:Int
 nC:Int
def Jy (x:Sm):D:=.agg [Ag x.pq,Ag x.nC]
def a1D :Sm:=⟨0,0⟩
instance : Inhabited Sm:=⟨a1D⟩
structure BM where
 Kind:Int
 Key:ByteArray
 Id:Int
def Bg (x:BM):D:=.agg [Ag x.Kind,DW x.Key,Ag x.Id]
def ahG :BM:=⟨0,CU,0⟩
instance : Inhabited BM:=⟨ahG⟩
structure jf where
 anS:Int
def aah :jf:=⟨0⟩
instance : Inhabited jf:=⟨aah⟩
structure Vk where
def wK (x:Vk):D:=.agg []
def aYs :Vk:=⟨⟩
instance : Inhabited Vk:=⟨aYs⟩
structure Oi where
 EI:(List BM)
 akz:(List Int)
 atM:(List Int)
def fZ (x:Oi):D:=.agg [(C9 Bg) x.EI,(C9 Ag) x.akz,(C9 Ag) x.atM]
def a0w :Oi:=⟨[],[],[]⟩
instance : Inhabited Oi:=⟨a0w⟩
structure Qw where
 nC:Int
 Jo:Int
 CG:Int
 atN:(List Int)
def Lh (x:Qw):D:=.agg [Ag x.nC,Ag x.Jo,Ag x.CG,(C9 Ag) x.atN]
def aYw :Qw:=⟨0,0,0,[]⟩
instance : Inhabited Qw:=⟨aYw⟩
structure QH where
 YC:Int
 YD:ByteArray
def LV (x:QH):D:=.agg [Ag x.YC,DW x.YD]
def ai6 :QH:=⟨0,CU⟩
instance : Inhabited QH:=⟨ai6⟩
structure WB where
 asR:(List Int)
def zi (x:WB):D:=.agg [(C9 Ag) x.asR]
def alI :WB:=⟨[]⟩
instance : Inhabited WB:=⟨alI⟩
structure Ld where
 nC:Int
 zU:Int
 CG:Int
def Ox (x:Ld):D:=.agg [Ag x.nC,Ag x.zU,Ag x.CG]
def aeL :Ld:=⟨0,0,0⟩
instance : Inhabited Ld:=⟨aeL⟩
structure aPV where
 Depth:Int
 Id:Int
 Target:Int
def ajU :aPV:=⟨0,0,0⟩
instance : Inhabited aPV:=⟨ajU⟩
structure aUO where
 User:ByteArray
 Kind:Int
 Key:ByteArray
 Content:DI
 Time:Int
def aar :aUO:=⟨CU,0,CU,EC,0⟩
instance : Inhabited aUO:=⟨aar⟩
structure Ie where
 Id:Int
 Before:(List BM)
 After:(List BM)
 Err:Int
def LM (x:Ie):D:=.agg [Ag x.Id,(C9 Bg) x.Before,(C9 Bg) x.After,Ag x.Err]
def VI :Ie:=⟨0,[],[],0⟩
instance : Inhabited Ie:=⟨VI⟩
structure Oy where
 Same:(List BM)
 Power:(List Int)
 First:(List BM)
 Others:(List Int)
 Last:(List BM)
def aK (x:Oy):D:=.agg [(C9 Bg) x.Same,(C9 Ag) x.Power,(C9 Bg) x.First,(C9 Ag) x.Others,(C9 Bg) x.Last]
def XB :Oy:=⟨[],[],[],[],[]⟩
instance : Inhabited Oy:=⟨XB⟩
structure nY where
 Room:ByteArray
 User:ByteArray
 Time:Int
 Rule:Int
 Visibility:Int
def aCd (x:nY):D:=.agg [DW x.Room,DW x.User,Ag x.Time,Ag x.Rule,Ag x.Visibility]
def akx :nY:=⟨CU,CU,0,0,0⟩
instance : Inhabited nY:=⟨akx⟩
def aZj :EH Au 39 10 10:=EP AA
def TI :Ee Au 30 true 16:=Gt AA
def zero30 :(Au.info? 30).bind (·.zero)=some (aAW):=AA
def afy :EH Au 39 8 8:=EP AA
def a0u :Ee Au 35 false 1:=Gt AA
def Bl :Au.underlying 35=some (.slice 3):=AA
def aju :EH Au 39 9 9:=EP AA
def aja :EH Au 30 5 5:=EP AA
def ac0 :Ee Au 24 false 1:=Gt AA
def GR :Au.underlying 24=some (.slice 9):=AA
def afK :EH Au 30 6 6:=EP AA
def ac6 :EH Au 30 7 7:=EP AA
def abR :EH Au 28 0 0:=EP AA
def aQy :Ee Au 25 false 1:=Gt AA
def GN :Au.underlying 25=some (.slice 108):=AA
def agS :EH Au 28 1 1:=EP AA
def aTx :Ee Au 26 false 1:=Gt AA
def Fr :Au.underlying 26=some (.slice 111):=AA
def abl :EH Au 39 1 1:=EP AA
def Jm :Ee Au 9 false 1:=Gt AA
def H6 :Au.underlying 9=some (.string):=AA
def aiA :EH Au 39 2 2:=EP AA
def agE :EH Au 39 5 5:=EP AA
def ahz :EH Au 30 0 0:=EP AA
def aaB :EH Au 30 4 4:=EP AA
def aeZ :EH Au 39 12 27:=EP AA
def agO :EH Au 37 0 0:=EP AA
def KO :Ee Au 108 true 2:=Gt AA
def aib :EH Au 108 0 0:=EP AA
def CV :Au.underlying 22=some (.slice 39):=AA
def Cj :Ee Au 39 true 29:=Gt AA
def Wy :Au.underlying 159=some (.slice 5):=AA
def JY :Gu Au 159 5 1 1:=LX AA
def RD :(Au.info? 5).bind (·.zero)=some (.int .u8 0):=AA
def YH :Au.underlying 3=some (.int .i64):=AA
def akK :Au.underlying 214=some (.int .u64):=AA
def aB6 :Au.underlying 5=some (.int .u8):=AA
def arb :BD 328=true:=AA
def aso :BD 327=true:=AA
def asn :BD 326=true:=AA
def at1 :BD 329=true:=AA
def aoE :BD 251=true:=AA
def ajZ :EH Au 30 1 1:=EP AA
def Ci :Ee Au 3 false 1:=Gt AA
def aoZ :BD 252=true:=AA
def alz :EH Au 30 2 2:=EP AA
def anR :EH Au 30 3 3:=EP AA
def aTK :Ee Au 4 false 1:=Gt AA
def aoe :BD 253=true:=AA
def aq7 :BD 254=true:=AA
def ZV :Ee Au 28 true 9:=Gt AA
def aRy :(Au.info? 28).bind (·.zero)=some (aBw):=AA
def Fr5 :(Au.info? 108).bind (·.zero)=some (aDQ):=AA
def aaI :EH Au 108 1 1:=EP AA
def Jv :Ee Au 111 true 2:=Gt AA
def aUR :(Au.info? 111).bind (·.zero)=some (aXx):=AA
def alC :EH Au 111 0 0:=EP AA
def Yw :Ee Au 23 false 1:=Gt AA
def ane :EH Au 111 1 1:=EP AA
def ahi :EH Au 28 2 2:=EP AA
def ahw :EH Au 28 3 3:=EP AA
def aao :EH Au 28 4 4:=EP AA
def afr :EH Au 28 5 5:=EP AA
def anf :EH Au 28 6 6:=EP AA
def agj :EH Au 28 7 7:=EP AA
def akr :EH Au 28 8 8:=EP AA
def aYX :(Au.info? 239).bind (·.zero)=some (a2R):=AA
def afe :Yf Au 239 1 (a2R):=a04 AA aYX AA
def a0X :Au.underlying 239=some (.array 7 3):=AA
def aMS :Ee Au 5 false 1:=Gt AA
def asI :BD 222=true:=AA
def aol :BD 221=true:=AA
def asW :BD 158=true:=AA
def apb :BD 138=true:=AA
def N9 :Gu Au 24 9 1 16:=LX AA
def qY :Gu Au 25 108 2 24:=LX AA
def aLu :Gu Au 26 111 2 16:=LX AA
def aop :BD 172=true:=AA
def as4 :BD 135=true:=AA
def aqX :BD 136=true:=AA
def as7 :BD 137=true:=AA
def JI :(Au.info? 39).bind (·.zero)=some (a1w):=AA
def ahZ :EH Au 39 3 3:=EP AA
def apz :BD 76=true:=AA
def aPE :(Au.info? 225).bind (·.zero)=some (aBZ):=AA
def aYf :Jj Au 225 [(0,1)] (aBZ):=NG AA aPE AA
def ak1 :EH Au 39 0 0:=EP AA
def E8 :Gu Au 35 3 1 8:=LX AA
def zero3 :(Au.info? 3).bind (·.zero)=some (.int .i64 0):=AA
def ajy :EH Au 225 0 0:=EP AA
def agk :Ee Au 159 false 1:=Gt AA
def aq4 :BD 224=true:=AA
def aqf :BD 223=true:=AA
def zero9 :(Au.info? 9).bind (·.zero)=some (.string CU):=AA
def aqb :BD 226=true:=AA
def ap8 :BD 225=true:=AA
def ae1 :EH Au 39 4 4:=EP AA
def aha :Gu Au 286 4 1 1:=LX AA
def rF :(Au.info? 4).bind (·.zero)=some (.bool false):=AA
def aR5 :Au.underlying 286=some (.slice 4):=AA
def ap7 :BD 228=true:=AA
def arW :BD 227=true:=AA
def aaC :EH Au 39 6 6:=EP AA
def adf :EH Au 39 7 7:=EP AA
def aJc :Gu Au 287 35 1 24:=LX AA
def yw :(Au.info? 35).bind (·.zero)=some (.slice none 0 0):=AA
def sO :Au.underlying 287=some (.slice 35):=AA
def aqz :BD 369=true:=AA
def aqv :BD 315=true:=AA
def aqg :BD 230=true:=AA
def aqW :BD 229=true:=AA
def ajB :EH Au 39 11 26:=EP AA
def anP :EH Au 37 1 1:=EP AA
def asP :BD 122=true:=AA
def aRp :(Au.info? 37).bind (·.zero)=some (a1H):=AA
def adL :Jj Au 37 [(0,1),(1,1)] (a1H):=NG AA aRp AA
def afk :Ee Au 37 true 2:=Gt AA
def aoH :BD 139=true:=AA
def ape :BD 92=true:=AA
def atO :BD 77=true:=AA
def asZ :BD 35=true:=AA
def ase :BD 125=true:=AA
def acV :BD 126=true:=AA
def Gq :Gu Au 22 39 29 376:=LX AA
def aps :BD 64=true:=AA
def apG :BD 79=true:=AA
def aqJ :BD 74=true:=AA
def aql :BD 80=true:=AA
def apS :BD 317=true:=AA
def atW :BD 232=true:=AA
def apX :BD 236=true:=AA
def ar6 :BD 233=true:=AA
def akc :BD 234=true:=AA
def alk :BD 235=true:=AA
def aqP :BD 140=true:=AA
def arY :BD 141=true:=AA
def ate :BD 142=true:=AA
def atG :BD 143=true:=AA
def aoj :BD 78=true:=AA
def asy :BD 272=true:=AA
def apw :BD 169=true:=AA
def aqY :BD 170=true:=AA
def aqU :BD 171=true:=AA
def apJ :BD 273=true:=AA
def aq0 :BD 274=true:=AA
def aqG :BD 277=true:=AA
def arO :BD 173=true:=AA
def asg :BD 275=true:=AA
def ap5 :BD 276=true:=AA
def apx :BD 174=true:=AA
def aMI :(Au.info? 191).bind (·.zero)=some (aBe):=AA
def aZm :Jj Au 191 [(0,1),(1,1)] (aBe):=NG AA aMI AA
def ai4 :Gu Au 192 191 2 16:=LX AA
def aUp :Au.underlying 192=some (.slice 191):=AA
def aR8 :Ee Au 191 true 2:=Gt AA
def aZ2 :EH Au 191 0 0:=EP AA
def alF :EH Au 191 1 1:=EP AA
def afm :Ee Au 137 false 1:=Gt AA
def aqV :BD 181=true:=AA
def ajV :BD 175=true:=AA
def abB :BD 176=true:=AA
def aaJ :BD 177=true:=AA
def aly :BD 178=true:=AA
def aaT :BD 179=true:=AA
def ady :BD 180=true:=AA
def arS :BD 182=true:=AA
def atT :BD 98=true:=AA
def aZD :Au.underlying 4=some (.bool):=AA
def apP :BD 101=true:=AA
def asT :BD 102=true:=AA
def arX :BD 103=true:=AA
def a0M (x y:Ig):Ad:=(x.User.toList==y.User.toList&&(x.N==y.N&&true))
def ajn (x y:Ig):kH Au 2 108 [.string x.User,.int .i64 x.N] [.string y.User,.int .i64 y.N] (a0M x y):=⟨fun d w=>aA6 AA AA AA (l:=[(9,0),(3,1)]) AA (XF (Nc Jm AA w) (Nc Jm AA w) (run_equalIn_string w _ _ _ _ H6)<|XF (Nc Ci AA w) (Nc Ci AA w) (au w _ _ .i64 _ _ _ YH)<|aBm _ _ _ _)⟩
def anA :Program.eqGuardType Au (Program.depth Au) 108=false:=AA
def aXm :Au.underlying 23=some (.int .i64):=AA
def aDT (x y:KJ):Ad:=(x.Kind==y.Kind&&(x.N==y.N&&true))
def akZ (x y:KJ):kH Au 2 111 [.int .i64 x.Kind,.int .i64 x.N] [.int .i64 y.Kind,.int .i64 y.N] (aDT x y):=⟨fun d w=>aA6 AA AA AA (l:=[(23,0),(3,1)]) AA (XF (Nc Yw AA w) (Nc Yw AA w) (au w _ _ .i64 _ _ _ aXm)<|XF (Nc Ci AA w) (Nc Ci AA w) (au w _ _ .i64 _ _ _ YH)<|aBm _ _ _ _)⟩
def aZw :Program.eqGuardType Au (Program.depth Au) 111=false:=AA
def apY :BD 132=true:=AA
def ara :BD 133=true:=AA
def arF :BD 134=true:=AA
def apa :BD 46=true:=AA
def aru :BD 75=true:=AA
def atF :BD 30=true:=AA
def aE1 (x y:QI):Ad:=(x.Server.toList==y.Server.toList&&(x.Sum==y.Sum&&true))
def aiX (x y:QI):kH Au 2 37 [.string x.Server,.int .i64 x.Sum] [.string y.Server,.int .i64 y.Sum] (aE1 x y):=⟨fun d w=>aA6 AA AA AA (l:=[(9,0),(3,1)]) AA (XF (Nc Jm AA w) (Nc Jm AA w) (run_equalIn_string w _ _ _ _ H6)<|XF (Nc Ci AA w) (Nc Ci AA w) (au w _ _ .i64 _ _ _ YH)<|aBm _ _ _ _)⟩
def aZU :Program.eqGuardType Au (Program.depth Au) 37=false:=AA
def asb :BD 29=true:=AA
def Qp :Au.underlying 172=some (.map 3 3):=AA
def JB :KeyTy Au 3 Di:=ae6 YH
def aoa :BD 153=true:=AA
def ahb :(Au.info? 172).bind (·.zero)=some (.map none):=AA
def ag0 :Ee Au 172 false 1:=Gt AA
def apD :BD 311=true:=AA
def as6 :BD 217=true:=AA
def ar1 :BD 218=true:=AA
def aIM :Gu Au 216 218 2 16:=LX AA
def aAC :(Au.info? 218).bind (·.zero)=some (aDy):=AA
def agJ :Jj Au 218 [(0,1),(1,1)] (aDy):=NG AA aAC AA
def Xv :Au.underlying 216=some (.slice 218):=AA
def Ty :Ee Au 218 true 2:=Gt AA
def adk :EH Au 218 0 0:=EP AA
def ad9 :EH Au 218 1 1:=EP AA
def aiT :Jj Au 39 [(0,1),(1,1),(2,1),(3,1),(4,1),(5,1),(6,1),(7,1),(8,1),(9,1),(10,16),(26,1),(27,2)] (a1w):=NG AA JI AA
def II :Au.underlying 51=some (.slice 116):=AA
def FW :Ee Au 116 true 3:=Gt AA
def QV :(Au.info? 116).bind (·.zero)=some (aBD):=AA
def akR :Jj Au 116 [(0,1),(1,1),(2,1)] (aBD):=NG AA QV AA
def amw :EH Au 116 0 0:=EP AA
def aZX :EH Au 116 1 1:=EP AA
def aoG :BD 367=true:=AA
def aoM :BD 365=true:=AA
def aeJ :BD 366=true:=AA
def air :BD 368=true:=AA
def arP :BD 314=true:=AA
def G7 :Au.underlying 52=some (.slice 116):=AA
def amE :EH Au 116 2 2:=EP AA
def KW :Au.underlying 129=some (.slice 52):=AA
def Rx :Ee Au 52 false 1:=Gt AA
def as2 :BD 248=true:=AA
def ao8 :BD 243=true:=AA
def aog :BD 61=true:=AA
def apy :BD 62=true:=AA
def VO :(Au.info? 52).bind (·.zero)=some (.slice none 0 0):=AA
def aj1 :Ee Au 129 false 1:=Gt AA
def aoK :BD 72=true:=AA
def aYe :BD 131=true:=AA
def ap2 :BD 319=true:=AA
def MF :Gu Au 52 116 3 32:=LX AA
def sN :BD 154=true:=AA
def gq :Au.underlying 117=some (.map 3 4):=AA
def ah8 :BD 374=true:=AA
def an5 :BD 375=true:=AA
def aPf :BD 322=true:=AA
def ap6 :BD 373=true:=AA
def atB :BD 244=true:=AA
def arD :BD 320=true:=AA
def atd :BD 400=true:=AA
def aQ0 :BD 376=true:=AA
def arU :BD 21=true:=AA
def apr :BD 321=true:=AA
def aqT :BD 323=true:=AA
def yR :BD 220=true:=AA
def anD :BD 414=true:=AA
def aoT :BD 28=true:=AA
def apt :BD 271=true:=AA
def aqa :BD 413=true:=AA
def aYi :Ee Au 22 false 1:=Gt AA
def arv :BD 83=true:=AA
def aQu :(Au.info? 165).bind (·.zero)=some (a2x):=AA
def aiZ :Jj Au 165 [(0,1)] (a2x):=NG AA aQu AA
def akS :(match Au.underlying 165 with |some (.interface _)=>false|some _=>true|none=>false)=true:=AA
def xP :BD 85=true:=AA
def Tv :BD 84=true:=AA
def atf :BD 147=true:=AA
def apK :BD 87=true:=AA
def aWd :(Au.info? 235).bind (·.zero)=some (aCI):=AA
def aaq :Yf Au 235 1 (aCI):=a04 AA aWd AA
def ai7 :Ee Au 235 true 5:=Gt AA
def aWx :Au.underlying 235=some (.array 5 3):=AA
def ao5 :BD 149=true:=AA
def ar5 :BD 238=true:=AA
def aph :BD 239=true:=AA
def aoV :BD 240=true:=AA
def as1 :BD 150=true:=AA
def ahX :BD 130=true:=AA
def arM :BD 68=true:=AA
def atc :BD 69=true:=AA
def as9 :BD 70=true:=AA
def acv :Jj Au 28 [(0,1),(1,1),(2,1),(3,1),(4,1),(5,1),(6,1),(7,1),(8,1)] (aBw):=NG AA aRy AA
def adU :Jj Au 108 [(0,1),(1,1)] (aDQ):=NG AA Fr5 AA
def apu :BD 71=true:=AA
def ata :BD 23=true:=AA
def aqj :BD 26=true:=AA
def ak5 :BD 148=true:=AA
def asG :BD 81=true:=AA
def arf :BD 86=true:=AA
def ap1 :BD 151=true:=AA
def aT8 :Ee Au 239 true 7:=Gt AA
def aTf :BD 242=true:=AA
def aML :BD 241=true:=AA
def aQx :(Au.info? 241).bind (·.zero)=some (a2s):=AA
def anW :Yf Au 241 1 (a2s):=a04 AA aQx AA
def ac7 :Au.underlying 241=some (.array 2 26):=AA
def aVQ :(Au.info? 242).bind (·.zero)=some (aEV):=AA
def agb :Yf Au 242 1 (aEV):=a04 AA aVQ AA
def aek :Au.underlying 242=some (.array 2 25):=AA
def asf :BD 152=true:=AA
def aoP :BD 88=true:=AA
def ajq :BD 82=true:=AA
def aqF :BD 411=true:=AA
def aof :BD 33=true:=AA
def aPc :(Au.info? 331).bind (·.zero)=some (a2N):=AA
def ahl :Jj Au 331 [] (a2N):=NG AA aPc AA
def anx :(match Au.underlying 331 with |some (.interface _)=>false|some _=>true|none=>false)=true:=AA
def apv :BD 377=true:=AA
def aq5 :BD 378=true:=AA
def aow :BD 325=true:=AA
def aTE :BD 379=true:=AA
def aqM :BD 380=true:=AA
def ar8 :BD 270=true:=AA
def aZ3 :Au.underlying 148=some (.int .u64):=AA
def aqZ :BD 205=true:=AA
def arn :BD 206=true:=AA
def aqd :BD 121=true:=AA
def ad3 :(Au.info? 176).bind (·.zero)=some (aU1):=AA
def aoy :BD 245=true:=AA
def asA :BD 246=true:=AA
def aWL :(Au.info? 248).bind (·.zero)=some (aD1):=AA
def abo :Jj Au 248 [] (aD1):=NG AA aWL AA
def ahE :(match Au.underlying 248 with |some (.interface _)=>false|some _=>true|none=>false)=true:=AA
def aH0 :(Au.info? 185).bind (·.zero)=some (aA8):=AA
def ahj :Jj Au 185 [(0,1),(1,1)] (aA8):=NG AA aH0 AA
def aKz :Gu Au 186 185 2 24:=LX AA
def arJ :BD 168=true:=AA
def ZR :Au.underlying 186=some (.slice 185):=AA
def mZ :Ee Au 185 true 2:=Gt AA
def ai8 :EH Au 185 0 0:=EP AA
def adR :EH Au 185 1 1:=EP AA
def aVq :BD 364=true:=AA
def ap4 :BD 313=true:=AA
def aqn :BD 434=true:=AA
def aNl :(Au.info? 356).bind (·.zero)=some (aBu):=AA
def ang :Jj Au 356 [(0,1),(1,1),(2,1),(3,1)] (aBu):=NG AA aNl AA
def aJb :Gu Au 353 356 4 48:=LX AA
def aq6 :BD 432=true:=AA
def WU :Au.underlying 353=some (.slice 356):=AA
def fK :Ee Au 356 true 4:=Gt AA
def amm :EH Au 356 3 3:=EP AA
def adN :EH Au 356 0 0:=EP AA
def aht :EH Au 356 1 1:=EP AA
def aje :EH Au 356 2 2:=EP AA
def aaG :BD 433=true:=AA
def aoS :BD 431=true:=AA
def afo :BD 430=true:=AA
def ab9 :rP Au 248 "fedchat/resolve.sort" 430=true:=AA
def aqe :BD 324=true:=AA
def aqm :BD 247=true:=AA
def ab3 :EH Au 176 1 1:=EP AA
def aqw :BD 249=true:=AA
def asM :BD 250=true:=AA
def aVv :(Au.info? 253).bind (·.zero)=some (aA4):=AA
def abk :Jj Au 253 [(0,1)] (aA4):=NG AA aVv AA
def aiY :(match Au.underlying 253 with |some (.interface _)=>false|some _=>true|none=>false)=true:=AA
def adW :EH Au 253 0 0:=EP AA
def aqE :BD 437=true:=AA
def aMu :(Au.info? 360).bind (·.zero)=some (a2P):=AA
def aaK :Jj Au 360 [(0,1),(1,1),(2,1)] (a2P):=NG AA aMu AA
def aXR :Gu Au 358 360 3 24:=LX AA
def asY :BD 438=true:=AA
def kn :Au.underlying 358=some (.slice 360):=AA
def jv :Ee Au 360 true 3:=Gt AA
def zN (x y:Ld):Ad:=(x.nC==y.nC&&(x.zU==y.zU&&(x.CG==y.CG&&true)))
def aal (x y:Ld):kH Au 2 360 [.int .i64 x.nC,.int .i64 x.zU,.int .i64 x.CG] [.int .i64 y.nC,.int .i64 y.zU,.int .i64 y.CG] (zN x y):=⟨fun d w=>aA6 AA AA AA (l:=[(3,0),(3,1),(3,2)]) AA (XF (Nc Ci AA w) (Nc Ci AA w) (au w _ _ .i64 _ _ _ YH)<|XF (Nc Ci AA w) (Nc Ci AA w) (au w _ _ .i64 _ _ _ YH)<|XF (Nc Ci AA w) (Nc Ci AA w) (au w _ _ .i64 _ _ _ YH)<|aBm _ _ _ _)⟩
def ag6 :Program.eqGuardType Au (Program.depth Au) 360=false:=AA
def atV :BD 441=true:=AA
def aeS :EH Au 360 0 0:=EP AA
def atl :BD 436=true:=AA
def ag5 :BD 435=true:=AA
def aap :rP Au 253 "fedchat/resolve.sort" 435=true:=AA
def ad4 :EH Au 176 0 0:=EP AA
def agN :EH Au 176 2 2:=EP AA
def aOZ :Ee Au 176 true 3:=Gt AA
def aqy :BD 157=true:=AA
def anr :nS Au 176 0 0 false 1=true:=AA
def aqI :BD 363=true:=AA
def zero22 :(Au.info? 22).bind (·.zero)=some (.slice none 0 0):=AA
def arL :BD 312=true:=AA
def anU :EH Au 103 2 2:=EP AA
def amI :Ee Au 101 false 1:=Gt AA
def aG1 :Au.underlying 101=some (.map 3 40):=AA
def aAM :(Au.info? 40).bind (·.zero)=some (.int .i64 0):=AA
def asU :BD 24=true:=AA
def akg :EH Au 103 1 1:=EP AA
def aea :Ee Au 100 false 1:=Gt AA
def qH :Au.underlying 100=some (.map 3 52):=AA
def Y5 :Gu Au 129 52 1 24:=LX AA
def atj :BD 91=true:=AA
def atX :BD 219=true:=AA
def agq :EH Au 103 0 0:=EP AA
def ar9 :BD 42=true:=AA
def as3 :BD 127=true:=AA
def aY7 :(Au.info? 103).bind (·.zero)=some (a0Y):=AA
def aQM :Jj Au 103 [(0,1),(1,1),(2,1)] (a0Y):=NG AA aY7 AA
def aqC :BD 128=true:=AA
def aoA :BD 129=true:=AA
def ajC :Ee Au 97 false 1:=Gt AA
def arQ :BD 156=true:=AA
def aqi :BD 155=true:=AA
def asN :BD 65=true:=AA
def aq1 :BD 90=true:=AA
def asB :BD 43=true:=AA
def aQI :(Au.info? 91).bind (·.zero)=some (a2K):=AA
def aco :Jj Au 91 [(0,1),(1,1),(2,1)] (a2K):=NG AA aQI AA
def aei :Ee Au 91 true 3:=Gt AA
def ami :EH Au 91 2 2:=EP AA
def adX :EH Au 91 0 0:=EP AA
def anX :EH Au 91 1 1:=EP AA
def ajM :Jj Au 30 [(0,1),(1,1),(2,1),(3,1),(4,1),(5,1),(6,1),(7,9)] (aAW):=NG AA zero30 AA
def atP :BD 31=true:=AA
def aji :EH Au 32 0 0:=EP AA
def aZv :EH Au 32 2 2:=EP AA
def amk :EH Au 32 3 3:=EP AA
def arG :BD 47=true:=AA
def ajO :Au.underlying 212=some (.int .u32):=AA
def aq2 :BD 163=true:=AA
def arH :BD 89=true:=AA
def ai5 :BD 167=true:=AA
def ar2 :BD 97=true:=AA
def arE :BD 99=true:=AA
def aor :BD 34=true:=AA
def arR :BD 100=true:=AA
def apq :BD 45=true:=AA
def aoo :BD 36=true:=AA
def asC :BD 12=true:=AA
def aoF :BD 305=true:=AA
def aq9 :BD 118=true:=AA
def arp :BD 203=true:=AA
def atC :BD 204=true:=AA
def aoU :BD 117=true:=AA
def apH :BD 256=true:=AA
def apO :BD 106=true:=AA
def arh :BD 255=true:=AA
def aoQ :BD 257=true:=AA
def asD :BD 258=true:=AA
def asH :BD 381=true:=AA
def asK :BD 120=true:=AA
def arA :BD 330=true:=AA
def asF :BD 331=true:=AA
def aqQ :BD 119=true:=AA
def arT :BD 332=true:=AA
def atD :BD 335=true:=AA
def asL :BD 259=true:=AA
def apT :BD 333=true:=AA
def aov :BD 334=true:=AA
def aqu :BD 260=true:=AA
def apR :BD 261=true:=AA
def asw :BD 55=true:=AA
def aoD :BD 262=true:=AA
def asj :BD 263=true:=AA
def apA :BD 264=true:=AA
def aqo :BD 265=true:=AA
def arB :BD 266=true:=AA
def atQ :BD 267=true:=AA
def aoz :BD 268=true:=AA
def atU :BD 159=true:=AA
def at6 :BD 160=true:=AA
def apn :BD 361=true:=AA
def Y7 :BD 299=true:=AA
def aNN :BD 298=true:=AA
def aZI :BD 300=true:=AA
def aOa :BD 301=true:=AA
def aqR :BD 302=true:=AA
def aoB :BD 297=true:=AA
def asV :BD 296=true:=AA
def aq8 :BD 200=true:=AA
def asr :BD 199=true:=AA
def asq :BD 115=true:=AA
def apo :BD 303=true:=AA
def ao7 :BD 304=true:=AA
def aom :BD 201=true:=AA
def arN :BD 202=true:=AA
def apU :BD 93=true:=AA
def aos :BD 162=true:=AA
def asz :BD 116=true:=AA
def arK :BD 53=true:=AA
def aqh :BD 280=true:=AA
def asO :BD 385=true:=AA
def ath :BD 161=true:=AA
def apM :BD 346=true:=AA
def asa :BD 345=true:=AA
def ao6 :BD 95=true:=AA
def atb :BD 281=true:=AA
def aoO :BD 282=true:=AA
def aoX :BD 184=true:=AA
def aoI :BD 185=true:=AA
def arq :BD 356=true:=AA
def aiV :BD 357=true:=AA
def aJO :(Au.info? 200).bind (·.zero)=some (aBG):=AA
def oL :Au.underlying 139=some (.slice 200):=AA
def Us :Ee Au 200 true 4:=Gt AA
def abv :EH Au 200 0 0:=EP AA
def aad :Jj Au 200 [(0,1),(1,1),(2,1),(3,1)] (aBG):=NG AA aJO AA
def apj :BD 352=true:=AA
def aJo :BD 284=true:=AA
def ari :BD 386=true:=AA
def ar4 :BD 187=true:=AA
def asE :BD 344=true:=AA
def apI :BD 355=true:=AA
def aeC :BD 406=true:=AA
def aVU :BD 387=true:=AA
def arZ :BD 407=true:=AA
def asi :BD 405=true:=AA
def aex :BD 391=true:=AA
def aot :BD 404=true:=AA
def apZ :BD 347=true:=AA
def aoN :BD 388=true:=AA
def apC :BD 389=true:=AA
def aqL :BD 390=true:=AA
def dX :Gu Au 51 116 3 32:=LX AA
def aqO :BD 283=true:=AA
def arV :BD 186=true:=AA
def aoW :BD 397=true:=AA
def aqH :BD 94=true:=AA
def arI :BD 359=true:=AA
def aq3 :BD 192=true:=AA
def apE :BD 193=true:=AA
def aqx :BD 408=true:=AA
def aqp :BD 392=true:=AA
def aoY :BD 393=true:=AA
def aft :BD 409=true:=AA
def atL :BD 109=true:=AA
def apL :BD 285=true:=AA
def apF :BD 286=true:=AA
def aoh :BD 287=true:=AA
def aqk :BD 288=true:=AA
def asx :BD 111=true:=AA
def aoi :BD 188=true:=AA
def ar0 :BD 189=true:=AA
def aoR :BD 190=true:=AA
def ars :BD 191=true:=AA
def ap9 :BD 290=true:=AA
def apc :BD 289=true:=AA
def aqN :BD 194=true:=AA
def aqS :BD 291=true:=AA
def aod :BD 195=true:=AA
def aoq :BD 110=true:=AA
def arj :BD 112=true:=AA
def ao4 :BD 360=true:=AA
def aoJ :BD 394=true:=AA
def ark :BD 49=true:=AA
def atZ :BD 295=true:=AA
def ard :BD 395=true:=AA
def aoL :BD 353=true:=AA
def arz :BD 412=true:=AA
def asc :BD 410=true:=AA
def atg :BD 396=true:=AA
def adO :(Au.info? 275).bind (·.zero)=some (aWP):=AA
def aic :EH Au 275 0 0:=EP AA
def atS :BD 348=true:=AA
def ar7 :BD 349=true:=AA
def aok :BD 350=true:=AA
def ab1 :EH Au 275 1 1:=EP AA
def aox :BD 351=true:=AA
def ahB :EH Au 275 2 2:=EP AA
def ap0 :BD 354=true:=AA
def ako :EH Au 275 3 3:=EP AA
def aez :EH Au 275 4 4:=EP AA
def aXz :Ee Au 275 true 5:=Gt AA
def aob :BD 292=true:=AA
def aiz :nS Au 275 4 4 false 1=true:=AA
def aRD :BD 398=true:=AA
def apN :BD 358=true:=AA
def aqc :BD 196=true:=AA
def ahe :EH Au 200 3 3:=EP AA
def abj :Ee Au 40 false 1:=Gt AA
def atH :BD 50=true:=AA
def asX :BD 293=true:=AA
def amN :EH Au 200 2 2:=EP AA
def aqA :BD 197=true:=AA
def aaF :EH Au 200 1 1:=EP AA
def asQ :BD 294=true:=AA
def aQc :Gu Au 139 200 4 64:=LX AA
def aro :BD 105=true:=AA
def aoc :BD 198=true:=AA
def aou :BD 279=true:=AA
def aqK :BD 278=true:=AA
def ash :BD 114=true:=AA
def arl :BD 183=true:=AA
def aqD :BD 113=true:=AA
def aqs :BD 104=true:=AA
def asJ :BD 107=true:=AA
def aoC :BD 51=true:=AA
def apV :BD 108=true:=AA
def arC :BD 48=true:=AA
def ap3 :BD 52=true:=AA
def arw :BD 54=true:=AA
def alA :Ee Au 32 true 20:=Gt AA
def asl :BD 11=true:=AA
def ank :EH Au 32 1 1:=EP AA
def aeE :EH Au 32 4 19:=EP AA
def afL :BD 13=true:=AA
def atE :BD 14=true:=AA
def aUM :(Au.info? 131).bind (·.zero)=some (aDg):=AA
def aZV :Yf Au 131 29 (aDg):=a04 AA aUM AA
def afA :Ee Au 131 true 116:=Gt AA
def anH :Au.underlying 131=some (.array 4 39):=AA
def atJ :BD 37=true:=AA
def agV :Gu Au 132 23 1 8:=LX AA
def aTI :(Au.info? 23).bind (·.zero)=some (.int .i64 0):=AA
def ahY :Gu Au 133 30 16 208:=LX AA
def aUD :Au.underlying 132=some (.slice 23):=AA
def ali :Au.underlying 133=some (.slice 30):=AA
def as5 :BD 96=true:=AA
def amj :EH Au 73 0 0:=EP AA
def ajK :EH Au 73 1 1:=EP AA
def amq :EH Au 73 2 2:=EP AA
def agT :EH Au 73 3 3:=EP AA
def amK :EH Au 73 4 4:=EP AA
def ati :BD 38=true:=AA
def aqt :BD 39=true:=AA
def apQ :BD 40=true:=AA
instance ao9 :Kn Au where
 und:=[(9,.string),(3,.int .i64),(214,.int .u64),(5,.int .u8),(4,.bool),(23,.int .i64),(148,.int .u64),(212,.int .u32)]
 amv:=⟨H6,YH,akK,aB6,aZD,aXm,aZ3,ajO,trivial⟩
 ty:=[(30,true,16),(35,false,1),(24,false,1),(25,false,1),(26,false,1),(9,false,1),(108,true,2),(39,true,29),(3,false,1),(4,false,1),(28,true,9),(111,true,2),(23,false,1),(5,false,1),(159,false,1),(37,true,2),(191,true,2),(137,false,1),(172,false,1),(218,true,2),(116,true,3),(52,false,1),(129,false,1),(22,false,1),(235,true,5),(239,true,7),(185,true,2),(356,true,4),(360,true,3),(176,true,3),(101,false,1),(100,false,1),(97,false,1),(91,true,3),(200,true,4),(275,true,5),(40,false,1),(32,true,20),(131,true,116)]
 hty:=⟨TI,a0u,ac0,aQy,aTx,Jm,KO,Cj,Ci,aTK,ZV,Jv,Yw,aMS,agk,afk,aR8,afm,ag0,Ty,FW,Rx,aj1,aYi,ai7,aT8,mZ,fK,jv,aOZ,amI,aea,ajC,aei,Us,aXz,abj,alA,afA,trivial⟩
 fld:=[((39,10),10),((39,8),8),((39,9),9),((30,5),5),((30,6),6),((30,7),7),((28,0),0),((28,1),1),((39,1),1),((39,2),2),((39,5),5),((30,0),0),((30,4),4),((39,12),27),((37,0),0),((108,0),0),((30,1),1),((30,2),2),((30,3),3),((108,1),1),((111,0),0),((111,1),1),((28,2),2),((28,3),3),((28,4),4),((28,5),5),((28,6),6),((28,7),7),((28,8),8),((39,3),3),((39,0),0),((225,0),0),((39,4),4),((39,6),6),((39,7),7),((39,11),26),((37,1),1),((191,0),0),((191,1),1),((218,0),0),((218,1),1),((116,0),0),((116,1),1),((116,2),2),((185,0),0),((185,1),1),((356,3),3),((356,0),0),((356,1),1),((356,2),2),((176,1),1),((253,0),0),((360,0),0),((176,0),0),((176,2),2),((103,2),2),((103,1),1),((103,0),0),((91,2),2),((91,0),0),((91,1),1),((32,0),0),((32,2),2),((32,3),3),((200,0),0),((275,0),0),((275,1),1),((275,2),2),((275,3),3),((275,4),4),((200,3),3),((200,2),2),((200,1),1),((32,1),1),((32,4),19),((73,0),0),((73,1),1),((73,2),2),((73,3),3),((73,4),4)]
 hfld:=⟨aZj,afy,aju,aja,afK,ac6,abR,agS,abl,aiA,agE,ahz,aaB,aeZ,agO,aib,ajZ,alz,anR,aaI,alC,ane,ahi,ahw,aao,afr,anf,agj,akr,ahZ,ak1,ajy,ae1,aaC,adf,ajB,anP,aZ2,alF,adk,ad9,amw,aZX,amE,ai8,adR,amm,adN,aht,aje,ab3,adW,aeS,ad4,agN,anU,akg,agq,ami,adX,anX,aji,aZv,amk,abv,aic,ab1,ahB,ako,aez,ahe,amN,aaF,ank,aeE,amj,ajK,amq,agT,amK,trivial⟩
 part:=[((176,0),0,false,1),((275,4),4,false,1)]
 hpart:=⟨anr,aiz,trivial⟩
 zero:=[(30,aAW),(5,.int .u8 0),(28,aBw),(108,aDQ),(111,aXx),(239,a2R),(39,a1w),(225,aBZ),(3,.int .i64 0),(9,.string CU),(4,.bool false),(35,.slice none 0 0),(37,a1H),(191,aBe),(172,.map none),(218,aDy),(116,aBD),(52,.slice none 0 0),(165,a2x),(235,aCI),(241,a2s),(242,aEV),(331,a2N),(176,aU1),(248,aD1),(185,aA8),(356,aBu),(253,aA4),(360,a2P),(22,.slice none 0 0),(40,.int .i64 0),(103,a0Y),(91,a2K),(200,aBG),(275,aWP),(131,aDg),(23,.int .i64 0)]
 hzero:=⟨⟨zero30,AA⟩,⟨RD,AA⟩,⟨aRy,AA⟩,⟨Fr5,AA⟩,⟨aUR,AA⟩,⟨aYX,AA⟩,⟨JI,AA⟩,⟨aPE,AA⟩,⟨zero3,AA⟩,⟨zero9,AA⟩,⟨rF,AA⟩,⟨yw,AA⟩,⟨aRp,AA⟩,⟨aMI,AA⟩,⟨ahb,AA⟩,⟨aAC,AA⟩,⟨QV,AA⟩,⟨VO,AA⟩,⟨aQu,AA⟩,⟨aWd,AA⟩,⟨aQx,AA⟩,⟨aVQ,AA⟩,⟨aPc,AA⟩,⟨ad3,AA⟩,⟨aWL,AA⟩,⟨aH0,AA⟩,⟨aNl,AA⟩,⟨aVv,AA⟩,⟨aMu,AA⟩,⟨zero22,AA⟩,⟨aAM,AA⟩,⟨aY7,AA⟩,⟨aQI,AA⟩,⟨aJO,AA⟩,⟨adO,AA⟩,⟨aUM,AA⟩,⟨aTI,AA⟩,trivial⟩
 st:=[(225,[(0,1)],aBZ),(37,[(0,1),(1,1)],a1H),(191,[(0,1),(1,1)],aBe),(218,[(0,1),(1,1)],aDy),(39,[(0,1),(1,1),(2,1),(3,1),(4,1),(5,1),(6,1),(7,1),(8,1),(9,1),(10,16),(26,1),(27,2)],a1w),(116,[(0,1),(1,1),(2,1)],aBD),(165,[(0,1)],a2x),(28,[(0,1),(1,1),(2,1),(3,1),(4,1),(5,1),(6,1),(7,1),(8,1)],aBw),(108,[(0,1),(1,1)],aDQ),(331,[],a2N),(248,[],aD1),(185,[(0,1),(1,1)],aA8),(356,[(0,1),(1,1),(2,1),(3,1)],aBu),(253,[(0,1)],aA4),(360,[(0,1),(1,1),(2,1)],a2P),(103,[(0,1),(1,1),(2,1)],a0Y),(91,[(0,1),(1,1),(2,1)],a2K),(30,[(0,1),(1,1),(2,1),(3,1),(4,1),(5,1),(6,1),(7,9)],aAW),(200,[(0,1),(1,1),(2,1),(3,1)],aBG)]
 hst:=⟨aYf,adL,aZm,agJ,aiT,akR,aiZ,acv,adU,ahl,abo,ahj,ang,abk,aaK,aQM,aco,ajM,aad,trivial⟩
 arr:=[(239,1,a2R),(235,1,aCI),(241,1,a2s),(242,1,aEV),(131,29,aDg)]
 harr:=⟨afe,aaq,anW,agb,aZV,trivial⟩
abbrev IY :=fun x=>Bf.arr 5 1 (List.map Dp x)
abbrev VH :=fun x=>Bf.arr 9 1 (List.map DW x)
abbrev Et :=fun x=>Bf.arr 39 29 (List.map Aq x)
abbrev Cc :=fun x=>Bf.arr 3 1 (List.map Ag x)
abbrev Vt :=fun x=>Bf.arr 218 2 (List.map Jy x)
abbrev L6 :=fun x=>Bf.arr 116 3 (List.map Bg x)
abbrev bg :=fun x=>Bf.arr 360 3 (List.map Ox x)
abbrev Mem :=fun x=>Bf.arr 35 1 (List.map (C9 Ag) x)
abbrev Qa :=fun x=>Bf.arr 200 4 (List.map LM x)
abbrev D7 :=fun x=>Ai.d (Aq x)
abbrev Aj :=fun x=>Ai.d (Ea x)
abbrev AY :=fun x=>Ai.d (Ag x)
abbrev BL :=fun x=>Ai.d ((C9 Aq) x)
abbrev IG :=fun x=>Ai.d ((C9 Dp) x)
abbrev CY :=fun x=>Ai.d (DW x)
abbrev I5 :=fun x=>Ai.d ((C9 DW) x)
abbrev H9 :=fun x=>Ai.d (Fa x)
abbrev OZ :=fun x=>Ai.d ((C9 Ez) x)
abbrev Ol :=fun x=>Ai.d ((C9 Ey) x)
abbrev IV :=fun x=>Ai.d (FD x)
abbrev Bv :=fun x=>Ai.d ((C9 Ag) x)
abbrev DZ :=fun x=>Ai.d ((C9 Bg) x)
abbrev V9 :=fun x=>Ai.d (Bg x)
abbrev Iw :=fun x=>Ai.d ((C9 (C9 Bg)) x)
abbrev WL :=fun x=>Ai.d ((C9 LV) x)
abbrev Ug :=fun x=>Ai.d ((C9 Lh) x)
abbrev WZ :=fun x=>Ai.d ((C9 LM) x)
abbrev Xf :=fun x=>Ai.d (LM x)
end
section
open Go.RowKit Go.Sort
abbrev bC :Type:={ p:AX×A8 Aw//p.2.length=29/\(∀v∈p.2,v.oneCell'=true)/\p.2[0]? =some (.int .i64 p.1.Id)/\p.2[7]? =some (.int .i64 p.1.Depth) }
instance : Inhabited bC:=⟨⟨(Ch,List.replicate 29 (.int .i64 0)),rfl,fun v hv=>by rw[(List.mem_replicate.1 hv).2];rfl,rfl,rfl⟩⟩
def aTl {ok:Nat->Prop} {w:Bc} {H:A8 CP} {cs:A8 D} {vs:A8 Aw} {i:Nat} {n:Int} (h:Fg ok w H (cs.map .d) vs) (hi:cs[i]? =some (Ag n)):vs[i]? =some (.int .i64 n):=by
 have hl:i<cs.length:=(Fv.1 hi).1;have j:i<vs.length:=by rw[h.1,DY];exact hl
 have q:=(h.2 i (by rw[DY];exact hl)).2;simp only[List.getD,Ji,hi,Ij,ML,EK j]at q;rw[EK j];cases q with |d _ _ h=>rw[EU.aes h]
def ajH {ok:Nat->Prop} {w:Bc} {H:A8 CP} {p:AX×A8 Aw} (h:Fg ok w H ((Aq p.1).cells.map .d) p.2):p.2.length=29/\(∀v∈p.2,v.oneCell'=true)/\p.2[0]? =some (.int .i64 p.1.Id)/\p.2[7]? =some (.int .i64 p.1.Depth):=
 ⟨h.1,aJv h,aTl h rfl,aTl h rfl⟩
def aW4 {ok:Nat->Prop} {w:Bc} {H:A8 CP}:∀(z:A8 (AX×A8 Aw)),(∀p∈z,Fg ok w H ((Aq p.1).cells.map .d) p.2)->∃y:A8 bC,y.map (·.1)=z
 | [],_=>⟨[],rfl⟩
 |p::z,h=>by
  obtain⟨y,j⟩:=aW4 z fun q u=>h q (Gv _ u);exact⟨⟨p,ajH (h p (GU ..))⟩::y,BP (p:: ·) j⟩
def PL (x:bC):A8 Aw:=x.1.2
def aCO (x:bC):(PL x).length=29:=x.2.1
def aYm (x:bC):∀v∈PL x,v.oneCell'=true:=x.2.2.1
def FN (x:AX):Int×Int:=(x.Depth,x.Id)
def ZW (p q:Int×Int):Int:=if p.1=q.1 then Jp p.2 q.2 else Jp p.1 q.1
def anT (p q:Int×Int):ZW p q<0↔p.1<q.1\/p.1=q.1/\p.2<q.2:=by
 unfold ZW;split
 ·rw[xQ];omega
 rw[xQ];omega
def Ib (p q:Int×Int):Ad:= !decide (ZW q p<0)
def jT (p q:Int×Int):Ib p q=true↔¬(q.1<p.1\/q.1=p.1/\q.2<p.2):=by
 unfold Ib;rw[Ls,PX,anT]
def aXv (p q:Int×Int):Ib p q=false↔(q.1<p.1\/q.1=p.1/\q.2<p.2):=by
 rw[←PO,jT,Decidable.not_not]
def aJS (x y z:Int×Int) (h:Ib x y=true) (k:Ib y z=true):Ib x z=true:=by
 rw[jT]at *;omega
def aPL (x y:Int×Int) (h:Ib x y=false):Ib y x=true:=by
 rw[aXv]at h;rw[jT];omega
def agR (x y:Int×Int) (h:Ib x y=true) (k:Ib y x=true):x=y:=by
 rw[jT]at *;obtain⟨j,q⟩:=x;obtain⟨u,z⟩:=y;simp only[NT]at *;omega
def lt2_trans (x y z:Int×Int) (h:Ib y x=false) (k:Ib z y=false):Ib z x=false:=by
 rw[aXv]at *;omega
section
variable {α:Type}
def a2e (f:α->Int×Int) (x y:α):ltOf (fun x y=>ZW (f x) (f y)) x y= !Ib (f y) (f x):=by simp[ltOf,Ib]
def aj3 (f:α->Int×Int):SWO (ltOf fun x y:α=>ZW (f x) (f y)):=by
 refine⟨fun x=>?_,fun x y z h k=>?_,fun x y z h k=>?_⟩
 ·rw[a2e,(jT (f x) (f x)).2 AB];rfl
 ·rw[a2e,Ls]at *;exact lt2_trans _ _ _ h k
 rw[a2e,Bool.not_eq_false']at *;exact aJS _ _ _ k h
end
def bW :A8 (Int×Int)->Ad
 | []=>true
 |x::l=> !l.contains x&&bW l
def aVX :∀(l:A8 AX),bW (l.map FN)=true->∀x∈l,∀y∈l,FN x=FN y->x=y
 | [],_,x,j,_,_,_=>absurd j FB
 |e::l,h,x,j,y,M,q=>by
  rw[JJ]at h;unfold bW at h;rw[Df,Ls]at h
  have u:FN e∉l.map FN:=fun hm=>by
   have :(l.map FN).contains (FN e)=true:=by simpa using hm
   rw[this]at h;cases h.1
  rcases F5.1 j with z|I<;>rcases F5.1 M with J|L
  ·rw[z,J]
  ·exact absurd (FY.2 ⟨y,L,by rw[←q,z]⟩) u
  ·exact absurd (FY.2 ⟨x,I,by rw[q,J]⟩) u
  exact aVX l h.2 x I y L q
abbrev Ah:=A8 AX
def gI (l:A8 AX):AO Ah:=if l.length<=34359738368/\bW (l.map FN)=true then some (Me (fun x y=>Ib (FN x) (FN y)) l)else none
def ajw {l m:A8 AX} (hd:bW (l.map FN)=true) (hp:m.Perm l) (hs:m.Pairwise (fun a b=>Ib (FN a) (FN b)=true)):m=Me (fun x y=>Ib (FN x) (FN y)) l:=
 (hp.trans (Ux _ l).symm).eq_of_pairwise (fun a b ha j q u=>aVX l hd a (hp.mem_iff.1 ha) b ((Ux _ l).mem_iff.1 j) (agR _ _ q u)) hs (aA5 (le:=fun x y=>Ib (FN x) (FN y)) (fun x y z=>aJS (FN x) (FN y) (FN z)) (fun x y=>aPL (FN x) (FN y)) l)
def aTZ {cs:A8 Aw} {i d:Int} (h:cs.length=29) (h0:cs[0]? =some (.int .i64 i)) (h7:cs[7]? =some (.int .i64 d)):∃a1 a2 a3 a4 a5 a6 a8 a9 j q u z I J L M O U Y Z a22 a23 a24 a25 a26 a27 a28:Aw,cs=[.int .i64 i,a1,a2,a3,a4,a5,a6,.int .i64 d,a8,a9,j,q,u,z,I,J,L,M,O,U,Y,Z,a22,a23,a24,a25,a26,a27,a28]:=by
 match cs,h,h0,h7 with
 | [a0,a1,a2,a3,a4,a5,a6,a7,a8,a9,j,q,u,z,I,J,L,M,O,U,Y,Z,a22,a23,a24,a25,a26,a27,a28],_,h0,h7=>
   have e0:a0=.int .i64 i:=a2T
   have e7:a7=.int .i64 d:=Dh h7;exact⟨a1,a2,a3,a4,a5,a6,a8,a9,j,q,u,z,I,J,L,M,O,U,Y,Z,a22,a23,a24,a25,a26,a27,a28,by rw[e0,e7]⟩
def am6 {P:Cm} {g:FuncId} (hc:∀(r ai ad bi bd:Int) (_:r=if ad=bd then Jp ai bi else Jp ad bd) (a1 a2 a3 a4 a5 a6 a8 a9 j u z I J L M O U Y Z a21 a22 a23 a24 a25 a26 a27 a28 b1 b2 b3 b4 b5 b6 b8 b9 b10 b11 b12 b13 b14 b15 b16 b17 b18 b19 b20 b21 b22 b23 b24 b25 b26 b27 b28:Aw) (W:Bc),Calls P g #[.agg #[.int .i64 ai,a1,a2,a3,a4,a5,a6,.int .i64 ad,a8,a9,j,u,z,I,J,L,M,O,U,Y,Z,a21,a22,a23,a24,a25,a26,a27,a28],.agg #[.int .i64 bi,b1,b2,b3,b4,b5,b6,.int .i64 bd,b8,b9,b10,b11,b12,b13,b14,b15,b16,b17,b18,b19,b20,b21,b22,b23,b24,b25,b26,b27,b28]] W fun e w'=>e=.returned (.int .i64 r)/\∃q os',w'=grow (W.drewN q) os')
 (blk off size:Nat) (w:Bc):CmpLays P g #[] PL 29 (fun x y=>ZW (FN x.1.1) (FN y.1.1)) blk off size w:=fun m os dk _ x y=>by
 obtain⟨⟨x1,xs⟩,x2,x3,x4,x5⟩:=x;obtain⟨⟨y1,ys⟩,y2,y3,y4,y5⟩:=y;obtain⟨a1,a2,a3,a4,a5,a6,a8,a9,j,u,z,I,J,L,M,O,U,Y,Z,a21,a22,a23,a24,a25,a26,a27,a28,ex⟩:=aTZ (cs:=xs) (i:=x1.Id) (d:=x1.Depth) x2 x4 x5;subst ex;obtain⟨b1,b2,b3,b4,b5,b6,b8,b9,b10,b11,b12,b13,b14,b15,b16,b17,b18,b19,b20,b21,b22,b23,b24,b25,b26,b27,b28,ey⟩:=aTZ (cs:=ys) (i:=y1.Id) (d:=y1.Depth) y2 y4 y5;subst ey;exact hc _ x1.Id x1.Depth y1.Id y1.Depth rfl a1 a2 a3 a4 a5 a6 a8 a9 j u z I J L M O U Y Z a21 a22 a23 a24 a25 a26 a27 a28 b1 b2 b3 b4 b5 b6 b8 b9 b10 b11 b12 b13 b14 b15 b16 b17 b18 b19 b20 b21 b22 b23 b24 b25 b26 b27 b28 _
open Go.Shelf in
set_option maxHeartbeats 2000000 in
def av9 {P:Cm} {ρ:Ren} {g:FuncId} {T:CO} (aGl:SlLaysF0.n6 P ρ) (hagg:∀w,(isAgg (ρ.t 24)).run P w=.ok true w) (hsize:∀w,(Go.sizeOf (ρ.t 24)).run P w=.ok 29 w) (eg:∀args w,(callFunc g args).run P w=.ok (.enter g args) w)
 (hcmp:∀blk off size w,CmpLays P g #[] PL 29 (fun x y=>ZW (FN x.1.1) (FN y.1.1)) blk off size w) (l r:A8 AX) (h:gI l=some r):
 El P (ρ.f 6) [.aO 0,.d (.fn (.func g) [] [])] [.arr T 29 (l.map Aq)] (.eX []) [.arr T 29 (r.map Aq)]:=by
 unfold gI at h;split at h
 ·rename_i hnd;obtain⟨hn,hd⟩:=hnd;obtain rfl:=Dh h;refine El.aCf (k:=29) (e:=Aq) (fun x=>rfl) fun ok H v w z z1 z3 Z=>?_;obtain⟨y,hy⟩:=aW4 z z3;have M:y.length=l.length:=by rw[←z1,←hy];simp
  have L:z.flatMap (·.2)=y.flatMap PL:=by rw[←hy,aMc];rfl
  rw[L]at Z;have hlr:(Me (fun x y=>Ib (FN x) (FN y)) l).length=l.length:=(Ux _ l).length_eq;rcases Z.2 with⟨rfl,h0⟩|⟨b,cap,cur,rfl,hbase,hg,hnc,hcm,hcs,O⟩
  ·have hl:l=[]:=Hw h0;subst hl;refine(AnyF.slices_SortFunc_none aGl none 0 _ w).mono ?_;rintro e w' ⟨rfl,h⟩;subst h;exact⟨rfl,[],fun p hp=>absurd hp FB,rfl,lG.nil _ _ _,Turns.refl _ _⟩
  have hgs:b<w.heap.size:=(Gl.1 hg).1;have I:=aAT (enc:=PL) aCO y
  have hH:HoldsK PL 29 w b 0 y.toArray:=by
   unfold HoldsK;have U:(flatK PL 29 y.toArray).size=l.length*29:=by simp[M]
   generalize flatK PL 29 y.toArray=F at I U;intro j Y;refine⟨?_,by simp[World.frozen?,hg]⟩;have e0:(cur.toList.take (l.length*29))[j]? =(y.flatMap PL)[j]? :=by rw[O]
   rw[MX AB,←I]at e0;simp only[World.cell?,hg,J3];simp only[Option.isSome_none,RU,KT];rw[←XZ,e0,XZ,ZG F j Y,bQ Y];rfl
  have :=AnyQ.slices_SortFunc aGl 29 hagg hsize PL aCO aYm (fun x y=>ZW (FN x.1.1) (FN y.1.1)) (aj3 fun x:bC=>FN x.1.1) g #[] b 0 cap y.toArray w eg (hcmp _ _ _ _) hH hgs EN;have hys:y.toArray.size=l.length:=by simp[M]
  rw[hys]at this;refine this.mono ?_;rintro e' w' ⟨rfl,u,n,os,hp,hs,rfl⟩;obtain⟨hsz,_,J⟩:=hp;have q:u.size=l.length:=by simpa[M]using hsz
  have e1:u.extract 0 l.length=u:=by rw[←q];exact aBB
  have e2:y.toArray.extract 0 l.length=y.toArray:=by rw[←hys];exact aBB
  rw[e1,e2]at J;have hpl:u.toList.Perm y:=TL
  have hm:u.toList.map (fun x=>x.1.1)=Me (fun x y=>Ib (FN x) (FN y)) l:=by
   have aIb:y.map (fun x=>x.1.1)=l:=by rw[←z1,←hy,YI];rfl
   refine ajw hd ((hpl.map _).trans (by rw[aIb])) ?_;rw[eA];refine KN.2 fun i j hi Y hij=>?_;have :=hs i j (Du _) hij (by simpa[q]using Y);rw[a2e (fun x:bC=>FN x.1.1),ZG u i Gp,ZG u j WJ]at this;simpa using this
  refine⟨rfl,u.toList.map (·.1),fun p hp=>?_,by rw[YI];exact hm,?_⟩
  ·obtain⟨x,hx,rfl⟩:=FY.1 hp;rw[←hy];exact FY.2 ⟨x,hpl.mem_iff.1 hx,rfl⟩
  have hfd:(u.toList.map (·.1)).flatMap (·.2)=u.toList.flatMap PL:=by rw[aMc];rfl
  rw[hfd,hlr];have hF:=aAT (enc:=PL) aCO u.toList;rw[ah]at hF;have U:(flatK PL 29 u).size=l.length*29:=Zg
  generalize hFF:flatK PL 29 u=F at hF U;refine⟨⟨by rw[wF aCO];simp[q],.inr ⟨b,cap,putCells id 0 F cur,rfl,Du _,?_,AB,hcm,by simpa[putCells]using hcs,?_⟩⟩,⟨rfl,rfl,rfl,by simp[sortWorldK,putRowK],fun c hc hne=>?_⟩⟩
  ·unfold sortWorldK putRowK;rw[hFF,heap_grow_old _ _ (by simpa using hgs)];simp[putRow,mapBlock,Sort.ahead,OH,hg,onCells]
  ·rw[←hF];apply bV;intro j;by_cases Y:j<l.length*29
   ·have hjc:j<cur.size:=by have :=Jz 29 hnc;omega
    rw[MX Y,XZ,XZ];have hjF:j<F.size:=AB
    simp[putCells,hjF,hjc]
   rw[aWK AB,J5 EN]
  unfold sortWorldK putRowK;rw[heap_grow_old _ _ aAs];have :b≠c:=fun e=>hne jd;simp[putRow,mapBlock,Sort.ahead,OH,this]
 cases h
end
end Go.Proofs.YtkkdimcnpacjhaaGreat
section
namespace Go.Proofs
open Go.Proofs.YtkkdimcnpacjhaaGreat
open Go.Shelf
def Tryz.ahm:Go.Shelf.Ren:=⟨fun |6=>163|15=>124|14=>269|28=>215|29=>216|20=>336|21=>337|22=>338|23=>339|24=>340|25=>341|26=>342|27=>343|46=>382|47=>307|48=>308|49=>383|50=>384|57=>403|n=>n,fun |22=>22|24=>39|25=>182|3=>3|39=>148|0=>0|53=>212|55=>214|4=>4|46=>206|45=>205|50=>47|5=>5|9=>9|66=>279|70=>283|76=>305|77=>306|n=>n,fun |n=>n⟩
def Tryz.aAV:SlLaysF0.n6 Au Tryz.ahm:={
 mixed:=AA
 f6:=⟨Tryz.f163.name,Bo,Tryz.func163.trans (BP some AA)⟩
 f14:=⟨Tryz.f269.name,Bo,Tryz.func269.trans (BP some AA)⟩
 f15:=Tryz.func124.trans (BP some AA)
 f20:=⟨Tryz.f336.name,Bo,Tryz.func336.trans (BP some AA)⟩
 f21:=⟨Tryz.f337.name,Bo,Tryz.func337.trans (BP some AA)⟩
 f22:=⟨Tryz.f338.name,Bo,Tryz.func338.trans (BP some AA)⟩
 f23:=⟨Tryz.f339.name,Bo,Tryz.func339.trans (BP some AA)⟩
 f24:=⟨Tryz.f340.name,Bo,Tryz.func340.trans (BP some AA)⟩
 f25:=⟨Tryz.f341.name,Bo,Tryz.func341.trans (BP some AA)⟩
 f26:=⟨Tryz.f342.name,Bo,Tryz.func342.trans (BP some AA)⟩
 f27:=⟨Tryz.f343.name,Bo,Tryz.func343.trans (BP some AA)⟩
 f28:=Tryz.func215.trans (BP some AA)
 f29:=Tryz.func216.trans (BP some AA)
 f46:=⟨Tryz.f382.name,Bo,Tryz.func382.trans (BP some AA)⟩
 f47:=Tryz.func307.trans (BP some AA)
 f48:=Tryz.func308.trans (BP some AA)
 f49:=⟨Tryz.f383.name,Bo,Tryz.func383.trans (BP some AA)⟩
 f50:=⟨Tryz.f384.name,Bo,Tryz.func384.trans (BP some AA)⟩
 f57:=⟨Tryz.f403.name,Bo,Tryz.func403.trans (BP some AA)⟩
 t0:=aCA
 a0:=Tryz.isAgg0
 z0:=Tryz.sizeOf0
 v0:=a2I
 t3:=Ws
 a3:=kF
 z3:=iY
 v3:=jl
 t4:=kX
 a4:=uK
 z4:=a07
 v4:=zu
 t5:=zT
 a5:=a0J
 z5:=pG
 v5:=qX
 t9:=er
 a9:=qO
 z9:=qm
 v9:=zn
 t22:=a0m
 a22:=Tryz.isAgg22
 z22:=Tryz.sizeOf22
 v22:=Tryz.zeroValue22
 t25:=Tryz.underlying182
 a25:=Tryz.isAgg182
 z25:=Tryz.sizeOf182
 v25:=Tryz.zeroValue182
 t39:=a0q
 a39:=Tryz.isAgg148
 z39:=aAm
 v39:=aBx
 t45:=Tryz.underlying205
 a45:=Tryz.isAgg205
 z45:=Tryz.sizeOf205
 v45:=Tryz.zeroValue205
 t46:=Tryz.underlying206
 a46:=Tryz.isAgg206
 z46:=Tryz.sizeOf206
 v46:=Tryz.zeroValue206
 t50:=Tryz.underlying47
 a50:=Tryz.isAgg47
 z50:=Tryz.sizeOf47
 v50:=Tryz.zeroValue47
 t53:=aBa
 a53:=Tryz.isAgg212
 z53:=aEF
 v53:=a2a
 t55:=Tryz.underlying214
 a55:=Tryz.isAgg214
 z55:=Tryz.sizeOf214
 v55:=Tryz.zeroValue214
 t66:=Tryz.underlying279
 a66:=Tryz.isAgg279
 z66:=Tryz.sizeOf279
 v66:=Tryz.zeroValue279
 t70:=Tryz.underlying283
 a70:=Tryz.isAgg283
 z70:=Tryz.sizeOf283
 v70:=Tryz.zeroValue283
 t76:=Tryz.underlying305
 a76:=Tryz.isAgg305
 z76:=Tryz.sizeOf305
 v76:=Tryz.zeroValue305
 t77:=Tryz.underlying306
 a77:=Tryz.isAgg306
 z77:=Tryz.sizeOf306
 v77:=Tryz.zeroValue306 }
end Go.Proofs
end
namespace Go.Proofs.YtkkdimcnpacjhaaGreat
open Go.Proofs.Tryz
section
open Go.RowKit Go.Sort
def aeg (a:Int) (W:Bc):Calls Au 270 #[.int .i64 a] W fun e w'=>e=.returned (.bool false)/\w'=W:=by
 go_enter func270,Tryz.ntmps270
 go_wp2
 all_goals (go_ret;exact⟨Bj,rfl⟩)
def abf (a b:Int) (W:Bc):Calls Au 166 #[.int .i64 a,.int .i64 b] W fun e w'=>e=.returned (.int .i64 (Jp a b))/\w'=W:=by
 unfold Jp
 go_enter func166,Tryz.ntmps166
 go_wp2_with (go_at_call 270;refine(aeg _ _).mono ?_;rintro e w' ⟨rfl,rfl⟩)
 all_goals (go_ret;exact⟨rfl,rfl⟩)
def aYu (r x y:Int) (j:r=if x=0 then y else x) (b c:Nat) (W:Bc) (J:W.cell? ⟨b,0,none⟩=some (.int .i64 x)) (L:W.cell? ⟨b,1,none⟩=some (.int .i64 y)):Calls Au 165 #[.slice (some ⟨b,0,none⟩) 2 c] W fun e w'=>e=.returned (.int .i64 r)/\w'=W:=by
 have q:x≠0->x=r:=fun h=>by rw[j,Dk h]
 have u:x=0->y=r:=fun h=>by rw[j,DX h]
 clear j
 go_enter func165,Tryz.ntmps165
 go_wp2
 refine wp_loop_rounds 3 ?_;rw[rounds_succ]
 go_wp2
 ·rename_i h
  go_ret
  exact⟨by rw[q KC];rfl,rfl⟩
 rename_i h;have M:=u KC;rw[rounds_succ]
 go_wp2
 ·go_ret
  exact⟨rfl,rfl⟩
 rename_i z;rw[rounds_succ]
 go_wp2
 go_ret
 have I:r=0:=MW
 subst I;exact⟨rfl,rfl⟩
set_option maxRecDepth 100000 in
set_option maxHeartbeats 1000000 in
def aa8 (r ai ad bi bd:Int) (hr:r=if ad=bd then Jp ai bi else Jp ad bd) (a1 a2 a3 a4 a5 a6 a8 a9 a10 a11 a12 a13 a14 a15 a16 a17 a18 a19 a20 a21 a22 a23 a24 a25 a26 a27 a28 b1 b2 b3 b4 b5 b6 b8 b9 b10 b11 b12 b13 b14 b15 b16 b17 b18 b19 b20 b21 b22 b23 b24 b25 b26 b27 b28:Aw) (W:Bc):Calls Au 164 #[.agg #[.int .i64 ai,a1,a2,a3,a4,a5,a6,.int .i64 ad,a8,a9,a10,a11,a12,a13,a14,a15,a16,a17,a18,a19,a20,a21,a22,a23,a24,a25,a26,a27,a28],.agg #[.int .i64 bi,b1,b2,b3,b4,b5,b6,.int .i64 bd,b8,b9,b10,b11,b12,b13,b14,b15,b16,b17,b18,b19,b20,b21,b22,b23,b24,b25,b26,b27,b28]] W fun e w'=>e=.returned (.int .i64 r)/\∃q os',w'=grow (W.drewN q) os':=by
 generalize hA:(#[.int .i64 ai,a1,a2,a3,a4,a5,a6,.int .i64 ad,a8,a9,a10,a11,a12,a13,a14,a15,a16,a17,a18,a19,a20,a21,a22,a23,a24,a25,a26,a27,a28]:Bh Aw)=A;generalize hB:(#[.int .i64 bi,b1,b2,b3,b4,b5,b6,.int .i64 bd,b8,b9,b10,b11,b12,b13,b14,b15,b16,b17,b18,b19,b20,b21,b22,b23,b24,b25,b26,b27,b28]:Bh Aw)=B;have z:A[0]? =some (.int .i64 ai):=by rw[←hA];rfl
 have I:A[7]? =some (.int .i64 ad):=by rw[←hA];rfl
 have J:B[0]? =some (.int .i64 bi):=by rw[←hB];rfl
 have L:B[7]? =some (.int .i64 bd):=by rw[←hB];rfl
 have hAs:A.size=29:=by rw[←hA];rfl
 have hBs:B.size=29:=by rw[←hB];rfl
 clear hA hB
 have M:r=if Jp ad bd=0 then Jp ai bi else Jp ad bd:=by
  rw[hr];unfold Jp;by_cases h1:ad<bd
  ·rw[DX h1,Dk AB];simp
  by_cases h2:ad>bd
  ·rw[Dk h1,DX h2,Dk AB];simp
  rw[Dk h1,Dk h2,DX AB];simp
 have j:=abf;clear hr;generalize Jp=cm at j M;have ca:=aGw W A 39;have cb:=aGw (W.alloc (.cells A 39)) B 39;have O:(W.alloc (.cells A 39)).heap.size=W.heap.size+1:=Bj
 have u:∀k,((W.alloc (.cells A 39)).alloc (.cells B 39)).cell? ⟨W.heap.size,k,none⟩=A[k]? :=fun k=>by rw[aLC _ _ _ (by rw[O];exact WH _)];exact ca k
 rw[O]at cb;have U:=(u 0).trans z;have Y:=(u 7).trans I;have Z:=(cb 0).trans J;have fb7:=(cb 7).trans L;have hg:∃os,(W.alloc (.cells A 39)).alloc (.cells B 39)=grow W os:=⟨_,by rw[alloc_eq_grow,alloc_eq_grow,grow_grow]⟩
 have hs2:((W.alloc (.cells A 39)).alloc (.cells B 39)).heap.size=W.heap.size+2:=Bj
 clear ca cb u z I J L
 go_enter func164,Tryz.ntmps164
 go_wp2
 generalize(W.alloc (.cells A 39)).alloc (.cells B 39)=w1 at U Y Z fb7 hg hs2 ⊢;refine wp_region_still_tail 10 AA AA ?_;simp only[List.take_succ_cons,sF,List.drop_succ_cons,jF]
 repeat still_step
 still_call (j _ _ _)
 repeat still_step
 still_call (j _ _ _)
 refine wpStill_nil ?_
 change wpList _ _ _ _ _ w1.drew
 have hg2:∃os,w1.drew=grow (W.drewN 1) os:=by
  obtain⟨os,rfl⟩:=hg;exact⟨os,rfl⟩
 generalize w1.drew=w2 at hg2 ⊢;have hc:=aGw w2 #[.int .i64 (cm ad bd),.int .i64 (cm ai bi)] 3;have hc0:=hc 0;have hc1:=hc 1;clear hc U Y Z fb7 hg hs2 j;simp only[List.getElem?_toArray]at hc0 hc1
 go_wp2_with (go_at_call 165;refine(aYu r _ _ M _ _ _ hc0 hc1).mono ?_;rintro e w' ⟨rfl,rfl⟩)
 all_goals (go_ret;obtain⟨os,rfl⟩:=hg2;exact⟨rfl,1,_,by rw[alloc_eq_grow,grow_grow]⟩)
def acQ (l r:A8 AX) (h:gI l=some r):
 BF 163 [.aO 0,.d (.fn (.func 164) [] [])] [.arr 39 29 (l.map Aq)] (.eX []) [.arr 39 29 (r.map Aq)]:=
 av9 (ρ:=Tryz.ahm) Tryz.aAV Tryz.isAgg39 Tryz.sizeOf39 (enters_of func164 AA rfl) (am6 fun r j ad bi q u=>aa8 r j ad bi q u) l r h
end
end Go.Proofs.YtkkdimcnpacjhaaGreat
