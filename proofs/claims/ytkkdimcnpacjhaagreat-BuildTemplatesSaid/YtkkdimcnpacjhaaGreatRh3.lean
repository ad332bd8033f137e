/- Part 3 of the laws' proofs (short forms by wip/shrink2.py). -/
import Derived.Test.YtkkdimcnpacjhaaGreatRh2
set_option linter.defProp false
set_option linter.unnecessarySimpa false
set_option linter.unusedSectionVars false
set_option linter.unusedVariables false
set_option linter.unusedSimpArgs false
namespace Go.Proofs.YtkkdimcnpacjhaaGreat
open Go.RowKit Go.Proofs.Tryz
section
def E5.freeze {C:Ey} {ok:Nat->Prop} {H:A8 CP} {es:A8 Bd} {w:BU} (hm:E5 C ok H es w) {k:Nat} {e:Bd} {hd:CP} (hk:es[k]? =some e) (hl:e.live=true) (O:H[k]? =some hd):E5 C (fun b=>ok b\/EK hd.v=some b) H (es.set k .dead) w:=by
 have z:k<es.length:=(GH.1 hk).1;have L:=fun b q=>hm.blk k _ hd b hk hl O q;have hg:Et ok w (fun b=>ok b\/EK hd.v=some b) w:=fun b q=>⟨.inl q,rfl⟩
 refine⟨hm.fr,fun b q=>.inl (hm.yY b q),?_,?_,hm.names,Zo,?_,?_,?_⟩
 ·rintro b (q|q)
  ·exact hm.yZ b q
  exact .inr (L b q).2.2
 ·rintro b (q|q)
  ·exact hm.kS b q
  exact(L b q).2.1
 ·intro j e' h' he I;rcases MO z he with⟨rfl,rfl⟩|⟨_,J⟩
  ·trivial
  exact(hm.ent j e' h' J I).mono hg (.refl _) (fun _ _ _=>rfl)
 ·intro j e' h' b he M I q;rcases MO z he with⟨rfl,rfl⟩|⟨hne,J⟩
  ·cases M
  have h3:=hm.blk j e' h' b J M I q;refine⟨fun u=>?_,h3.2⟩;rcases u with u|u
  ·exact h3.1 u
  exact hne (hm.Fe j k e' _ h' hd b J hk M hl I O q u)
 intro i j e1 e2 h1 h2 b he1 he2 U Y hh1 hh2 hb1 hb2;rcases MO z he1 with⟨rfl,rfl⟩|⟨_,Z⟩
 ·cases U
 rcases MO z he2 with⟨rfl,rfl⟩|⟨_,amg⟩
 ·cases Y
 exact hm.Fe i j e1 e2 h1 h2 b Z amg U Y hh1 hh2 hb1 hb2
section
variable {P:Ce} {o:Oper} {es:A8 Bd}
def aeP {t L M:CG} {x:CM} {k:Nat} {m:A8 (Au×D)} (ht:P.underlying t=some (.map L M)) (O:es[k]? =some (.map m)) (ho:o.op=.range t x):CQ P o [(x,.mp k)] es (.ptr es.length 0) (es.set k .dead++[.iter m []]):=
 .eff fun C ok H a w hm hn=>by
  obtain⟨hd,U,u⟩:=Hl hm.ent hm.hlen O;obtain⟨b,ms,clock,Y,z,h3⟩:=u;have Z:=VB (hn (x,.mp k) Bh) U;simp only at Z;have hb:b<w.heap.size:=(H6.1 z).1;have m0:=hm.freeze O rfl U;have g0:Et ok w (fun c=>ok c\/EK hd.v=some c) w:=fun c q=>⟨.inl q,rfl⟩
  have I:EK hd.v=some b:=by rw[Y];rfl
  have g1:Et (fun c=>ok c\/EK hd.v=some c) w (fun c=>ok c\/EK hd.v=some c) (w.alloc (.mapIter (some b) clock #[] clock)):=fun c q=>⟨q,Kq _ _ _ (m0.kS c q)⟩
  have J:FY (fun c=>ok c\/EK hd.v=some c) (w.alloc (.mapIter (some b) clock #[] clock)) (H++[⟨.pointer (some ⟨w.heap.size,0,none⟩),0⟩]) ⟨.pointer (some ⟨w.heap.size,0,none⟩),0⟩ (.iter m []):=
   ⟨w.heap.size,b,ms,clock, #[],rfl,jH _ _,.inr I,(Kq _ _ _ hb).trans z,(h3.mono g0).mono g1,rfl,fun j i hj=>by simp at hj⟩
  obtain⟨m1,g2⟩:=m0.push (.mapIter (some b) clock #[] clock) ⟨.pointer (some ⟨w.heap.size,0,none⟩),0⟩ _ (aCZ w) J;refine⟨.pointer (some ⟨w.heap.size,0,none⟩),_,_,_,.inl ?_,g0.trans g2,Ho _ _,m1,.ptr _ _ w.heap.size 0 PD⟩;have hr:=run_range_map (P:=P) w t L M b ms clock ht z;simp[execOp,ho,Z,Y,hr]
def born_inj {ok:Nat->Prop} {w:BU} {es:A8 (Au×D)} {ms:C9 MapEntry} {clock:Nat} (h:Ld ok w es ms clock) {i j:Nat} {m n:MapEntry} (hi:ms[i]? =some m) (u:ms[j]? =some n) (z:m.born=n.born):i=j:=by
 rcases aC6 i j with q|q|q
 ·have :=h.inc i j m n q hi u;omega
 ·exact q
 have :=h.inc j i n m q u hi;omega
def alq {ok:Nat->Prop} {w:BU} {es:A8 (Au×D)} {ms:C9 MapEntry} {clock:Nat} (h:Ld ok w es ms clock):(ms.toList.map (·.born)).Nodup:=by
 unfold List.Nodup;rw[KC];intro i j hi q u;simp only[Dc,Uo]at hi q;have z:ms[i]? =some ms[i]:=Tt
 have I:ms[j]? =some ms[j]:=Zx
 simp only[TV,Array.getElem_toList];intro e;have :=born_inj h z I e;omega
def aif {K V:Type} {x:CM} {n i:Nat} {ek:K->Au} {ev:V->D} {m:A8 (K×V)} {vis:A8 Nat} {p:K×V} (hp:m[i]? =some p) (he:es[n]? =some (.iter (m.map (DL ek ev)) (vis++[i]))) (ho:o.op=.entry x):
 CQ P o [(x,.ptr n 0)] es (.fC [.d (.lit (ek p.1)),.d (ev p.2)]) es:=
 .pure fun ok H a w u hl hn=>by
  obtain⟨hd,hh,I⟩:=Hl u hl he;obtain⟨bi,M,ms,clock,seen,O,h2,h3,h4,U,h6,h7⟩:=I;have J:=hn (x,.ptr n 0) Bh;simp only at J;generalize hv:a.eval x=v at J;cases J with
  |ptr _ _ b' s Y=>
   rw[hh]at Y;obtain rfl:=Dq Y;simp only[Value.pointer.injEq,Mc,Addr.mk.injEq]at O;obtain⟨rfl,_⟩:=O;obtain⟨e,Z,q2⟩:=h7 vis.length i Bh;have L:(m.map (DL ek ev))[i]? =some (DL ek ev p):=by rw[Jg,hp];rfl
   obtain⟨r1,r2,_⟩:=U.ent i _ e L Z;refine⟨.tuple #[e.key,e.val],?_,.fC _ _ rfl fun j hj=>?_⟩
   ·have q:seen.back?=some e.born:=by
     rw[Array.back?_eq_getElem?,h6];simpa using q2
    have z:e∈ms.toList:=by
     rw[Array.mem_toList_iff];exact Array.mem_of_getElem? Z
    have hf:ms.find? (·.born==e.born)=some e:=by rw[←Array.find?_toList];exact find_born e ms.toList (alq U) z
    have g1:(getObj b').run P w=.ok (.mapIter (some M) clock seen clock) w:=by simp[getObj,Sem.run,h2]
    have g2:(getObj M).run P w=.ok (.map ms clock) w:=Rz h4;simp[execOp,ho,hv,Instr.entry,g1,g2,q,hf]
   match j,hj with
   |0,_=>rw[show([Af.d (.lit (ek p.1)),.d (ev p.2)]:A8 Af).getD 0 .junk=.d (.lit (ek p.1))from rfl,show(#[e.key,e.val]:C9 Au).getD 0 undef=e.key from rfl,r1];exact .d _ _ (.lit _)
   |1,_=>exact .d _ _ r2
end
def abz {P:Ce} {w:BU} {ok:Nat->Prop} {ty:CG} {bi Y clock:Nat} {seen:C9 Nat} {ms:C9 MapEntry} {es:A8 (Au×D)} (hi:w.heap[bi]? =some (.mapIter (some Y) clock seen clock)) (hb:w.heap[Y]? =some (.map ms clock)) (hM:Ld ok w es ms clock):
 ((leftOf ms seen).size=0/\(Instr.next (.pointer (some ⟨bi,0,none⟩)) false ty).run P w=.ok (.tuple #[.bool false]) w)\/
 ∃e∈(leftOf ms seen).toList,∃q:BU,(q=w\/q=w.drew)/\(Instr.next (.pointer (some ⟨bi,0,none⟩)) false ty).run P w=.ok (.tuple #[.bool true,e.key,e.val]) (q.putObj bi (.mapIter (some Y) clock (seen.push e.born) clock)):=by
 have z:∀x∈ms.toList,x.born<clock:=fun x I=>by
  obtain⟨i,hi,rfl⟩:=I5 I;have J:i<ms.size:=Gs
  have Z:i<es.length:=by rw[←hM.len];exact J
  have :=(hM.ent i es[i] ms[i] (by simp[Z]) (by simp[J])).2.2;simpa using this
 simp only[Instr.next,getObj,G6,Sem.run,hi,hb,Result.andThen,next_test_false seen ms clock clock z (EZ _),Qq,KP];unfold leftOf;have u:∀x∈(Array.filter (fun e=> !seen.contains e.born) ms).toList,x.born<clock:=fun x I=>z x (by simp at I ⊢;exact I.1);generalize Array.filter (fun e=> !seen.contains e.born) ms=L at u ⊢;have e1:L.filter (fun x=>x.born<clock)=L:=Array.filter_eq_self.2 (fun x I=>by simpa using u x UR)
 have e2:L.filter (fun x=>x.born>=clock)= #[]:=by
  rw[Array.filter_eq_empty_iff];intro x I;have :=u x UR;simp;omega
 simp only[e1,e2,Array.append_empty];by_cases h0:L.size=0
 ·left;have :L= #[]:=WT h0;subst this;refine⟨rfl,?_⟩;simp[choose,Sem.run,Question.forced]
 right;have hne:L.isEmpty=false:=by simp[Array.isEmpty,h0]
 simp only[hne,Qq,KP,Array.empty_append,Array.size_map]
 have hch:∃(j:Nat) (q:BU),j<L.size/\(q=w\/q=w.drew)/\(choose (Question.mapNext L.size)).run P w=.ok j q:=by
  by_cases hf:L.size<=1
  ·exact⟨0,w,AB,.inl rfl,by simp[choose,Sem.run,Question.forced,hf]⟩
  exact⟨_,w.drew,lQ _ AB,.inr rfl,by
   simp only[choose,Sem.run,Question.forced,I8,hf,KP,Question.cut]
   rfl⟩
 obtain⟨j,q,hj,M,O⟩:=hch;refine⟨L[j],Bh,q,M,?_⟩;have hi1:q.heap[bi]? =some (.mapIter (some Y) clock seen clock):=by rcases M with rfl|rfl<;>exact hi
 have U:∀(o':Obj),(setObj bi o').run P q=.ok () (q.putObj bi o'):=fun o'=>by simp[setObj,Sem.run,hi1,World.putObj]
 simp only[O,Array.getElem?_map,nO hj,JQ,G6,U,Result.andThen];rfl
section
variable {P:Ce} {ops:C9 Oper} {o:Oper} {rest l:A8 Oper} {σ:BO} {Q:Exit->BO->Prop} {K V:Type}
def abM {ms:C9 MapEntry} {seen:C9 Nat} {e:MapEntry} (h:e∈(leftOf ms seen).toList):e∈ms.toList/\e.born∉seen:=by
 unfold leftOf at h;simp at h;exact⟨by simpa using h.1,h.2⟩
def Dv.next {ek:K->Au} {ev:V->D} {x:CM} {ty:AZ} (n:Nat) (m:A8 (K×V)) (vis:A8 Nat) (hn:σ.ents[n]? =some (.iter (m.map (DL ek ev)) vis)) (ho:o.op=.next x false) (hx:σ.get x=.ptr n 0) (hg:JD ops σ o.guard=some true)
 (h0:(∀i,i<m.length->i∈vis)->Dv P ops rest (σ.sG o.dst (.fC [.d (EY false)])) Q)
 (h1:∀i p,m[i]? =some p->i∉vis->Dv P ops rest (σ.put o.dst (.fC [.d (EY true),.d (.lit (ek p.1)),.d (ev p.2)]) (σ.ents.set n (.iter (m.map (DL ek ev)) (vis++[i])))) Q):Dv P ops (o::rest) σ Q:=by
 refine⟨fun ro l2 Q' C ok H a w z hk=>?_⟩;show wpListIn (JO ro) 0 P ops Q' (o::(rest++l2)) a w;unfold wpListIn;rw[Di (Qe z (NS hg))];have hv:=hx▸z.get x;obtain⟨hd,Z,hent⟩:=Hl z.mem.ent z.mem.hlen hn;obtain⟨bi,L,ms,clock,seen,q1,q2,q3,q4,q5,q6,q7⟩:=hent
 have J:a.eval x=.pointer (some ⟨bi,0,none⟩):=by
  generalize a.eval x=v at hv;cases hv with
  |ptr _ _ b' s hH=>
   rw[Z]at hH;obtain rfl:=Dq hH;simp only[Value.pointer.injEq,Mc,Addr.mk.injEq]at q1;obtain⟨rfl,_⟩:=q1;rfl
 have hlen:ms.size=m.length:=by rw[q5.len,Dc]
 unfold Oper.wpIn;rw[mJ _ _ _ (by rw[ho];intro c h;cases h)];rcases abz (P:=P) (ty:=o.type) q2 q4 q5 with⟨hs,hr⟩|⟨e,M,w1,hw1,hr⟩
 ·have he:(execOp a.eval o).run P w=.ok (.value (.tuple #[.bool false])) w:=by simp[execOp,ho,J,hr]
  rw[he];refine⟨fun _ _=>trivial,?_⟩
  refine(h0 fun i hi=>?_).run ro l2 Q' C ok H _ w (z.put o.dst (.refl _ _) (.refl _) z.mem (.fC _ _ rfl fun j q=>by
   match j,q with
   |0,_=>exact .d _ _ (.lit _))) hk
  have O:i<ms.size:=AB
  have hnot:ms[i]∉(leftOf ms seen).toList:=by
   have :leftOf ms seen= #[]:=WT hs;rw[this];simp
  have hin:ms[i].born∈seen:=by
   apply aS;intro hc;refine hnot ?_;unfold leftOf;simp[hc]
  obtain⟨j,q,U⟩:=Array.getElem_of_mem hin;have hjv:j<vis.length:=AB
  obtain⟨e,r1,r2⟩:=q7 j vis[j] (by simp[hjv])
  have hb:e.born=ms[i].born:=by
   have e3:seen[j]? =some seen[j]:=Zx
   rw[e3,U]at r2;exact(Dq r2).symm
  have :=born_inj q5 r1 (show ms[i]? =some ms[i] by simp[O]) hb;rw[←this];simp
 have he:(execOp a.eval o).run P w=.ok (.value (.tuple #[.bool true,e.key,e.val])) (w1.putObj bi (.mapIter (some L) clock (seen.push e.born) clock)):=by simp[execOp,ho,J,hr]
 rw[he];refine⟨fun _ _=>trivial,?_⟩;obtain⟨aHd,hes⟩:=abM M;obtain⟨i,hi,hie⟩:=I5 aHd;have O:i<ms.size:=Gs
 have Y:ms[i]? =some e:=by rw[←hie];simp[O]
 have him:i<m.length:=AB
 have hpe:(m.map (DL ek ev))[i]? =some (DL ek ev m[i]):=by simp[him]
 obtain⟨r1,r2,_⟩:=q5.ent i _ e hpe Y
 have aHe:i∉vis:=fun hc=>by
  obtain⟨j,q,U⟩:=I5 hc;obtain⟨e2,s1,s2⟩:=q7 j i (by simp[←U,q]);rw[Y]at s1;obtain rfl:=Dq s1;exact hes (Array.mem_of_getElem? s2)
 have I:E5 C ok H σ.ents w1/\Et ok w ok w1:=by
  rcases hw1 with rfl|rfl
  ·exact⟨z.mem,.refl _ _⟩
  exact z.mem.drew
 have hi1:w1.heap[bi]? =some (.mapIter (some L) clock seen clock):=by rcases hw1 with rfl|rfl<;>exact q2
 have u:w1.heap[L]? =some (.map ms clock):=(I.2 L q3).2.trans q4;have hne:L≠bi:=fun e=>by rw[e,hi1]at u;cases u
 obtain⟨m2,g2⟩:=I.1.akl (o:=.mapIter (some L) clock (seen.push e.born) clock) (e':=.iter (m.map (DL ek ev)) (vis++[i])) hn rfl Z (by rw[q1];rfl)
  (fun g=>⟨bi,L,ms,clock,seen.push e.born,q1,WQ (H6.1 hi1).1,q3,(Z4 hne).trans u,(q5.mono I.2).mono g,by simp[q6],fun j i' q=>by
   by_cases hjl:j<vis.length
   ·rw[Hu hjl]at q;obtain⟨e2,s1,s2⟩:=q7 j i' q;exact⟨e2,s1,by rw[Array.getElem?_push_lt AB];simpa[nO (show j<seen.size by omega)]using s2⟩
   have hj2:j=vis.length:=by
    have :=(GH.1 q).1;simp at this;omega
   subst hj2;simp at q;subst q
   exact⟨e,Y,by rw[←q6];simp⟩⟩)
 have g3:=I.2.trans g2
 have hp:=(h1 i m[i] (by simp[him]) aHe).run ro l2 Q' C ok H (a.put o.dst (.tuple #[.bool true,e.key,e.val])) _ (z.put o.dst (x:=.fC [.d (EY true),.d (.lit (ek m[i].1)),.d (ev m[i].2)]) g3 (.refl _) m2 (.fC _ _ rfl fun j q=>by
  match j,q with
  |0,_=>exact .d _ _ (.lit _)
  |1,_=>
   show R ok _ H (.d (.lit (ek m[i].1))) e.key;rw[r1];exact .d _ _ (.lit _)
  |2,_=>exact .d _ _ (r2.mono g3))) hk
 exact hp
def Bv.aDK {A Rr:Type} {cd:Code} (S:A8 Nat->A->BO) (m:A8 (K×V)) (step:A->K×V->AL A) (Kf:A->AL Rr) (r:Rr) (a0:A) (hs:CX σ (S [] a0))
 (L:∀vis:A8 Nat,vis.Nodup->(∀i,i∈vis↔i<m.length)->((vis.filterMap fun(i:Nat)=>m[i]?).foldlM step a0).bind Kf=some r)
 (round:∀(J:BO->Prop) (vis:A8 Nat) (a:A),((∀i,i<m.length->i∈vis)->Kf a=some r)->(∀i p,m[i]? =some p->i∉vis->∃a',step a p=some a'/\∀s,CX s (S (vis++[i]) a')->J s)->Bv P cd (S vis a) (Jp J Q)):Bv P (.loop cd) σ Q:=by
 have U:∀vis:A8 Nat,vis.Nodup->(∀i∈vis,i<m.length)->∃rest,(vis++rest).Nodup/\(∀i,i∈vis++rest↔i<m.length):=fun vis q u=>by
  refine⟨(List.range m.length).filter fun i=> !vis.contains i,?_,fun i=>?_⟩
  ·refine aCT.2 ⟨q,List.Pairwise.filter _ List.nodup_range,fun a ha b Y e=>?_⟩;subst e;rw[Hy]at Y;simp[ha]at Y
  rw[Iy,Hy];constructor
  ·rintro(h|h)
   ·exact u i h
   simpa using h.1
  intro h;by_cases hc:i∈vis
  ·exact .inl hc
  exact .inr ⟨KY,by simp[hc]⟩
 refine Bv.loop (fun n s=>∃vis a,n=m.length-vis.length/\vis.Nodup/\(∀i∈vis,i<m.length)/\(vis.filterMap fun(i:Nat)=>m[i]?).foldlM step a0=some a/\CX s (S vis a)) (m.length) ⟨[],a0,Bh,bY,fun i h=>Ip,rfl,hs⟩ ?_;rintro n s ⟨vis,a,rfl,q,u,hf,M⟩;refine DF M (round _ vis a (fun hc=>?_) (fun i p hp hi=>?_))
 ·have :=L vis q (fun i=>⟨u i,hc i⟩);rw[hf]at this;exact this
 have him:i<m.length:=(GH.1 hp).1;have z:(vis++[i]).Nodup:=aCT.2 ⟨q,Bh,fun a ha b Y e=>by simp at Y;subst Y;subst e;exact hi ha⟩
 have I:∀j∈vis++[i],j<m.length:=fun j Z=>by
  rcases Iy.1 Z with h|h
  ·exact u j h
  simp at h;subst h;exact him
 obtain⟨rest,h1,h2⟩:=U (vis++[i]) z I;have h3:=L _ h1 h2;rw[Zw,Zw]at h3;simp only[QM,aLT,hp,List.foldlM_append,Ui,List.foldlM_nil,hf,bind,pure,Ad]at h3;cases hst:step a p with
 |none=>rw[hst]at h3;simp at h3
 |some a'=>
  refine⟨a',rfl,fun s hs=>⟨m.length-(vis++[i]).length,?_,vis++[i],a',rfl,z,I,?_,hs⟩⟩
  ·have :vis.length<m.length:=by
    have M:vis.length<=(List.range m.length).length:=by
     refine aYR q ?_;intro j Z;simpa using u j Z
    have O:(vis++[i]).length<=(List.range m.length).length:=by
     refine aYR z ?_;intro j Z;simpa using I j Z
    simp at O;omega
   simp;omega
  rw[Zw,List.foldlM_append,hf];simp[hp,hst]
end
def aeG {α:Type}:∀(m:A8 α) (vis:A8 Nat),vis.Nodup->(∀i,i∈vis↔i<m.length)->(vis.filterMap fun(i:Nat)=>m[i]?).Perm m:=fun m vis j q=>by
 have u:vis.Perm (List.range m.length):=by
  rw[List.perm_iff_count];intro a;rw[j.count,List.nodup_range.count];simp[q a]
 have z:((List.range m.length).filterMap fun(i:Nat)=>m[i]?)=m:=by
  apply kN;intro i
  have :∀(n:Nat),n<=m.length->((List.range n).filterMap fun(i:Nat)=>m[i]?)=m.take n:=by
   intro n
   induction n with
   |zero=>intro _;simp
   |succ n I=>
    intro L;rw[List.range_succ,Zw,I AB];have hl:n<m.length:=AB
    simp[hl]
  rw[this m.length (EZ _),Gg]
 have J:=u.filterMap (fun(i:Nat)=>m[i]?)
 rwa [z]at J
def aNB {α β:Type} {c:α->AZ} {f:α->β} {b:Nat}:∀(l:A8 α) (v:A8 β),
 l.foldlM (fun v p=>bif c p then(DU b v [f p]).bind fun x=>some x else some v) v=if(v.length+(l.filter c).length)*b<=140737488355328\/l.filter c=[]then some (v++(l.filter c).map f)else none
 | [],v=>Bh
 |p::l,v=>by
  rw[Ui];cases u:c p with
  |false=>
   have q:=aNB (c:=c) (f:=f) (b:=b) l v;simp only[BX,bind,Ad,q,Rn,u,Qq,KP]
  |true=>
   simp only[Bz,Rn,u,Ku];have I:DU b v [f p]=if(v.length+[f p].length)*b<=140737488355328 then some (v++[f p])else none:=rfl
   rw[I];by_cases j:(v.length+[f p].length)*b<=140737488355328
   ·rw[Di j];have q:=aNB (c:=c) (f:=f) (b:=b) l (v++[f p]);simp only[Ad,bind,q];have z:(v++[f p]).length+(l.filter c).length=v.length+(p::l.filter c).length:=EW
    rw[z];by_cases hl:l.filter c=[]
    ·rw[hl]at z ⊢;simp only[HY,NM]at j ⊢;simp[j]
    simp[hl]
   rw[Dp j];simp only[Option.bind_none,bind];rw[Dp];rintro(h|h)
   ·refine j (FC (MB _ ?_) h);simp
   cases h
def ajb {α β Rr:Type} {c:α->AZ} {f:α->β} {b:Nat} {u q:A8 α} {v:A8 β} {Kf:A8 β->AL Rr} {r:Rr} (hp:u.Perm q) (I:∀x y,x.Perm y->Kf x=Kf y)
 (h:(q.foldlM (fun v p=>bif c p then(DU b v [f p]).bind fun x=>some x else some v) v).bind Kf=some r):
 (u.foldlM (fun v p=>bif c p then(DU b v [f p]).bind fun x=>some x else some v) v).bind Kf=some r:=by
 rw[aNB]at h ⊢;have j:=hp.filter c
 have e:((v.length+(u.filter c).length)*b<=140737488355328\/u.filter c=[])↔((v.length+(q.filter c).length)*b<=140737488355328\/q.filter c=[]):=by
  rw[j.length_eq];constructor
  ·rintro(h|h)
   ·exact .inl h
   exact .inr (by rw[h]at j;exact j.symm.eq_nil)
  rintro(h|h)
  ·exact .inl h
  exact .inr (by rw[h]at j;exact j.eq_nil)
 by_cases z:((v.length+(q.filter c).length)*b<=140737488355328\/q.filter c=[])
 ·rw[Di z]at h;rw[Di (e.2 z)];simp only[Ad]at h ⊢;rw[←h];exact I _ _ ((j.map f).append_left v)
 rw[Dp z]at h;cases h
section
variable {K V:Type} [BEq K]
def Gj :A8 (K×V)->K->Nat
 | [],_=>0
 |p::m,k=>bif k==p.1 then 0 else Gj m k+1
def aWS {ek:K->Au} {kd:TypeDesc} (hs:∀a b,Instr.sameNow kd (ek a) (ek b)=some (a==b)) (k:K) (v:V):∀(m:A8 (K×V)) (l:A8 MapEntry) (i:Nat),l.map (·.key)=m.map (fun p=>ek p.1)->
 (Instr.findNow kd (ek k) l i=some none/\DX m k=none/\F8 m k v=m++[(k,v)]/\Gj m k=m.length)\/
 ∃e p,Instr.findNow kd (ek k) l i=some (some (i+Gj m k,e.val))/\l[Gj m k]? =some e/\m[Gj m k]? =some p/\DX m k=some p.2/\(k==p.1)=true/\F8 m k v=m.set (Gj m k) (k,v)
 | [],[],_,_=>.inl ⟨rfl,rfl,rfl,rfl⟩
 | [],_::_,_,h=>Ip
 |_::_,[],_,h=>Ip
 |p::m,e::l,i,h=>by
  simp only[JR,aGz]at h;cases j:(k==p.1)with
  |true=>
   refine .inr ⟨e,p,?_,?_,?_,?_,j,?_⟩
   ·simp[Instr.findNow,h.1,hs,j,Gj]
   ·simp[Gj,j]
   ·simp[Gj,j]
   ·simp[DX,j]
   simp[F8,Gj,j]
  |false=>
   rcases aWS hs k v m l (i+1) h.2 with⟨q,u,z,I⟩|⟨e',J,q,u,z,I,L,M⟩
   ·refine .inl ⟨?_,?_,?_,?_⟩
    ·simp[Instr.findNow,h.1,hs,j,q]
    ·simp[DX,j,u]
    ·simp[F8,j,z]
    simp[Gj,j,I]
   refine .inr ⟨e',J,?_,by simpa[Gj,j]using u,by simpa[Gj,j]using z,?_,L,?_⟩
   ·simp[Instr.findNow,h.1,hs,j,q,Gj];omega
   ·simp[DX,j,I]
   simp[F8,j,M,Gj]
def aTx (k:K) (v:V):∀m:A8 (K×V),(F8 m k v)[Gj m k]? =some (k,v)
 | []=>rfl
 |p::m=>by
  cases j:(k==p.1)with
  |true=>simp[F8,Gj,j]
  |false=>simp[F8,Gj,j,aTx k v m]
def aQC (k:K) (v u:V):∀m:A8 (K×V),(F8 m k v).set (Gj m k) (k,u)=F8 m k u
 | []=>rfl
 |p::m=>by
  cases j:(k==p.1)with
  |true=>simp[F8,Gj,j]
  |false=>simp[F8,Gj,j,aQC k v u m]
end
section
variable {ok:Nat->Prop} {w:BU} {es:A8 (Au×D)} {ms:C9 MapEntry} {clock:Nat}
def TJ.nil:TJ #[] 0:=⟨rfl,fun i e h=>Ip⟩
def TJ.push (h:TJ ms clock) {k v:Au}:TJ (ms.push { key:=k,val:=v,born:=clock }) (clock+1):=by
 refine⟨by simp[h.1],fun i e j=>?_⟩;rw[Array.getElem?_push]at j;split at j
 ·rename_i q;obtain rfl:=Dq j;rw[q];exact h.1
 exact h.2 i e j
def TJ.modify (h:TJ ms clock) (j:Nat) (f:MapEntry->MapEntry) (u:∀e,(f e).born=e.born):TJ (ms.modify j f) clock:=by
 refine⟨by simp[h.1],fun i e q=>?_⟩;rw[P8]at q;split at q
 ·rw[Uu]at q;obtain⟨z,I,rfl⟩:=q;rw[u];exact h.2 i z I
 exact h.2 i e q
def TJ.find (h:TJ ms clock) {n:Nat} (q:n<ms.size):ms.findIdx? (fun e=>(e.born:Int)==(n:Int))=some n:=by
 rw[Array.findIdx?_eq_some_iff_getElem];refine⟨q,?_,fun j u=>?_⟩
 ·have :=h.2 n ms[n] Zx;simp[this]
 have :=h.2 j ms[j] (by simp[Nat.lt_trans u q]);simp[this];omega
def an2 (ms:C9 MapEntry) (j:Nat) (k v:Au) (q:∀e,ms[j]? =some e->e.key=k):(ms.modify j fun e=>{ e with val:=v })=ms.modify j fun e=>{ e with key:=k,val:=v }:=by
 apply zy;intro i;rw[P8,P8];split
 ·rename_i e;subst e;cases hm:ms[j]? with
  |none=>rfl
  |some e=>simp[q e hm]
 rfl
def ado (ms:C9 MapEntry) (j:Nat) (k v:Au) (q:∀e,ms[j]? =some e->e.val=v):(ms.modify j fun e=>{ e with key:=k })=ms.modify j fun e=>{ e with key:=k,val:=v }:=by
 apply zy;intro i;rw[P8,P8];split
 ·rename_i e;subst e;cases hm:ms[j]? with
  |none=>rfl
  |some e=>simp[q e hm]
 rfl
end
section
variable {P:Ce} {o:Oper} {es:A8 Bd} {K V:Type} [BEq K]
def aZC {t:CG} {j:C9 (Nat×CM)} {q:A8 (Nat×Nat)} {z:Au} {cs:A8 Af} (u:Ji P t q z) (vs:A8 Af) (I:Kr (fun(i:Nat)=>q[i]?) (GI z) j.toList vs=cs) (hp:OI (fun(i:Nat)=>q[i]?) (GI z).length j.toList vs=true) (J:o.op=.build t j):
 CQ P o (Np j.toList vs) es (.ag cs) es:=I▸ah0 u vs hp J
def Pv (x y:Int):Int:=bif y>x then y else x
def aHb {x y:CM} {ats:C9 CG} {kd:IntKind} {a b:Int} (z:o.op=.call { callee:=.builtin .max,args:= #[x,y],argTypes:=ats }):
 CQ P o [(x,.d (.lit (.int kd a))),(y,.d (.lit (.int kd b)))] es (.d (.lit (.int kd (Pv a b)))) es:=
 .pure fun ok H c w _ _ j=>by
  have q:=(FI j).1.lit;have u:=(FI j).2.lit;simp only at q u;have e:Pv a b=if b>a then b else a:=by unfold Pv;by_cases h:b>a<;>simp[h]
  refine⟨.int kd (Pv a b),?_,.d _ _ (.lit _)⟩;rw[e];simp[execOp,z,resolve,invoke,builtin,q,u,Go.run_max_int2]
def aGj {t:CG} (u:o.op=.makeMap t none):CQ P o [] es (.mp es.length) (es++[.iM []]):=
 .eff fun C ok H a w hm M=>by
  have q:FY ok (w.alloc (.map #[] 0)) (H++[⟨.map (some w.heap.size),0⟩]) ⟨.map (some w.heap.size),0⟩ (.iM []):=
   ⟨w.heap.size, #[],0,rfl,(aGq w _).1,⟨rfl,fun i e m z=>rE,fun i j m n _ hm=>by simp at hm⟩,.nil⟩
  obtain⟨I,J⟩:=hm.push (.map #[] 0) ⟨.map (some w.heap.size),0⟩ _ (fun b q=>aLu) q;refine⟨.map (some w.heap.size),_,ok,_,.inl ?_,J,Ho _ _,I,.mp _ _ 0 rfl PD⟩;have L:(newObj (.map #[] 0)).run P w=.ok w.heap.size (w.alloc (.map #[] 0)):=rfl;simp[execOp,u,Instr.makeMap,L]
def aDy {t J L:CG} {x y:CM} {k:Nat} {ek:K->Au} (ev:V->D) (M:V) {z:Au} {m:A8 (K×V)} {key:K} (ht:P.underlying t=some (.map J L)) (Z:KeyTy P J ek) (hz:(P.info? L).bind (·.zero)=some z) (q:bC z=ev M) (u:z.cells.all (·.oneCell')=true)
 (he:es[k]? =some (.iM (m.map (DL ek ev)))) (ho:o.op=.lookup t x y false):CQ P o [(x,.mp k),(y,.d (.lit (ek key)))] es (.d (ev ((DX m key).getD M))) es:=
 .pure fun ok H a w j hl O=>by
  obtain⟨hd,hh,I⟩:=Hl j hl he;obtain⟨b,ms,clock,h1,h2,h3,_⟩:=I;have U:=VB (FI O).1 hh;have Y:=(FI O).2.lit;simp only at U Y;obtain⟨v,hr,hv⟩:=aGO (key:=key) ev ht Z hz q u h2 h3 false;refine⟨v,?_,.d _ _ hv⟩;simp[execOp,ho,U,Y,h1,hr]
def rZ {C:Ey} {ok:Nat->Prop} {H:A8 CP} {w:BU} (hm:E5 C ok H es w) {k:Nat} {es0 u:A8 (Au×D)} {b clock j:Nat} {ms q:C9 MapEntry} {hd:CP} (J:es[k]? =some (.iM es0)) (L:H[k]? =some hd) (z:hd.v=.map (some b)) (I:w.heap[b]? =some (.map ms clock))
 (M:Ld ok w u q j) (O:TJ q j):(setObj b (.map q j)).run P w=.ok () (w.putObj b (.map q j))/\E5 C ok H (es.set k (.iM u)) (w.putObj b (.map q j))/\Et ok w ok (w.putObj b (.map q j)):=by
 refine⟨by simp[setObj,Sem.run,I,World.putObj],hm.akl J rfl L rV fun U=>⟨b,q,j,z,WQ (H6.1 I).1,M.mono U,O⟩⟩
def anS {t kt vt:CG} {x y u:CM} {k:Nat} {ek:K->Au} (ev:V->D) {m:A8 (K×V)} {key:K} {val:V} (ht:P.underlying t=some (.map kt vt)) (J:KeyTy P kt ek) (U:es[k]? =some (.iM (m.map (DL ek ev)))) (ho:o.op=.mapUpdate t x y u):
 CQ P o [(x,.mp k),(y,.d (.lit (ek key))),(u,.d (ev val))] es .junk (es.set k (.iM ((F8 m key val).map (DL ek ev)))):=
 .eff fun C ok H a w hm Y=>by
  obtain⟨hd,Z,hok⟩:=Hl hm.ent hm.hlen U;obtain⟨b,ms,clock,L,M,O,h4⟩:=hok;have hx:=VB (Y (x,.mp k) Bh) Z;have hy:=(Y (y,.d (.lit (ek key))) Bh).lit;have hu:ES ok w (ev val) (a.eval u):=by have :=Y (u,.d (ev val)) Bh;cases this with |d _ _ h=>exact h
  simp only at hx hy;obtain⟨kd,q,hs⟩:=J.same;have hks:ms.toList.map (·.key)=m.map (fun p=>ek p.1):=by rw[O.keys];simp[DL,xM]
  have z:=J.check;rcases aBg (i:=0) hs key val m ms.toList hks with⟨q1,_,q3⟩|⟨j,e,p,q1,q2,q3,_,q5,q6⟩
  ·have hM:=O.push (k:=ek key) hu;obtain⟨r1,r2,r3⟩:=rZ (P:=P) hm U Z L M hM h4.push;refine⟨undef,_,ok,H,.inr ⟨rfl,?_⟩,r3,.refl _,?_,.junk _⟩
   ·simp[execOp,ho,hx,hy,L,Instr.mapUpdate,underlying,ht,Rz M,z,Instr.findKey,q,q1,r1]
   rw[q3,LP];exact r2
  have hM:=O.modify (k:=ek key) hu j;obtain⟨r1,r2,r3⟩:=rZ (P:=P) hm U Z L M hM (h4.modify j _ fun _=>rfl)
  have I:e.key=ek key:=by
   have h5:(m.map (DL ek ev))[j]? =some (DL ek ev p):=by rw[Jg,q3];rfl
   rw[(O.ent j _ e h5 pO).1,J.eq _ _ q5];rfl
  have hst:∀w,(Instr.keyThatStays (ek key) (ek key)).run P w=.ok (ek key) w:=fun w=>by simp[Instr.keyThatStays,J.bits]
  have hms:ms[j]? =some e:=pO
  refine⟨undef,_,ok,H,.inr ⟨rfl,?_⟩,r3,.refl _,?_,.junk _⟩
  ·simp[execOp,ho,hx,hy,L,Instr.mapUpdate,underlying,ht,Rz M,z,Instr.findKey,q,q1,hms,I,hst,r1]
  rw[q6,Mem];exact r2
def aJU {t kt vt:CG} {x y:CM} {k:Nat} {ek:K->Au} (ev:V->D) (J:V) {z:Au} {m:A8 (K×V)} {key:K} (ht:P.underlying t=some (.map kt vt)) (hk:KeyTy P kt ek) (hz:(P.info? vt).bind (·.zero)=some z) (hzv:bC z=ev J) (hzl:z.cells.all (·.oneCell')=true)
 (he:es[k]? =some (.iM (m.map (DL ek ev)))) (ho:o.op=.mapEntry t x y):
 CQ P o [(x,.mp k),(y,.d (.lit (ek key)))] es (.fC [.d (ev ((DX m key).getD J)),.d (Ae (Gj m key:Nat))]) (es.set k (.iM ((F8 m key ((DX m key).getD J)).map (DL ek ev)))):=
 .eff fun C ok H a w hm hn=>by
  obtain⟨hd,hh,hok⟩:=Hl hm.ent hm.hlen he;obtain⟨b,ms,clock,h1,h2,L,h4⟩:=hok;have hx:=VB (FI hn).1 hh;have hy:=(FI hn).2.lit;simp only at hx hy;obtain⟨kd,M,hs⟩:=hk.same;have hks:ms.toList.map (·.key)=m.map (fun p=>ek p.1):=by rw[L.keys];simp[DL,xM]
  have O:=hk.check;have hml:ms.size=m.length:=by have :=L.len;simpa using this
  obtain⟨i0,hi0,hz'⟩:=mX.1 hz;rcases aWS (i:=0) hs key ((DX m key).getD J) m ms.toList hks with⟨q1,q2,q3,q4⟩|⟨e,p,q1,q2,q3,q4,q5,q6⟩
  ·have U:ES ok w (ev ((DX m key).getD J)) z:=by
    rw[q2];have :=aPw (ok:=ok) (w:=w) hzl;rw[hzv]at this;exact this
   have hM:=L.push (k:=ek key) U;obtain⟨r1,r2,Y⟩:=rZ (P:=P) hm he hh h1 h2 hM h4.push;refine⟨.tuple #[z,goInt clock],_,ok,H,.inl ?_,Y,.refl _,?_,.fC _ _ rfl fun i hi=>?_⟩
   ·simp[execOp,ho,hx,hy,h1,Instr.mapEntry,underlying,ht,Rz h2,O,Instr.findKey,M,q1,r1,zeroValue,typeInfo,hi0,hz']
   ·rw[q3,LP];exact r2
   match i,hi with
   |0,_=>
    have u:=U.mono Y;exact .d _ _ u
   |1,_=>
    have :goInt (clock:Nat)=.int .i64 (Gj m key:Nat):=by rw[q4,←hml,←h4.1];rfl
    show R ok _ H (.d (Ae (Gj m key:Nat))) (goInt clock);rw[this];exact .d _ _ (.lit _)
  have h5:(m.map (DL ek ev))[Gj m key]? =some (DL ek ev p):=by rw[Jg,q3];rfl
  have j:ms[Gj m key]? =some e:=pO
  have q:=L.ent _ _ e h5 j;have U:ES ok w (ev ((DX m key).getD J)) e.val:=by rw[q4];exact q.2.1
  have hM:=L.modify (k:=ek key) U (Gj m key);have hmk:=ado ms (Gj m key) (ek key) e.val (fun e' Z=>by rw[j]at Z;rw[←Dq Z]);rw[←hmk]at hM;have hkey:e.key=ek key:=by rw[q.1,hk.eq _ _ q5];rfl
  obtain⟨r1,r2,Y⟩:=rZ (P:=P) hm he hh h1 h2 hM (h4.modify _ _ fun _=>rfl);have hst:∀w,(Instr.keyThatStays (ek key) (ek key)).run P w=.ok (ek key) w:=fun w=>by simp[Instr.keyThatStays,hk.bits]
  have I:e.born=Gj m key:=h4.2 _ e j;refine⟨.tuple #[e.val,goInt (Gj m key:Nat)],_,ok,H,.inl ?_,Y,.refl _,?_,.fC _ _ rfl fun i hi=>?_⟩
  ·simp[execOp,ho,hx,hy,h1,Instr.mapEntry,underlying,ht,Rz h2,O,Instr.findKey,M,q1,j,hkey,hst,r1,I]
  ·rw[q6,Mem];exact r2
  match i,hi with
  |0,_=>
   have u:=U.mono Y;exact .d _ _ u
  |1,_=>exact .d _ _ (.lit _)
def aHt {t kt:CG} {x s u:CM} {k:Nat} {ek:K->Au} (ev:V->D) {m:A8 (K×V)} {key:K} {z0 val:V} (hk:KeyTy P kt ek) (Y:es[k]? =some (.iM ((F8 m key z0).map (DL ek ev)))) (ho:o.op=.entryStore t x s u):
 CQ P o [(x,.mp k),(s,.d (Ae (Gj m key:Nat))),(u,.d (ev val))] es .junk (es.set k (.iM ((F8 m key val).map (DL ek ev)))):=
 .eff fun C ok H a w hm L=>by
  obtain⟨hd,Z,M⟩:=Hl hm.ent hm.hlen Y;obtain⟨b,ms,clock,h1,h2,O,h4⟩:=M;have hx:=VB (L (x,.mp k) Bh) Z;have hy:a.eval s=.int .i64 (Gj m key:Nat):=(L (s,.d (Ae (Gj m key:Nat))) Bh).lit;have hu:ES ok w (ev val) (a.eval u):=by have :=L (u,.d (ev val)) Bh;cases this with |d _ _ h=>exact h
  simp only at hx;have j:=aTx key z0 m;have h5:((F8 m key z0).map (DL ek ev))[Gj m key]? =some (DL ek ev (key,z0)):=by rw[Jg,j];rfl
  have q:Gj m key<ms.size:=by
   have h6:=(GH.1 j).1;have :=O.len;rw[Dc]at this;omega
  have z:ms[Gj m key]? =some ms[Gj m key]:=Zx
  have I:=O.ent _ _ _ h5 z;have hM:=O.modify (k:=ek key) hu (Gj m key);have U:=an2 ms (Gj m key) (ek key) (a.eval u) (fun e' J=>by rw[z]at J;rw[←Dq J];exact I.1);rw[←U]at hM;obtain⟨r1,r2,r3⟩:=rZ (P:=P) hm Y Z h1 h2 hM (h4.modify _ _ fun _=>rfl);refine⟨undef,_,ok,H,.inr ⟨rfl,?_⟩,r3,.refl _,?_,.junk _⟩
  ·simp[execOp,ho,hx,hy,h1,Instr.entryStore,Rz h2,asInt,asIntOf,h4.find q,r1]
  have e1:((F8 m key z0).map (DL ek ev)).set (Gj m key) (ek key,ev val)=(F8 m key val).map (DL ek ev):=by
   rw[←aQC key z0 val m,Mem];rfl
  rw[←e1];exact r2
end
section
variable {P:Ce} {σ:BO} {Q:Exit->BO->Prop} {c:CM} {x y:Code}
def Dw {A:Type} {b:AZ} {u v z:A} (h:(bif b then u else v)=z) (ht:u=z->Bv P x σ Q) (j:v=z->Bv P y σ Q) (q:σ.get c=.d (.lit (.bool b)):=by kernel_rfl):Bv P (.cond c x y) σ Q:=
 Bv.cond b q (fun e=>ht (U8 e h)) (fun e=>j (U3 e h))
def CB {A:Type} {b:AZ} {u v z:A} (h:(bif b then u else v)=z) (ht:u=z->Q .normal σ) (j:v=z->Bv P y σ Q) (q:σ.get c=.d (.lit (.bool b)):=by kernel_rfl):Bv P (.cond c .skip y) σ Q:=Dw h (fun e=>GL (ht e)) j q
def BH {A:Type} {b:AZ} {u v z:A} (h:(bif b then u else v)=z) (ht:u=z->Bv P x σ Q) (j:v=z->Q .normal σ) (q:σ.get c=.d (.lit (.bool b)):=by kernel_rfl):Bv P (.cond c x .skip) σ Q:=Dw h ht (fun e=>GL (j e)) q
end
section
variable {P:Ce} {ops:C9 Oper} {o:Oper} {rest:A8 Oper} {σ σ':BO} {K:Exit->BO->Prop} {ns:A8 (CM×Af)} {x:Af} {es':A8 Bd}
def Dv.f (h:CQ P o ns σ.ents x es') (k:Dv P ops rest (σ.put o.dst x es') K) (j:(ns.map fun n=>σ.get n.1)=ns.map (·.2):=by kernel_rfl) (q:JD ops σ o.guard=some true:=by kernel_rfl) (ht:(NJ ns).all (tmpsOf o).contains=true:=by kernel_rfl):Dv P ops (o::rest) σ K:=Dv.e es' h k rfl j q ht
def Chain.f (h:CQ P o ns σ.ents x es') (k:Chain P ops rest (σ.put o.dst x es') σ') (j:(ns.map fun n=>σ.get n.1)=ns.map (·.2):=by kernel_rfl) (q:JD ops σ o.guard=some true:=by kernel_rfl):Chain P ops (o::rest) σ σ':=Chain.e es' h k rfl j q
def FZ.f {rs:A8 Af} {ess:A8 (A8 Bd)} {bs:A8 AZ} (h:CQ P o ns σ.ents x es') (k:FZ P ops rest (σ.put o.dst x es') rs ess bs σ') (j:(ns.map fun n=>σ.get n.1)=ns.map (·.2):=by kernel_rfl) (q:JD ops σ o.guard=some true:=by kernel_rfl)
 (ht:(NJ ns).all (tmpsOf o).contains=true:=by kernel_rfl):FZ P ops (o::rest) σ (x::rs) (es'::ess) (true::bs) σ':=FZ.e es' h k rfl j q ht
end
def X7 {A:Type} {b:AZ} {u v z:A} (h:(bif b then u else v)=z):(b=true/\u=z)\/(b=false/\v=z):=by
 cases b with
 |true=>exact .inl ⟨rfl,h⟩
 |false=>exact .inr ⟨rfl,h⟩
def CV {A:Type} {a b:A} (h:some a=some b):a=b:=Dq h
def dY {α β γ:Type} {x:AL α} {y:α->AL β} {f:α->β->AL γ} {z:γ} (h:(x.bind fun a=>(y a).bind (f a))=some z):∃a,x=some a/\∃b,y a=some b/\f a b=some z:=by
 obtain⟨a,j,h⟩:=EM h;obtain⟨b,q,h⟩:=EM h;exact⟨a,j,b,q,h⟩
def a0M {α β γ δ:Type} {x:AL α} {y:α->AL β} {w:α->β->AL δ} {f:α->β->δ->AL γ} {z:γ} (h:(x.bind fun a=>(y a).bind fun b=>(w a b).bind (f a b))=some z):∃a,x=some a/\∃b,y a=some b/\∃d,w a b=some d/\f a b d=some z:=by
 obtain⟨a,j,b,q,h⟩:=dY h;obtain⟨d,u,h⟩:=EM h;exact⟨a,j,b,q,d,u,h⟩
def AP {α β:Type} {x:AL α} {f:α->AL β} {z:β} {G:Prop} (h:x.bind f=some z) (k:∀a,x=some a->f a=some z->G):G:=by
 obtain⟨a,j,h⟩:=EM h;exact k a j h
def CJ {α β γ:Type} {x:AL α} {y:α->AL β} {f:α->β->AL γ} {z:γ} {G:Prop} (h:(x.bind fun a=>(y a).bind (f a))=some z) (k:∀a,x=some a->∀b,y a=some b->f a b=some z->G):G:=by
 obtain⟨a,j,b,q,h⟩:=dY h;exact k a j b q h
def Io {α β γ δ:Type} {x:AL α} {y:α->AL β} {w:α->β->AL δ} {f:α->β->δ->AL γ} {z:γ} {G:Prop} (h:(x.bind fun a=>(y a).bind fun b=>(w a b).bind (f a b))=some z) (k:∀a,x=some a->∀b,y a=some b->∀d,w a b=some d->f a b d=some z->G):G:=by
 obtain⟨a,j,b,q,d,u,h⟩:=a0M h;exact k a j b q d u h
section
variable {P:Ce} {o:Oper} {es:A8 Bd} {α:Type}
def BN {x y:CM} {t e:CG} {i:Int} {agg:AZ} {size:Nat} (enc:α->D) {l:A8 α} {a:α} (h:Ak l i=some a) (ht:P.underlying t=some (.slice e)) (j:Em P e agg size) (q:o.op=.indexAddr t x y) (hs:(enc a).cells.length=size:=by kernel_rfl):
 CQ P o [(x,.d (Bo enc l)),(y,.d (.lit (.int .i64 i)))] es (.d (.ref (enc a).cells 0)) es:=nK enc h ht j hs q
def EP {t e:CG} {size q len:Nat} {z:Au} (hE:Hf P t e size q) (J:(P.info? e).bind (·.zero)=some z) (ys:A8 D) {j:C9 (Nat×CM)} (L:o.op=.buildSlice t len j) (M:z.cells.all (·.oneCell')=true:=by kernel_rfl) (u:z.cells.size=size:=by kernel_rfl) (hlen:Nat.ble (len*size) 16777216=true:=by kernel_rfl)
 (hp:OI (fun i=>some (i*size,size)) (len*size) j.toList (ys.map .d)=true:=by kernel_rfl) (O:Kr (fun i=>some (i*size,size)) (Qm z (len*size)) j.toList (ys.map .d)=flat ys:=by kernel_rfl) (hl:ys.length=len:=by kernel_rfl) (I:ys.all (fun y=>y.cells.length=size)=true:=by kernel_rfl):
 CQ P o (Np j.toList (ys.map .d)) es (.d (.sl ys)) es:=aSi hE J M u (Dt hlen) (ys.map .d) ys hp O hl I L
def Hq {t e:CG} {size q len:Nat} {z:Au} (hE:Hf P t e size q) (J:(P.info? e).bind (·.zero)=some z) (ys:A8 D) {j:C9 (Nat×CM)} (L:o.op=.buildSlice t len j) (M:z.cells.all (·.oneCell')=true:=by kernel_rfl) (u:z.cells.size=size:=by kernel_rfl) (hlen:Nat.ble (len*size) 16777216=true:=by kernel_rfl)
 (hp:OI (fun i=>some (i*size,size)) (len*size) j.toList (ys.map .d)=true:=by kernel_rfl) (O:Kr (fun i=>some (i*size,size)) (Qm z (len*size)) j.toList (ys.map .d)=flat ys:=by kernel_rfl) (hl:ys.length=len:=by kernel_rfl) (I:ys.all (fun y=>y.cells.length=size)=true:=by kernel_rfl):
 CQ P o (Np j.toList (ys.map .d)) es (.aO es.length) (es++[.arr e size ys]):=aIC hE J M u (Dt hlen) (ys.map .d) ys hp O hl I L
def Dv.aM {ops:C9 Oper} {l:A8 Oper} {σ:BO} {K:Exit->BO->Prop} [T:Kn P] {M:BO->Prop} (n:Nat) (k:M (Oj (Gv T ops n l σ))) (hl:l.length=n:=by kernel_rfl) (h:(Gv T ops n l σ).isSome=true:=by kernel_rfl):Dv P ops l σ (Jp M K):=
 .a n (by rw[aDF (aV hl)];exact .aY k) h
end
def Eo {A:Type} {b:AZ} {u v z:A} {G:Prop} (h:(bif b then u else v)=z) (j:b=true->u=z->G) (k2:b=false->v=z->G):G:=by
 rcases X7 h with⟨e,h⟩|⟨e,h⟩
 ·exact j e h
 exact k2 e h
def aa3 {A:Type} (o:AL A) (f:A->Af):Af:=match o with
 |none=>.d (.lit (.pointer none))
 |some a=>f a
def ael {A:Type} (o:AL A) (f:A->A8 Bd):A8 Bd:=match o with
 |none=>[]
 |some a=>f a
def jd {A B:Type} (o:AL A) (x:AL B) (f:A->AL B):AL B:=match o with
 |none=>x
 |some a=>f a
def aTq {A B:Type} {x z:AL B} {f:A->AL B} (h:jd none x f=z):x=z:=h
def aVS {A B:Type} {x z:AL B} {a:A} {f:A->AL B} (h:jd (some a) x f=z):f a=z:=h
section
variable {P:Ce} {o:Oper} {es:A8 Bd}
def aPp {t t':CG} {x y:CM} {k off:Nat} (ht:P.underlying t=some (.pointer (P.pointee t))) (I:o.op=.binOp .eql t x y t'):CQ P o [(x,.ptr k off),(y,.d (.lit (.pointer none)))] es (.d (EY false)) es:=
 .pure fun _ _ a w _ _ q=>⟨.bool false,by
  have j:=(FI q).1;have z:=(FI q).2.lit;simp only at j z;generalize J:a.eval x=u at j;cases j with
  |ptr _ _ b s M=>
   have L:(eqGuard .eql t x y (Value.pointer (some ⟨b,off,none⟩)) (.pointer none)).run P w=.ok () w:=by
    unfold eqGuard;simp[pure,Sem.run_pure']
   simp only[execOp,I,J,z,G6,L,GY,run_eql_pointer_nil w t _ ht,Gy]
   rfl,.d _ _ (.lit _)⟩
def aSU {t t':CG} {x y:CM} (ht:P.underlying t=some (.pointer (P.pointee t))) (z:o.op=.binOp .eql t x y t'):CQ P o [(x,.d (.lit (.pointer none))),(y,.d (.lit (.pointer none)))] es (.d (EY true)) es:=
 .pure fun _ _ a w _ _ j=>⟨.bool true,by
  have q:=(FI j).1.lit;have u:=(FI j).2.lit;simp only at q u
  have I:(eqGuard .eql t x y (Value.pointer none) (.pointer none)).run P w=.ok () w:=by
   unfold eqGuard;simp[pure,Sem.run_pure']
  simp only[execOp,z,q,u,G6,I,GY,run_eql_pointer_nil w t _ ht,Gy]
  rfl,.d _ _ (.lit _)⟩
end
def aMS :A8 ResultVar->AZ
 | []=>true
 | .tmp _::rs=>aMS rs
 |_::_=>false
def aDo (σ:BO):A8 ResultVar->A8 Af
 | []=>[]
 | .tmp t::rs=>σ.slots.getD t .junk::aDo σ rs
 |_::rs=>.junk::aDo σ rs
def aRt {P:Ce} {σ:BO}:∀{rs:A8 ResultVar},aMS rs=true->ZE P σ rs (aDo σ rs)
 | [],_=>trivial
 | .tmp _::_,h=>⟨rfl,aRt h⟩
def FQ {P:Ce} {σ:BO} {rs:A8 ResultVar} {j:Af} {E':A8 Bd} (π:A8 (Nat×AZ)) (ha:aMS rs=true:=by kernel_rfl) (q:Ut σ.base σ.ents π=true:=by kernel_rfl) (u:j=(l9 (aDo σ rs)).back π:=by kernel_rfl) (z:E'=Sl σ.ents π:=by kernel_rfl):
 ∃xs π,ZE P σ rs xs/\Ut σ.base σ.ents π=true/\j=(l9 xs).back π/\E'=Sl σ.ents π:=⟨_,π,aRt ha,q,u,z⟩
def TQ :Nat->Nat->A8 (Nat×Nat×Nat)
 |0,_=>[]
 |n+1,x=>(x % 2048,x/2048 % 64,x/131072 % 2048)::TQ n (x/268435456)
def aHs :A8 (Nat×Nat×Nat)->A8 (A8 Nat)->Nat->A8 (A8 Nat)
 | [],N,_=>N
 |t::Tr,N,n=>bif Nat.beq t.2.2 n then aHs Tr (N++[t.2.1::N.getD t.1 []]) (n+1)else aHs Tr N n
def PG (n x:Nat):A8 (A8 Nat):=aHs (TQ n x) [[]] 1
section
variable {P:Ce} [T:Kn P] {id:Nat} {ops:C9 Oper} {σ:BO} {Q:Exit->BO->Prop} {y:Code}
def Bv.aE3 (L:A8 (LM P)) (n x j:Nat) (q:Q .normal (KD T L ops σ ((PG n x).getD j []))) (hm:P.follows .mixedOrders=true:=by kernel_rfl) (u:dG ops (PG n x) (TQ n x) [j]=true:=by kernel_rfl)
 (z:((TQ n x).map fun t=>U5 T L ops (KD T L ops σ ((PG n x).getD t.1 [])) t.2.1)=(TQ n x).map fun t=>some (KD T L ops σ ((PG n x).getD t.2.2 []),Vg L t.2.1):=by kernel_rfl) (I:(PG n x).getD 0 [0]=[]:=by kernel_rfl):Bv P (.region id ops true) σ Q:=
 Bv.node1 L _ _ j q hm u I z
def Bv.atx (L:A8 (LM P)) (n x j:Nat) (q:Bv P y (KD T L ops σ ((PG n x).getD j [])) Q) (hm:P.follows .mixedOrders=true:=by kernel_rfl) (u:dG ops (PG n x) (TQ n x) [j]=true:=by kernel_rfl)
 (z:((TQ n x).map fun t=>U5 T L ops (KD T L ops σ ((PG n x).getD t.1 [])) t.2.1)=(TQ n x).map fun t=>some (KD T L ops σ ((PG n x).getD t.2.2 []),Vg L t.2.1):=by kernel_rfl) (I:(PG n x).getD 0 [0]=[]:=by kernel_rfl):Bv P (.seq (.region id ops true) y) σ Q:=
 Bv.aGc L _ _ j q hm u I z
def Bv.aty (L:A8 (LM P)) (n x:Nat) (F:A8 Nat) (j:BO) (q:RY (fun k=>tJ (KD T L ops σ ((PG n x).getD k [])) j) F) (u:Bv P y j Q) (hm:P.follows .mixedOrders=true:=by kernel_rfl) (z:dG ops (PG n x) (TQ n x) F=true:=by kernel_rfl)
 (I:((TQ n x).map fun t=>U5 T L ops (KD T L ops σ ((PG n x).getD t.1 [])) t.2.1)=(TQ n x).map fun t=>some (KD T L ops σ ((PG n x).getD t.2.2 []),Vg L t.2.1):=by kernel_rfl) (J:(PG n x).getD 0 [0]=[]:=by kernel_rfl):Bv P (.seq (.region id ops true) y) σ Q:=
 Bv.aGd L _ _ F j q u hm z J I
end
end
end Go.Proofs.YtkkdimcnpacjhaaGreat
section
namespace Go
open Go.Proofs.YtkkdimcnpacjhaaGreat
variable {P:Ce}
end Go
namespace Go.Proofs.YtkkdimcnpacjhaaGreat
open Go.Proofs.Tryz
open Go.Shelf Go.RowKit Go.Lib
section
variable {P:Ce} {o:Oper} {es:A8 Bd}
def VJ (x y:Int):Int:=bif y<x then y else x
def anB {x y:CM} {ats:C9 CG} {kd:IntKind} {a b:Int} (z:o.op=.call { callee:=.builtin .min,args:= #[x,y],argTypes:=ats }):
 CQ P o [(x,.d (.lit (.int kd a))),(y,.d (.lit (.int kd b)))] es (.d (.lit (.int kd (VJ a b)))) es:=
 .pure fun ok H c w _ _ j=>by
  have q:=(FI j).1.lit;have u:=(FI j).2.lit;simp only at q u;have e:VJ a b=if b<a then b else a:=by unfold VJ;by_cases h:b<a<;>simp[h]
  refine⟨.int kd (VJ a b),?_,.d _ _ (.lit _)⟩;rw[e];simp[execOp,z,resolve,invoke,builtin,q,u,Go.run_min_int2]
end
set_option linter.unusedVariables false
set_option linter.unusedSimpArgs false
def ai0 {ok:Nat->Prop} {w:BU} {H:A8 CP} {xs:A8 Af} {vs:A8 Au} (h:Fj ok w H xs vs) (n:Nat):Fj ok w H (xs.take n) (vs.take n):=by
 refine⟨by rw[GK,GK,h.1],fun i hi=>?_⟩;rw[GK]at hi;have :=h.2 i AB;rw[pI,pI]at this ⊢;rw[NC AB,NC AB];exact this
def al4 {ok:Nat->Prop} {w:BU} {H:A8 CP} {xs:A8 Af} {vs:A8 Au} (h:Fj ok w H xs vs) (n:Nat):Fj ok w H (xs.drop n) (vs.drop n):=by
 refine⟨by rw[L6,L6,h.1],fun i hi=>?_⟩;rw[L6]at hi;have :=h.2 (n+i) AB;rw[pI,pI]at this ⊢;rw[UQ,UQ];exact this
def ag6 {ok:Nat->Prop} {w:BU} {H:A8 CP} {xs:A8 Af} {vs:A8 Au} (h:Fj ok w H xs vs):∀u∈vs,u.oneCell'=true:=fun u q=>by
 obtain⟨i,hi,rfl⟩:=I5 q;have j:=h.2 i (by rw[←h.1];exact hi);have :=j.2.leaf j.1
 rwa [pI,EL hi]at this
end Go.Proofs.YtkkdimcnpacjhaaGreat
end
namespace Go.Proofs.YtkkdimcnpacjhaaGreat
open Go.Proofs.Tryz
section
open Go.RowKit Go.Sort
section
variable {β:Type} {e:β->D} {k:Nat} {ok:Nat->Prop} {w:BU} {H:A8 CP}
def aQ4 (u:∀x,(e x).cells.length=k):∀(l:A8 β) (xs:A8 Au),Fj ok w H (flat (l.map e)) xs->∃z:A8 (β×A8 Au),z.map (·.1)=l/\z.flatMap (·.2)=xs/\∀p∈z,Fj ok w H ((e p.1).cells.map .d) p.2
 | [],xs,h=>by
   have j:xs.length=0:=h.1;exact⟨[],rfl,(Hg j).symm,fun p hp=>absurd hp G5⟩
 |x::l,xs,h=>by
  rw[JR,Y0]at h;have hl:((e x).cells.map Af.d).length=k:=by rw[Dc,u]
  have j:=ai0 h k;have q:=al4 h k;rw[←hl,aCG]at j;rw[←hl,List.drop_left]at q;rw[hl]at j q;obtain⟨z,I,J,L⟩:=aQ4 u l _ q;refine⟨(x,xs.take k)::z,by rw[JR,I],by rw[OD,J,Rs],fun p hp=>?_⟩;rcases FK.1 hp with rfl|hp
  ·exact j
  exact L p hp
def aSn :∀(z:A8 (β×A8 Au)),(∀p∈z,Fj ok w H ((e p.1).cells.map .d) p.2)->Fj ok w H (flat ((z.map (·.1)).map e)) (z.flatMap (·.2))
 | [],_=>⟨rfl,fun i hi=>absurd hi (Nat.not_lt_zero i)⟩
 |p::z,h=>by
  rw[JR,JR,Y0,OD];exact aMl (h p (H8 ..)) (aSn z fun q j=>h q (IG _ j))
end
def Ed.aBM {β:Type} {P:Ce} {f g:FuncId} {T:CG} {k:Nat} {e:β->D} (hk:∀x,(e x).cells.length=k) {l r:A8 β}
 (h:∀(ok:Nat->Prop) (H:A8 CP) (v:Au) (w:BU) (z:A8 (β×A8 Au)),z.map (·.1)=l->(∀p∈z,Fj ok w H ((e p.1).cells.map .d) p.2)->oq w T k v l.length (z.flatMap (·.2))->
  Calls P f #[v,.func (.func g) #[] #[]] w fun x w'=>x=.returned (.tuple #[])/\∃Z:A8 (β×A8 Au),(∀p∈Z,p∈z)/\Z.map (·.1)=r/\oq w' T k v r.length (Z.flatMap (·.2))/\Turns v w w'):
 Ed P f [.aO 0,.d (.fn (.func g) [] [])] [.arr T k (l.map e)] (.fC []) [.arr T k (r.map e)]:=by
 intro ok X H w J hm hs ha;have h0:=ha 0 Bh;have Y:=ha 1 Bh;rw[aU9 hs];obtain⟨hd,hh,hok⟩:=Hl hm.ent hm.hlen (k:=0) rfl;obtain hv:=QU h0 hh
 have hf:J.getD 1 undef=.func (.func g) #[] #[]:=by
  simp only[List.getD,aC2,aGk,Oq]at Y;generalize J.getD 1 undef=u at Y;cases Y with
  |d _ _ Y=>
   cases Y with
   |fn _ _ _ vs us hl hm'=>
    have e1:vs= #[]:=WT NG;have e2:us= #[]:=WT (by simpa using hm');rw[e1,e2]
 rw[hv,hf];obtain⟨hz,hcl,xs,L,hrs⟩:=hok;rw[Dc]at L;obtain⟨z,z1,z2,z3⟩:=aQ4 hk l xs hrs;rw[←z2]at L;refine(h ok H hd.v w z z1 z3 L).mono ?_;rintro x w' ⟨rfl,Z,p1,p2,aHf,ht⟩;have I:=fun b hb=>hm.blk 0 _ hd b rfl rfl hh hb
 have M:Et ok w ok w':=(hm.change (ok':=ok) (H':=H) (w':=w') (es':=[.dead]) (fun c=>EK hd.v=some c) ht.os ht.tape ht.output ht.size ht.block (fun c hc _=>⟨(I c hc).1,(I c hc).2.2⟩) (fun _ h=>h) (fun _ h=>.inl h) (.refl _) hm.hlen (by
  intro j e' h' q O
  match j,q with
  |0,q=>
   simp at q;subst q;exact .inr ⟨trivial,fun hl=>by cases hl⟩
  |k+1,q=>simp at q)).2
 have hg:=hm.change (ok':=ok) (H':=H) (w':=w') (es':=[.arr T k (r.map e)]) (fun c=>EK hd.v=some c) ht.os ht.tape ht.output ht.size ht.block (fun c hc _=>⟨(I c hc).1,(I c hc).2.2⟩) (fun _ h=>h) (fun _ h=>.inl h) (.refl _) hm.hlen (by
  intro j e' h' q O
  match j,q with
  |0,q=>
   simp at q;subst q;rw[hh]at O;obtain rfl:=Dq O;refine .inr ⟨⟨hz,fun x hx=>?_,_,by rw[Dc];exact aHf,?_⟩,fun _ b hb=>⟨(I b hb).1,Ur (I b hb).2.1 ht.size,(I b hb).2.2,fun k' e'' h'' hne U=>?_⟩⟩
   ·obtain⟨y,_,rfl⟩:=Fh.1 hx;exact hk y
   ·rw[←p2];exact aSn Z fun p hp=>(z3 p (p1 p hp)).mono M (.refl _)
   match k',U with
   |0,_=>exact absurd rfl hne
   |k'+1,U=>simp at U
  |k+1,q=>simp at q)
 exact⟨_,ok,H,rfl,hg.1,.fC [] #[] rfl (fun i hi=>PV)⟩
end
section
section
variable {P:Ce} {o:Oper} {es:A8 Bd}
def KL {f:FuncId} {ops:C9 CM} {ats:C9 CG} (eH:A8 Af) {fH:A8 Af} {j res':Af} {E':A8 Bd} (q:Ed P f fH [] j E') (u:o.op=.call { callee:=.value (.func f),args:=ops,argTypes:=ats }) (z:Hd P f=true:=by kernel_rfl) (I:E'.all Bd.closed=true:=by kernel_rfl)
 (ha:Nb [] eH fH:=by repeat (first|exact trivial|refine⟨.inl rfl,?_⟩|refine⟨.inr (.inr ⟨rfl,rfl⟩),?_⟩)) (hl:ops.toList.length=eH.length:=by kernel_rfl) (J:j.up [] es.length=res':=by kernel_rfl):CQ P o (G7 ops.toList eH) es res' (es++E'):=aX1 q z I ha hl J u
def aBq {f:FuncId} {ops:C9 CM} {ats:C9 CG} (eH:A8 Af) {fH:A8 Af} {j res':Af} (q:Ed P f fH [] j []) (u:o.op=.call { callee:=.value (.func f),args:=ops,argTypes:=ats }) (z:Hd P f=true:=by kernel_rfl)
 (ha:Nb [] eH fH:=by repeat (first|exact trivial|refine⟨.inl rfl,?_⟩|refine⟨.inr (.inr ⟨rfl,rfl⟩),?_⟩)) (hl:ops.toList.length=eH.length:=by kernel_rfl) (I:j.up [] es.length=res':=by kernel_rfl):CQ P o (G7 ops.toList eH) es res' es:=aWg q z ha hl I u
def EX {f:FuncId} {ops:C9 CM} {ats:C9 CG} (srcs:A8 EU) (eH:A8 Af) {fH:A8 Af} {E E':A8 Bd} {j res':Af} (q:Ed P f fH E j E') (u:o.op=.call { callee:=.value (.func f),args:=ops,argTypes:=ats }) (z:Hd P f=true:=by kernel_rfl) (I:TN srcs es E E'=true:=by kernel_rfl)
 (hE:RG srcs es srcs E:=by first|exact trivial|exact Qy AA trivial) (ha:Nb srcs eH fH:=by repeat (first|exact trivial|refine⟨.inl rfl,?_⟩|refine⟨⟨0,rfl,rfl⟩,?_⟩|refine⟨⟨1,rfl,rfl⟩,?_⟩|refine⟨⟨2,rfl,rfl⟩,?_⟩|refine⟨.inr (.inr ⟨rfl,rfl⟩),?_⟩)) (hl:ops.toList.length=eH.length:=by kernel_rfl)
 (J:res'=j.up srcs es.length:=by kernel_rfl):CQ P o (G7 ops.toList eH) es res' (MW srcs es E'):=ajq srcs q z I hE ha hl J u
def ah {f:FuncId} {x:CM} {ops:C9 CM} {ats:C9 CG} (srcs:A8 EU) (fi ca eH:A8 Af) {fH:A8 Af} {E E':A8 Bd} {j res':Af} (q:Ed P f fH E j E') (u:o.op=.call { callee:=.value x,args:=ops,argTypes:=ats }) (z:Hd P f=true:=by kernel_rfl) (I:TN srcs es E E'=true:=by kernel_rfl)
 (hE:RG srcs es srcs E:=by first|exact trivial|exact Qy AA trivial) (ha:Nb srcs (fi++eH++ca) fH:=by repeat (first|exact trivial|refine⟨.inl rfl,?_⟩|refine⟨⟨0,rfl,rfl⟩,?_⟩|refine⟨⟨1,rfl,rfl⟩,?_⟩|refine⟨⟨2,rfl,rfl⟩,?_⟩|refine⟨.inr (.inr ⟨rfl,rfl⟩),?_⟩)) (hl:ops.toList.length=eH.length:=by kernel_rfl)
 (J:res'=j.up srcs es.length:=by kernel_rfl):CQ P o ((x,.fn (.func f) fi ca)::G7 ops.toList eH) es res' (MW srcs es E'):=adC srcs fi ca q z I hE ha hl J u
def aRI {f:FuncId} {x:CM} {ops:C9 CM} {ats:C9 CG} (srcs:A8 EU) (fi ca:A8 D) (eH:A8 Af) {fH:A8 Af} {E E':A8 Bd} {j res':Af} (q:Ed P f fH E j E') (u:o.op=.call { callee:=.value x,args:=ops,argTypes:=ats }) (z:Hd P f=true:=by kernel_rfl) (I:TN srcs es E E'=true:=by kernel_rfl)
 (hE:RG srcs es srcs E:=by first|exact trivial|exact Qy AA trivial) (ha:Nb srcs (fi.map .d++eH++ca.map .d) fH:=by repeat (first|exact trivial|refine⟨.inl rfl,?_⟩|refine⟨⟨0,rfl,rfl⟩,?_⟩|refine⟨⟨1,rfl,rfl⟩,?_⟩|refine⟨⟨2,rfl,rfl⟩,?_⟩|refine⟨.inr (.inr ⟨rfl,rfl⟩),?_⟩)) (hl:ops.toList.length=eH.length:=by kernel_rfl)
 (J:res'=j.up srcs es.length:=by kernel_rfl):CQ P o ((x,.d (.fn (.func f) fi ca))::G7 ops.toList eH) es res' (MW srcs es E'):=amA srcs fi ca q z I hE ha hl J u
end
section
variable {P:Ce} {ops:C9 Oper} {o:Oper} {rest l:A8 Oper} {σ:BO} {K:Exit->BO->Prop}
def Dv.ca {f:FuncId} {eH:A8 Af} {j:Af} (q:Ed P f eH [] j []) (k:Dv P ops rest (σ.sG o.dst (j.up [] σ.ents.length)) K) (u:Hd P f=true:=by kernel_rfl) (z:UU σ o=some (f,eH):=by kernel_rfl)
 (hd:eH.all Af.Bf=true:=by kernel_rfl) (I:JD ops σ o.guard=some true:=by kernel_rfl):Dv P ops (o::rest) σ K:=.call q u k z hd I
def FZ.ca {σ':BO} {f:FuncId} {eH:A8 Af} {j:Af} {rs:A8 Af} {ess:A8 (A8 Bd)} {bs:A8 AZ} (q:Ed P f eH [] j []) (k:FZ P ops rest (σ.sG o.dst (j.up [] σ.ents.length)) rs ess bs σ') (u:Hd P f=true:=by kernel_rfl) (z:UU σ o=some (f,eH):=by kernel_rfl)
 (hd:eH.all Af.Bf=true:=by kernel_rfl) (I:JD ops σ o.guard=some true:=by kernel_rfl):FZ P ops (o::rest) σ (j.up [] σ.ents.length::rs) (σ.ents::ess) (false::bs) σ':=.call q u k z hd I
end
section
variable {P:Ce} {ops:C9 Oper} {o:Oper} {rest l:A8 Oper} {σ:BO} {K:Exit->BO->Prop}
def Dv.aW [T:Kn P] {M:BO->Prop} (k:M (Oj (Gv T ops l.length l σ))) (h:(Gv T ops l.length l σ).isSome=true:=by kernel_rfl):Dv P ops l σ (Jp M K):=.aM l.length k rfl h
def Dv.Z [T:Kn P] {M:BO->Prop} {ns:A8 (CM×Af)} {x:Af} (h:CQ P o ns σ.ents x σ.ents) (k:M (Oj (Gv T ops rest.length rest (σ.sG o.dst x)))) (j:(ns.map fun n=>σ.get n.1)=ns.map (·.2):=by kernel_rfl) (q:JD ops σ o.guard=some true:=by kernel_rfl) (ht:(NJ ns).all (tmpsOf o).contains=true:=by kernel_rfl) (hh:(Gv T ops rest.length rest (σ.sG o.dst x)).isSome=true:=by kernel_rfl):Dv P ops (o::rest) σ (Jp M K):=Dv.p h (Dv.aW k hh) j q ht
def Dv.Y [T:Kn P] {M:BO->Prop} {ns:A8 (CM×Af)} {x:Af} {es':A8 Bd} (h:CQ P o ns σ.ents x es') (k:M (Oj (Gv T ops rest.length rest (σ.put o.dst x es')))) (j:(ns.map fun n=>σ.get n.1)=ns.map (·.2):=by kernel_rfl) (q:JD ops σ o.guard=some true:=by kernel_rfl) (ht:(NJ ns).all (tmpsOf o).contains=true:=by kernel_rfl) (hh:(Gv T ops rest.length rest (σ.put o.dst x es')).isSome=true:=by kernel_rfl):Dv P ops (o::rest) σ (Jp M K):=Dv.f h (Dv.aW k hh) j q ht
def Dv.X [T:Kn P] {M:BO->Prop} {f:FuncId} {eH:A8 Af} {j:Af} (q:Ed P f eH [] j []) (k:M (Oj (Gv T ops rest.length rest (σ.sG o.dst (j.up [] σ.ents.length))))) (u:Hd P f=true:=by kernel_rfl) (z:UU σ o=some (f,eH):=by kernel_rfl) (hd:eH.all Af.Bf=true:=by kernel_rfl) (I:JD ops σ o.guard=some true:=by kernel_rfl) (hh:(Gv T ops rest.length rest (σ.sG o.dst (j.up [] σ.ents.length))).isSome=true:=by kernel_rfl):Dv P ops (o::rest) σ (Jp M K):=Dv.ca q (Dv.aW k hh) u z hd I
def Dv.bi [T:Kn P] {A:Type} {b:AZ} {u v z:A} (h:(bif b then u else v)=z) (j:u=z->Dv P ops rest (σ.sG o.dst (.d (.lit (.bool true)))) K:=by exact fun h=>.aW<|D7) (k2:v=z->Dv P ops rest (σ.sG o.dst (.d (.lit (.bool false)))) K:=by exact fun h=>.aW<|D7)
 (hs:(Wj T ops σ o).map (fun r=>(r.x,r.E,r.bar))=some (.d (.lit (.bool b)),σ.ents,false):=by kernel_rfl):Dv P ops (o::rest) σ K:=Eo h (fun e h=>.c (BK some e) (j h) hs) fun e h=>.c (BK some e) (k2 h) hs
def DW {A:Type} {b:AZ} {u v z:A} {G:Prop} (h:(bif b then u else v)=z) (j:b=true->u=z->G:=by exact fun e i=>aX0) (k2:b=false->v=z->G:=by exact fun e i=>aX0):G:=Eo h j k2
def AY [T:Kn P] {id:Nat} {y:Code} {Q:Exit->BO->Prop} (k:Bv P y (Oj (Gv T ops ops.toList.length ops.toList σ)) Q) (h:(Gv T ops ops.toList.length ops.toList σ).isSome=true:=by kernel_rfl):Bv P (.seq (.region id ops false) y) σ Q:=BR (.aW k h)
end
section
variable {P:Ce} {ops:C9 Oper} {l:A8 Oper} {σ:BO} {K:Exit->BO->Prop}
def Dv.mg (a c:Nat) (x:Af) (j:Dv P ops (l.take (c+1)) σ (Jp (fun s=>s.wipe (List.range' a c)=(σ.wipe (List.range' a c)).sG (some (a+c)) x) K)) (q:Dv P ops (l.drop (c+1)) ((σ.wipe (List.range' a c)).sG (some (a+c)) x) K):Dv P ops l σ K:=.merge (c+1) (List.range' a c) (a+c) x j q
end
def Ac {σ S:BO} (n w:Nat) (π:A8 (Nat×AZ)) (j:Ut σ.base σ.ents π=true:=by kernel_rfl) (q:S=⟨MR π (mk n w) σ.slots,Sl σ.ents π,σ.base⟩:=by kernel_rfl):CX σ S:=aiz (mk n w) π j q
def Om {α β:Type} {y:α} {g:α->AL (Except Au β)} {r:Except Au β} (h:Ll (.ok y) g=some r):g y=some r:=h
def Oy {α β:Type} {u:Au} {g:α->AL (Except Au β)} {r:Except Au β} (h:Ll (.error u) g=some r):some (.error u)=some r:=h
def CS :BD:=⟨#[]⟩
def mD (k:IntKind) (n:Int):D:=.lit (.int k n)
def gI :BD:=⟨#[58]⟩
def vV :BD:=⟨#[33]⟩
def xR :BD:=⟨#[64]⟩
def zW :BD:=⟨#[64,33]⟩
def a1p :BD:=⟨#[33,114,58,97]⟩
def W9 :BD:=⟨#[64,97,110,110,58,97]⟩
def aTM :BD:=⟨#[64,98,111,98,58,98]⟩
def J7 :BD:=⟨#[84,101,120,116]⟩
def JV :BD:=⟨#[78]⟩
def Lr :BD:=⟨#[86,105,97]⟩
def Ln :BD:=⟨#[76,101,118,101,108,115]⟩
def Kw :BD:=⟨#[65,108,108,111,119]⟩
def Ls :BD:=⟨#[68,101,110,121]⟩
def JH :BD:=⟨#[84,97,114,103,101,116]⟩
def MN :BD:=⟨#[84,104,114,101,97,100]⟩
def DK :Au:=.int .i64 0
def Dl :Au:=.string CS
def FP :Au:=.slice none 0 0
def aBs :Au:=.agg #[FP,FP,DK,DK,DK,DK,DK,DK,DK]
def a08 :Au:=.agg #[Dl,DK,DK,.bool false,Dl,FP,FP,FP,FP,DK,DK,DK,DK,DK,DK,DK]
def aEx :Au:=.agg #[Dl,DK]
def aAS :Au:=.agg #[DK,Dl,Dl,DK,.bool false,Dl,DK,DK,FP,FP,Dl,DK,DK,.bool false,Dl,FP,FP,FP,FP,DK,DK,DK,DK,DK,DK,DK,DK,Dl,DK]
def aAb :Au:=.agg #[DK,DK,DK]
def a1s :Au:=.agg #[.map none,.map none,.map none]
def aFF :Au:=.agg #[Dl,DK]
def aTX :Au:=.agg #[DK,DK]
def aEd :Au:=.agg #[DK,Dl,DK]
def aEy :Au:=.agg #[DK,Dl,Dl,DK,.bool false,Dl,DK,DK,FP,FP,Dl,DK,DK,.bool false,Dl,FP,FP,FP,FP,DK,DK,DK,DK,DK,DK,DK,DK,Dl,DK,DK,Dl,Dl,DK,.bool false,Dl,DK,DK,FP,FP,Dl,DK,DK,.bool false,Dl,FP,FP,FP,FP,DK,DK,DK,DK,DK,DK,DK,DK,Dl,DK,DK,Dl,Dl,DK,.bool false,Dl,DK,DK,FP,FP,Dl,DK,DK,.bool false,Dl,FP,FP,FP,FP,DK,DK,DK,DK,DK,DK,DK,DK,Dl,DK,DK,Dl,Dl,DK,.bool false,Dl,DK,DK,FP,FP,Dl,DK,DK,.bool false,Dl,FP,FP,FP,FP,DK,DK,DK,DK,DK,DK,DK,DK,Dl,DK]
def aBp :Au:=.agg #[DK]
def aTg :Au:=.agg #[FP,FP,FP]
def aBR :Au:=.agg #[DK,Dl]
def a1n :Au:=.agg #[DK,.nilFunc]
def aCJ :Au:=.agg #[DK,FP,FP,DK]
def aB4 :Au:=.agg #[DK,DK]
def aAp :Au:=.agg #[FP]
def aED :Au:=.agg #[DK,DK,DK,DK,DK]
def aFE :Au:=.agg #[DK,DK,DK,DK,DK,DK,DK]
def aEp :Au:=.agg #[FP,FP]
def Rep :Au:=.agg #[FP,FP]
def aE6 :Au:=.agg #[]
def aBu :Au:=.agg #[FP]
def aWT :Au:=.agg #[FP,FP,FP,FP,FP]
def aEL :Au:=.agg #[]
def aAQ :Au:=.agg #[DK,DK,DK,FP]
def aAf :Au:=.agg #[DK,DK,DK]
structure IJ where
 User:ByteArray
 N:Int
def Eb (x:IJ):D:=.agg [DV x.User,Ae x.N]
def aht :IJ:=⟨CS,0⟩
instance : Inhabited IJ:=⟨aht⟩
structure Jc where
 Kind:Int
 N:Int
def Ei (x:Jc):D:=.agg [Ae x.Kind,Ae x.N]
def amd :Jc:=⟨0,0⟩
instance : Inhabited Jc:=⟨amd⟩
structure Cc where
 Users:(List IJ)
 Kinds:(List Jc)
 User:Int
 Message:Int
 State:Int
 gy:Int
 jL:Int
 lV:Int
 gW:Int
def Ez (x:Cc):D:=.agg [(Bo Eb) x.Users,(Bo Ei) x.Kinds,Ae x.User,Ae x.Message,Ae x.State,Ae x.gy,Ae x.jL,Ae x.lV,Ae x.gW]
def Js :Cc:=⟨[],[],0,0,0,0,0,0,0⟩
instance : Inhabited Cc:=⟨Js⟩
structure D6 where
 Text:ByteArray
 N:Int
 Target:Int
 Thread:Bool
 Via:ByteArray
 Allow:(List ByteArray)
 gJ:(List ByteArray)
 Levels:Cc
def Fg (x:D6):D:=.agg [DV x.Text,Ae x.N,Ae x.Target,EY x.Thread,DV x.Via,(Bo DV) x.Allow,(Bo DV) x.gJ,(Bo Eb) x.Levels.Users,(Bo Ei) x.Levels.Kinds,Ae x.Levels.User,Ae x.Levels.Message,Ae x.Levels.State,Ae x.Levels.gy,Ae x.Levels.jL,Ae x.Levels.lV,Ae x.Levels.gW]
def ET :D6:=⟨CS,0,0,false,CS,[],[],Js⟩
instance : Inhabited D6:=⟨ET⟩
structure Ny where
 Server:ByteArray
 Sum:Int
def aOi (x:Ny):D:=.agg [DV x.Server,Ae x.Sum]
def eA :Ny:=⟨CS,0⟩
instance : Inhabited Ny:=⟨eA⟩
structure AV where
 Id:Int
 Room:ByteArray
 bF:ByteArray
 Kind:Int
 State:Bool
 Key:ByteArray
 Time:Int
 Depth:Int
 bI:(List Int)
 bQ:(List Int)
 Content:D6
 Hash:Int
 nU:Ny
def BI (x:AV):D:=.agg [Ae x.Id,DV x.Room,DV x.bF,Ae x.Kind,EY x.State,DV x.Key,Ae x.Time,Ae x.Depth,(Bo Ae) x.bI,(Bo Ae) x.bQ,DV x.Content.Text,Ae x.Content.N,Ae x.Content.Target,EY x.Content.Thread,DV x.Content.Via,(Bo DV) x.Content.Allow,(Bo DV) x.Content.gJ,(Bo Eb) x.Content.Levels.Users,(Bo Ei) x.Content.Levels.Kinds,Ae x.Content.Levels.User,Ae x.Content.Levels.Message,Ae x.Content.Levels.State,Ae x.Content.Levels.gy,Ae x.Content.Levels.jL,Ae x.Content.Levels.lV,Ae x.Content.Levels.gW,Ae x.Hash,DV x.nU.Server,Ae x.nU.Sum]
def DI :AV:=⟨0,CS,CS,0,false,CS,0,0,[],[],ET,0,eA⟩
instance : Inhabited AV:=⟨DI⟩
structure Fp where
 b_:(List Int)
def Lp (x:Fp):D:=.agg [(Bo Dn) x.b_]
def aC5 :Fp:=⟨[]⟩
instance : Inhabited Fp:=⟨aC5⟩
structure Oa where
 aBN:Int
 atz:Nat
def UZ (x:Oa):D:=.agg [Ae x.aBN,aW0 x.atz]
def af9 :Oa:=⟨0,0⟩
instance : Inhabited Oa:=⟨af9⟩
structure Sz where
 o7:Int
 ng:Int
def Jz (x:Sz):D:=.agg [Ae x.o7,Ae x.ng]
def aBb :Sz:=⟨0,0⟩
instance : Inhabited Sz:=⟨aBb⟩
structure BJ where
 Kind:Int
 Key:ByteArray
 Id:Int
def Ba (x:BJ):D:=.agg [Ae x.Kind,DV x.Key,Ae x.Id]
def aZb :BJ:=⟨0,CS,0⟩
instance : Inhabited BJ:=⟨aZb⟩
structure lG where
 anP:Int
def alY :lG:=⟨0⟩
instance : Inhabited lG:=⟨alY⟩
structure XU where
def tu (x:XU):D:=.agg []
def afO :XU:=⟨⟩
instance : Inhabited XU:=⟨afO⟩
structure Oh where
 Ej:(List BJ)
 akn:(List Int)
 atB:(List Int)
def dH (x:Oh):D:=.agg [(Bo Ba) x.Ej,(Bo Ae) x.akn,(Bo Ae) x.atB]
def aDT :Oh:=⟨[],[],[]⟩
instance : Inhabited Oh:=⟨aDT⟩
structure RZ where
 ng:Int
 I4:Int
 BM:Int
 atC:(List Int)
def LX (x:RZ):D:=.agg [Ae x.ng,Ae x.I4,Ae x.BM,(Bo Ae) x.atC]
def ac7 :RZ:=⟨0,0,0,[]⟩
instance : Inhabited RZ:=⟨ac7⟩
structure QN where
 Ya:Int
 Yb:ByteArray
def LQ (x:QN):D:=.agg [Ae x.Ya,DV x.Yb]
def aZR :QN:=⟨0,CS⟩
instance : Inhabited QN:=⟨aZR⟩
structure XV where
 asE:(List Int)
def qC (x:XV):D:=.agg [(Bo Ae) x.asE]
def ahs :XV:=⟨[]⟩
instance : Inhabited XV:=⟨ahs⟩
structure LJ where
 ng:Int
 zH:Int
 BM:Int
def OW (x:LJ):D:=.agg [Ae x.ng,Ae x.zH,Ae x.BM]
def aaq :LJ:=⟨0,0,0⟩
instance : Inhabited LJ:=⟨aaq⟩
structure aVF where
 Depth:Int
 Id:Int
 Target:Int
def abf :aVF:=⟨0,0,0⟩
instance : Inhabited aVF:=⟨abf⟩
structure UK where
 User:ByteArray
 Kind:Int
 Key:ByteArray
 Content:D6
 Time:Int
def X9 (x:UK):D:=.agg [DV x.User,Ae x.Kind,DV x.Key,DV x.Content.Text,Ae x.Content.N,Ae x.Content.Target,EY x.Content.Thread,DV x.Content.Via,(Bo DV) x.Content.Allow,(Bo DV) x.Content.gJ,(Bo Eb) x.Content.Levels.Users,(Bo Ei) x.Content.Levels.Kinds,Ae x.Content.Levels.User,Ae x.Content.Levels.Message,Ae x.Content.Levels.State,Ae x.Content.Levels.gy,Ae x.Content.Levels.jL,Ae x.Content.Levels.lV,Ae x.Content.Levels.gW,Ae x.Time]
def ako :UK:=⟨CS,0,CS,ET,0⟩
instance : Inhabited UK:=⟨ako⟩
structure Ie where
 Id:Int
 Before:(List BJ)
 After:(List BJ)
 Err:Int
def LG (x:Ie):D:=.agg [Ae x.Id,(Bo Ba) x.Before,(Bo Ba) x.After,Ae x.Err]
def VL :Ie:=⟨0,[],[],0⟩
instance : Inhabited Ie:=⟨VL⟩
structure Oz where
 Same:(List BJ)
 Power:(List Int)
 First:(List BJ)
 Others:(List Int)
 Last:(List BJ)
def aA (x:Oz):D:=.agg [(Bo Ba) x.Same,(Bo Ae) x.Power,(Bo Ba) x.First,(Bo Ae) x.Others,(Bo Ba) x.Last]
def WI :Oz:=⟨[],[],[],[],[]⟩
instance : Inhabited Oz:=⟨WI⟩
structure aVM where
 Room:ByteArray
 User:ByteArray
 Time:Int
 Rule:Int
 Visibility:Int
def ajK :aVM:=⟨CS,CS,0,0,0⟩
instance : Inhabited aVM:=⟨ajK⟩
def agq :ED Am 39 10 10:=EN AA
def TR :Em Am 30 true 16:=Gp AA
def zero30 :(Am.info? 30).bind (·.zero)=some (a08):=AA
def adB :ED Am 39 8 8:=EN AA
def aD1 :Em Am 35 false 1:=Gp AA
def Bg :Am.underlying 35=some (.slice 3):=AA
def amv :ED Am 39 9 9:=EN AA
def agS :ED Am 30 5 5:=EN AA
def aaM :Em Am 24 false 1:=Gp AA
def Fl :Am.underlying 24=some (.slice 9):=AA
def amc :ED Am 30 6 6:=EN AA
def aYp :ED Am 30 7 7:=EN AA
def abu :ED Am 28 0 0:=EN AA
def aXE :Em Am 25 false 1:=Gp AA
def Fz :Am.underlying 25=some (.slice 108):=AA
def anG :ED Am 28 1 1:=EN AA
def aY7 :Em Am 26 false 1:=Gp AA
def Fv :Am.underlying 26=some (.slice 111):=AA
def acI :ED Am 39 1 1:=EN AA
def Jj :Em Am 9 false 1:=Gp AA
def H7 :Am.underlying 9=some (.string):=AA
def aho :ED Am 39 2 2:=EN AA
def al2 :ED Am 39 5 5:=EN AA
def amN :ED Am 30 0 0:=EN AA
def adI :ED Am 30 4 4:=EN AA
def ab9 :ED Am 39 12 27:=EN AA
def amF :ED Am 37 0 0:=EN AA
def Jh :Em Am 108 true 2:=Gp AA
def aiv :ED Am 108 0 0:=EN AA
def Cm :Am.underlying 22=some (.slice 39):=AA
def D9 :Em Am 39 true 29:=Gp AA
def aqy :Az 44=true:=AA
def XQ :Am.underlying 159=some (.slice 5):=AA
def JZ :Hf Am 159 5 1 1:=OO AA
def Qk :(Am.info? 5).bind (·.zero)=some (.int .u8 0):=AA
def ZQ :Am.underlying 3=some (.int .i64):=AA
def aYw :Am.underlying 214=some (.int .u64):=AA
def aA3 :Am.underlying 5=some (.int .u8):=AA
def arC :Az 328=true:=AA
def aq4 :Az 327=true:=AA
def anz :Az 326=true:=AA
def apZ :Az 329=true:=AA
def asu :Az 251=true:=AA
def alJ :ED Am 30 1 1:=EN AA
def CY :Em Am 3 false 1:=Gp AA
def arz :Az 252=true:=AA
def alE :ED Am 30 2 2:=EN AA
def am8 :ED Am 30 3 3:=EN AA
def aTK :Em Am 4 false 1:=Gp AA
def ap5 :Az 253=true:=AA
def apX :Az 254=true:=AA
def YF :Em Am 28 true 9:=Gp AA
def aRi :(Am.info? 28).bind (·.zero)=some (aBs):=AA
def qZ :(Am.info? 108).bind (·.zero)=some (aFF):=AA
def agH :ED Am 108 1 1:=EN AA
def Jq :Em Am 111 true 2:=Gp AA
def aYc :(Am.info? 111).bind (·.zero)=some (aTX):=AA
def adT :ED Am 111 0 0:=EN AA
def bP :Em Am 23 false 1:=Gp AA
def aj6 :ED Am 111 1 1:=EN AA
def adt :ED Am 28 2 2:=EN AA
def aee :ED Am 28 3 3:=EN AA
def aah :ED Am 28 4 4:=EN AA
def ahG :ED Am 28 5 5:=EN AA
def anj :ED Am 28 6 6:=EN AA
def anO :ED Am 28 7 7:=EN AA
def aff :ED Am 28 8 8:=EN AA
def aTV :(Am.info? 239).bind (·.zero)=some (aFE):=AA
def akg :Xm Am 239 1 (aFE):=qW AA aTV AA
def aA9 :Am.underlying 239=some (.array 7 3):=AA
def aMR :Em Am 5 false 1:=Gp AA
def aqZ :Az 222=true:=AA
def aoD :Az 221=true:=AA
def arK :Az 158=true:=AA
def ao3 :Az 138=true:=AA
def Na :Hf Am 24 9 1 16:=OO AA
def wX :Hf Am 25 108 2 24:=OO AA
def aGR :Hf Am 26 111 2 16:=OO AA
def apO :Az 172=true:=AA
def arf :Az 135=true:=AA
def apN :Az 136=true:=AA
def aqB :Az 137=true:=AA
def O9 :(Am.info? 39).bind (·.zero)=some (aAS):=AA
def amw :ED Am 39 3 3:=EN AA
def at6 :Az 76=true:=AA
def aVr :(Am.info? 225).bind (·.zero)=some (aAp):=AA
def aZL :Ji Am 225 [(0,1)] (aAp):=NK AA aVr AA
def aaA :ED Am 39 0 0:=EN AA
def Dx :Hf Am 35 3 1 8:=OO AA
def zero3 :(Am.info? 3).bind (·.zero)=some (.int .i64 0):=AA
def alP :ED Am 225 0 0:=EN AA
def anF :Em Am 159 false 1:=Gp AA
def aro :Az 224=true:=AA
def ap1 :Az 223=true:=AA
def zero9 :(Am.info? 9).bind (·.zero)=some (.string CS):=AA
def asY :Az 226=true:=AA
def ard :Az 225=true:=AA
def afU :ED Am 39 4 4:=EN AA
def ale :Hf Am 286 4 1 1:=OO AA
def sN :(Am.info? 4).bind (·.zero)=some (.bool false):=AA
def aQ9 :Am.underlying 286=some (.slice 4):=AA
def arP :Az 228=true:=AA
def aq9 :Az 227=true:=AA
def aZ7 :ED Am 39 6 6:=EN AA
def amu :ED Am 39 7 7:=EN AA
def aLr :Hf Am 287 35 1 24:=OO AA
def pV :(Am.info? 35).bind (·.zero)=some (.slice none 0 0):=AA
def qH :Am.underlying 287=some (.slice 35):=AA
def apS :Az 369=true:=AA
def asw :Az 315=true:=AA
def asD :Az 230=true:=AA
def aoG :Az 229=true:=AA
def alp :ED Am 39 11 26:=EN AA
def abl :ED Am 37 1 1:=EN AA
def aog :Az 122=true:=AA
def aXT :(Am.info? 37).bind (·.zero)=some (aEx):=AA
def aed :Ji Am 37 [(0,1),(1,1)] (aEx):=NK AA aXT AA
def aeM :Em Am 37 true 2:=Gp AA
def aop :Az 139=true:=AA
def aoj :Az 92=true:=AA
def arE :Az 77=true:=AA
def aoS :Az 35=true:=AA
def aoe :Az 125=true:=AA
def am6 :Az 126=true:=AA
def JY :Hf Am 22 39 29 376:=OO AA
def as6 :Az 64=true:=AA
def apC :Az 74=true:=AA
def apj :Az 317=true:=AA
def apm :Az 232=true:=AA
def arN :Az 236=true:=AA
def apy :Az 233=true:=AA
def acQ :Az 234=true:=AA
def aiT :Az 235=true:=AA
def aqm :Az 140=true:=AA
def aqQ :Az 141=true:=AA
def ap8 :Az 142=true:=AA
def ar8 :Az 143=true:=AA
def aps :Az 78=true:=AA
def atU :Az 272=true:=AA
def aqJ :Az 169=true:=AA
def aos :Az 170=true:=AA
def aoQ :Az 171=true:=AA
def aoo :Az 273=true:=AA
def apQ :Az 274=true:=AA
def ars :Az 277=true:=AA
def asy :Az 173=true:=AA
def asx :Az 275=true:=AA
def atD :Az 276=true:=AA
def aoE :Az 174=true:=AA
def aJI :(Am.info? 191).bind (·.zero)=some (a1n):=AA
def aiy :Ji Am 191 [(0,1),(1,1)] (a1n):=NK AA aJI AA
def aZE :Hf Am 192 191 2 16:=OO AA
def aUT :Am.underlying 192=some (.slice 191):=AA
def aOb :Em Am 191 true 2:=Gp AA
def akJ :ED Am 191 0 0:=EN AA
def aaT :ED Am 191 1 1:=EN AA
def abG :Em Am 137 false 1:=Gp AA
def aoa :Az 181=true:=AA
def abj :Az 175=true:=AA
def anC :Az 176=true:=AA
def ags :Az 177=true:=AA
def acw :Az 178=true:=AA
def ajM :Az 179=true:=AA
def ahD :Az 180=true:=AA
def aoh :Az 182=true:=AA
def aqX :Az 98=true:=AA
def ag7 :Am.underlying 4=some (.bool):=AA
def aqH :Az 101=true:=AA
def asN :Az 102=true:=AA
def aom :Az 103=true:=AA
def aDx (x y:IJ):AZ:=(x.User.toList==y.User.toList&&(x.N==y.N&&true))
def aYn (x y:IJ):kD Am 2 108 [.string x.User,.int .i64 x.N] [.string y.User,.int .i64 y.N] (aDx x y):=⟨fun d w=>a0F AA AA AA (l:=[(9,0),(3,1)]) AA (WM (Nl Jj AA w) (Nl Jj AA w) (run_equalIn_string w _ _ _ _ H7)<|WM (Nl CY AA w) (Nl CY AA w) (Zk w _ _ .i64 _ _ _ ZQ)<|aF2 _ _ _ _)⟩
def amX :Program.eqGuardType Am (Program.depth Am) 108=false:=AA
def aR9 :Am.underlying 23=some (.int .i64):=AA
def a1J (x y:Jc):AZ:=(x.Kind==y.Kind&&(x.N==y.N&&true))
def adl (x y:Jc):kD Am 2 111 [.int .i64 x.Kind,.int .i64 x.N] [.int .i64 y.Kind,.int .i64 y.N] (a1J x y):=⟨fun d w=>a0F AA AA AA (l:=[(23,0),(3,1)]) AA (WM (Nl bP AA w) (Nl bP AA w) (Zk w _ _ .i64 _ _ _ aR9)<|WM (Nl CY AA w) (Nl CY AA w) (Zk w _ _ .i64 _ _ _ ZQ)<|aF2 _ _ _ _)⟩
def aaN :Program.eqGuardType Am (Program.depth Am) 111=false:=AA
def asa :Az 132=true:=AA
def apq :Az 133=true:=AA
def aoq :Az 134=true:=AA
def aqd :Az 46=true:=AA
def aof :Az 75=true:=AA
def aor :Az 30=true:=AA
def aFY (x y:Ny):AZ:=(x.Server.toList==y.Server.toList&&(x.Sum==y.Sum&&true))
def abQ (x y:Ny):kD Am 2 37 [.string x.Server,.int .i64 x.Sum] [.string y.Server,.int .i64 y.Sum] (aFY x y):=⟨fun d w=>a0F AA AA AA (l:=[(9,0),(3,1)]) AA (WM (Nl Jj AA w) (Nl Jj AA w) (run_equalIn_string w _ _ _ _ H7)<|WM (Nl CY AA w) (Nl CY AA w) (Zk w _ _ .i64 _ _ _ ZQ)<|aF2 _ _ _ _)⟩
def aag :Program.eqGuardType Am (Program.depth Am) 37=false:=AA
def arx :Az 29=true:=AA
def Ri :Am.underlying 172=some (.map 3 3):=AA
def JA :KeyTy Am 3 Dj:=aeg ZQ
def asC :Az 153=true:=AA
def aai :(Am.info? 172).bind (·.zero)=some (.map none):=AA
def aii :Em Am 172 false 1:=Gp AA
def aqi :Az 311=true:=AA
def asG :Az 217=true:=AA
def aqE :Az 218=true:=AA
def aHg :Hf Am 216 218 2 16:=OO AA
def aCk :(Am.info? 218).bind (·.zero)=some (aB4):=AA
def aiX :Ji Am 218 [(0,1),(1,1)] (aB4):=NK AA aCk AA
def Xy :Am.underlying 216=some (.slice 218):=AA
def Td :Em Am 218 true 2:=Gp AA
def afW :ED Am 218 0 0:=EN AA
def aji :ED Am 218 1 1:=EN AA
def ah2 :Ji Am 39 [(0,1),(1,1),(2,1),(3,1),(4,1),(5,1),(6,1),(7,1),(8,1),(9,1),(10,16),(26,1),(27,2)] (aAS):=NK AA O9 AA
def IE :Am.underlying 51=some (.slice 116):=AA
def FT :Em Am 116 true 3:=Gp AA
def Q8 :(Am.info? 116).bind (·.zero)=some (aEd):=AA
def am1 :Ji Am 116 [(0,1),(1,1),(2,1)] (aEd):=NK AA Q8 AA
def amB :ED Am 116 0 0:=EN AA
def abd :ED Am 116 1 1:=EN AA
def aqt :Az 367=true:=AA
def aqo :Az 365=true:=AA
def acd :Az 366=true:=AA
def akT :Az 368=true:=AA
def apB :Az 314=true:=AA
def G9 :Am.underlying 52=some (.slice 116):=AA
def amV :ED Am 116 2 2:=EN AA
def KQ :Am.underlying 129=some (.slice 52):=AA
def TM :Em Am 52 false 1:=Gp AA
def apA :Az 248=true:=AA
def arj :Az 243=true:=AA
def ao0 :Az 61=true:=AA
def aoK :Az 62=true:=AA
def Ug :(Am.info? 52).bind (·.zero)=some (.slice none 0 0):=AA
def akS :Em Am 129 false 1:=Gp AA
def atZ :Az 72=true:=AA
def aWP :Az 131=true:=AA
def arD :Az 319=true:=AA
def MI :Hf Am 52 116 3 32:=OO AA
def yj :Az 154=true:=AA
def bT :Am.underlying 117=some (.map 3 4):=AA
def ajQ :Az 374=true:=AA
def ake :Az 375=true:=AA
def aW1 :Az 322=true:=AA
def ar7 :Az 373=true:=AA
def aqu :Az 244=true:=AA
def aqh :Az 320=true:=AA
def asU :Az 400=true:=AA
def aRA :Az 376=true:=AA
def aru :Az 21=true:=AA
def aoI :Az 321=true:=AA
def asl :Az 323=true:=AA
def uP :Az 220=true:=AA
def aap :Az 414=true:=AA
def aoM :Az 28=true:=AA
def apf :Az 271=true:=AA
def atX :Az 413=true:=AA
def adE :Em Am 22 false 1:=Gp AA
def as8 :Az 83=true:=AA
def aPG :(Am.info? 165).bind (·.zero)=some (aBp):=AA
def afp :Ji Am 165 [(0,1)] (aBp):=NK AA aPG AA
def akK :(match Am.underlying 165 with |some (.interface _)=>false|some _=>true|none=>false)=true:=AA
def oW :Az 85=true:=AA
def UC :Az 84=true:=AA
def apk :Az 147=true:=AA
def asj :Az 87=true:=AA
def aQn :(Am.info? 235).bind (·.zero)=some (aED):=AA
def ali :Xm Am 235 1 (aED):=qW AA aQn AA
def anp :Em Am 235 true 5:=Gp AA
def aPP :Am.underlying 235=some (.array 5 3):=AA
def arI :Az 149=true:=AA
def aqa :Az 238=true:=AA
def arn :Az 239=true:=AA
def atc :Az 240=true:=AA
def atJ :Az 150=true:=AA
def ai3 :Az 130=true:=AA
def atf :Az 68=true:=AA
def atN :Az 69=true:=AA
def arJ :Az 70=true:=AA
def aeY :Ji Am 28 [(0,1),(1,1),(2,1),(3,1),(4,1),(5,1),(6,1),(7,1),(8,1)] (aBs):=NK AA aRi AA
def adS :Ji Am 108 [(0,1),(1,1)] (aFF):=NK AA qZ AA
def aol :Az 71=true:=AA
def aoy :Az 23=true:=AA
def ap2 :Az 26=true:=AA
def ahh :Az 148=true:=AA
def aoc :Az 81=true:=AA
def apV :Az 86=true:=AA
def at7 :Az 151=true:=AA
def aTT :Em Am 239 true 7:=Gp AA
def aSc :Az 242=true:=AA
def aMh :Az 241=true:=AA
def aP4 :(Am.info? 241).bind (·.zero)=some (aEp):=AA
def al3 :Xm Am 241 1 (aEp):=qW AA aP4 AA
def agy :Am.underlying 241=some (.array 2 26):=AA
def aQc :(Am.info? 242).bind (·.zero)=some (Rep):=AA
def aec :Xm Am 242 1 (Rep):=qW AA aQc AA
def aaz :Am.underlying 242=some (.array 2 25):=AA
def aq5 :Az 152=true:=AA
def aqp :Az 88=true:=AA
def amx :Az 82=true:=AA
def aqj :Az 411=true:=AA
def asb :Az 33=true:=AA
def aSL :(Am.info? 331).bind (·.zero)=some (aEL):=AA
def abm :Ji Am 331 [] (aEL):=NK AA aSL AA
def afQ :(match Am.underlying 331 with |some (.interface _)=>false|some _=>true|none=>false)=true:=AA
def aqf :Az 377=true:=AA
def apR :Az 378=true:=AA
def aqA :Az 325=true:=AA
def aXx :Az 379=true:=AA
def aqR :Az 380=true:=AA
def arW :Az 270=true:=AA
def ahP :Am.underlying 148=some (.int .u64):=AA
def aso :Az 205=true:=AA
def ap7 :Az 206=true:=AA
def aq6 :Az 121=true:=AA
def ajd :(Am.info? 176).bind (·.zero)=some (aTg):=AA
def aqg :Az 245=true:=AA
def ara :Az 246=true:=AA
def aWj :(Am.info? 248).bind (·.zero)=some (aE6):=AA
def aas :Ji Am 248 [] (aE6):=NK AA aWj AA
def ajJ :(match Am.underlying 248 with |some (.interface _)=>false|some _=>true|none=>false)=true:=AA
def aMX :(Am.info? 185).bind (·.zero)=some (aBR):=AA
def am4 :Ji Am 185 [(0,1),(1,1)] (aBR):=NK AA aMX AA
def aIb :Hf Am 186 185 2 24:=OO AA
def apY :Az 168=true:=AA
def ZF :Am.underlying 186=some (.slice 185):=AA
def mY :Em Am 185 true 2:=Gp AA
def alZ :ED Am 185 0 0:=EN AA
def aYq :ED Am 185 1 1:=EN AA
def aUz :Az 364=true:=AA
def asX :Az 313=true:=AA
def arl :Az 434=true:=AA
def aIL :(Am.info? 356).bind (·.zero)=some (aAQ):=AA
def amb :Ji Am 356 [(0,1),(1,1),(2,1),(3,1)] (aAQ):=NK AA aIL AA
def aJj :Hf Am 353 356 4 48:=OO AA
def apl :Az 432=true:=AA
def XL :Am.underlying 353=some (.slice 356):=AA
def dD :Em Am 356 true 4:=Gp AA
def abt :ED Am 356 3 3:=EN AA
def acL :ED Am 356 0 0:=EN AA
def acZ :ED Am 356 1 1:=EN AA
def aeV :ED Am 356 2 2:=EN AA
def afB :Az 433=true:=AA
def arq :Az 431=true:=AA
def aly :Az 430=true:=AA
def aev :pG Am 248 "fedchat/resolve.sort" 430=true:=AA
def arR :Az 324=true:=AA
def aob :Az 247=true:=AA
def aiS :ED Am 176 1 1:=EN AA
def apF :Az 249=true:=AA
def asF :Az 250=true:=AA
def aQY :(Am.info? 253).bind (·.zero)=some (aBu):=AA
def aki :Ji Am 253 [(0,1)] (aBu):=NK AA aQY AA
def aea :(match Am.underlying 253 with |some (.interface _)=>false|some _=>true|none=>false)=true:=AA
def alj :ED Am 253 0 0:=EN AA
def arF :Az 437=true:=AA
def aJx :(Am.info? 360).bind (·.zero)=some (aAf):=AA
def ab1 :Ji Am 360 [(0,1),(1,1),(2,1)] (aAf):=NK AA aJx AA
def aS4 :Hf Am 358 360 3 24:=OO AA
def aoH :Az 438=true:=AA
def jJ :Am.underlying 358=some (.slice 360):=AA
def gG :Em Am 360 true 3:=Gp AA
def xY (x y:LJ):AZ:=(x.ng==y.ng&&(x.zH==y.zH&&(x.BM==y.BM&&true)))
def aar (x y:LJ):kD Am 2 360 [.int .i64 x.ng,.int .i64 x.zH,.int .i64 x.BM] [.int .i64 y.ng,.int .i64 y.zH,.int .i64 y.BM] (xY x y):=⟨fun d w=>a0F AA AA AA (l:=[(3,0),(3,1),(3,2)]) AA (WM (Nl CY AA w) (Nl CY AA w) (Zk w _ _ .i64 _ _ _ ZQ)<|WM (Nl CY AA w) (Nl CY AA w) (Zk w _ _ .i64 _ _ _ ZQ)<|WM (Nl CY AA w) (Nl CY AA w) (Zk w _ _ .i64 _ _ _ ZQ)<|aF2 _ _ _ _)⟩
def ajv :Program.eqGuardType Am (Program.depth Am) 360=false:=AA
def aoN :Az 441=true:=AA
def ahw :ED Am 360 0 0:=EN AA
def arX :Az 436=true:=AA
def adN :Az 435=true:=AA
def aaO :pG Am 253 "fedchat/resolve.sort" 435=true:=AA
def adO :ED Am 176 0 0:=EN AA
def ab5 :ED Am 176 2 2:=EN AA
def aXA :Em Am 176 true 3:=Gp AA
def asA :Az 157=true:=AA
def adP :jk Am 176 0 0 false 1=true:=AA
def ao4 :Az 363=true:=AA
def zero22 :(Am.info? 22).bind (·.zero)=some (.slice none 0 0):=AA
def ap4 :Az 312=true:=AA
def aky :ED Am 103 2 2:=EN AA
def aZc :Em Am 101 false 1:=Gp AA
def aI3 :Am.underlying 101=some (.map 3 40):=AA
def a0k :(Am.info? 40).bind (·.zero)=some (.int .i64 0):=AA
def aqL :Az 24=true:=AA
def aeR :ED Am 103 1 1:=EN AA
def aeU :Em Am 100 false 1:=Gp AA
def oN :Am.underlying 100=some (.map 3 52):=AA
def Z9 :Hf Am 129 52 1 24:=OO AA
def asW :Az 91=true:=AA
def ap9 :Az 219=true:=AA
def agi :ED Am 103 0 0:=EN AA
def as3 :Az 42=true:=AA
def atF :Az 127=true:=AA
def aXF :(Am.info? 103).bind (·.zero)=some (a1s):=AA
def aU4 :Ji Am 103 [(0,1),(1,1),(2,1)] (a1s):=NK AA aXF AA
def arQ :Az 128=true:=AA
def atb :Az 129=true:=AA
def akL :Em Am 97 false 1:=Gp AA
def apz :Az 156=true:=AA
def aqe :Az 155=true:=AA
def aod :Az 65=true:=AA
def aov :Az 90=true:=AA
def aqU :Az 43=true:=AA
def aPi :(Am.info? 91).bind (·.zero)=some (aAb):=AA
def afe :Ji Am 91 [(0,1),(1,1),(2,1)] (aAb):=NK AA aPi AA
def am9 :Em Am 91 true 3:=Gp AA
def abg :ED Am 91 2 2:=EN AA
def ab4 :ED Am 91 0 0:=EN AA
def ag5 :ED Am 91 1 1:=EN AA
def agF :Ji Am 30 [(0,1),(1,1),(2,1),(3,1),(4,1),(5,1),(6,1),(7,9)] (a08):=NK AA zero30 AA
def asq :Az 17=true:=AA
def abJ :ED Am 32 0 0:=EN AA
def ahi :ED Am 32 2 2:=EN AA
def afk :ED Am 32 3 3:=EN AA
def as1 :Az 47=true:=AA
def acP :Am.underlying 212=some (.int .u32):=AA
def aq1 :Az 163=true:=AA
def aqN :Az 89=true:=AA
def aen :Az 167=true:=AA
def ar5 :Az 97=true:=AA
def asO :Az 99=true:=AA
def aph :Az 34=true:=AA
def aqn :Az 100=true:=AA
def ape :Az 45=true:=AA
def aq8 :Az 36=true:=AA
def apt :Az 12=true:=AA
def ate :Az 305=true:=AA
def ao1 :Az 118=true:=AA
def arH :Az 203=true:=AA
def apu :Az 204=true:=AA
def aoW :Az 117=true:=AA
def as9 :Az 256=true:=AA
def ap3 :Az 106=true:=AA
def asn :Az 255=true:=AA
def aqP :Az 257=true:=AA
def aq2 :Az 258=true:=AA
def aqF :Az 381=true:=AA
def aox :Az 120=true:=AA
def aqW :Az 330=true:=AA
def arL :Az 331=true:=AA
def aql :Az 119=true:=AA
def as2 :Az 332=true:=AA
def aqr :Az 335=true:=AA
def aoz :Az 259=true:=AA
def asH :Az 333=true:=AA
def arT :Az 334=true:=AA
def ap6 :Az 260=true:=AA
def ar1 :Az 261=true:=AA
def atL :Az 55=true:=AA
def aqG :Az 262=true:=AA
def aoT :Az 263=true:=AA
def aqs :Az 264=true:=AA
def ar0 :Az 265=true:=AA
def ar9 :Az 266=true:=AA
def asR :Az 267=true:=AA
def aqO :Az 268=true:=AA
def asf :Az 159=true:=AA
def atT :Az 160=true:=AA
def ati :Az 361=true:=AA
def ZC :Az 299=true:=AA
def aKX :Az 298=true:=AA
def acz :Az 300=true:=AA
def aVy :Az 301=true:=AA
def arB :Az 302=true:=AA
def aqS :Az 297=true:=AA
def arU :Az 296=true:=AA
def atY :Az 200=true:=AA
def asB :Az 199=true:=AA
def aqM :Az 115=true:=AA
def aoA :Az 303=true:=AA
def arY :Az 304=true:=AA
def aqx :Az 201=true:=AA
def aqC :Az 202=true:=AA
def asg :Az 93=true:=AA
def arZ :Az 162=true:=AA
def aoF :Az 116=true:=AA
def aq0 :Az 53=true:=AA
def aqK :Az 280=true:=AA
def as4 :Az 385=true:=AA
def atG :Az 161=true:=AA
def aoV :Az 346=true:=AA
def apL :Az 345=true:=AA
def apI :Az 95=true:=AA
def apW :Az 281=true:=AA
def arv :Az 282=true:=AA
def aoR :Az 184=true:=AA
def asI :Az 185=true:=AA
def asL :Az 356=true:=AA
def ahu :Az 357=true:=AA
def aLw :(Am.info? 200).bind (·.zero)=some (aCJ):=AA
def lF :Am.underlying 139=some (.slice 200):=AA
def VG :Em Am 200 true 4:=Gp AA
def aZX :ED Am 200 0 0:=EN AA
def an0 :Ji Am 200 [(0,1),(1,1),(2,1),(3,1)] (aCJ):=NK AA aLw AA
def asP :Az 352=true:=AA
def aIM :Az 284=true:=AA
def arM :Az 386=true:=AA
def asK :Az 187=true:=AA
def aqc :Az 344=true:=AA
def arb :Az 355=true:=AA
def ak3 :Az 406=true:=AA
def aOc :Az 387=true:=AA
def atH :Az 407=true:=AA
def asQ :Az 405=true:=AA
def aex :Az 391=true:=AA
def apg :Az 404=true:=AA
def aow :Az 347=true:=AA
def ar6 :Az 388=true:=AA
def apa :Az 389=true:=AA
def aoC :Az 390=true:=AA
def Zr :Hf Am 51 116 3 32:=OO AA
def asv :Az 283=true:=AA
def apD :Az 186=true:=AA
def ar2 :Az 397=true:=AA
def aqT :Az 94=true:=AA
def arO :Az 359=true:=AA
def atM :Az 192=true:=AA
def ap0 :Az 193=true:=AA
def atQ :Az 408=true:=AA
def atE :Az 392=true:=AA
def apw :Az 393=true:=AA
def ac9 :Az 409=true:=AA
def aqb :Az 109=true:=AA
def aoB :Az 285=true:=AA
def asZ :Az 286=true:=AA
def aqI :Az 287=true:=AA
def at1 :Az 288=true:=AA
def asz :Az 111=true:=AA
def apx :Az 188=true:=AA
def ao2 :Az 189=true:=AA
def aon :Az 190=true:=AA
def arV :Az 191=true:=AA
def aot :Az 290=true:=AA
def atA :Az 289=true:=AA
def aqw :Az 194=true:=AA
def asT :Az 291=true:=AA
def atg :Az 195=true:=AA
def apU :Az 110=true:=AA
def ash :Az 112=true:=AA
def ata :Az 360=true:=AA
def aoP :Az 394=true:=AA
def aqz :Az 49=true:=AA
def aoY :Az 295=true:=AA
def aoJ :Az 395=true:=AA
def as5 :Az 353=true:=AA
def apv :Az 412=true:=AA
def arw :Az 410=true:=AA
def arG :Az 396=true:=AA
def ahX :(Am.info? 275).bind (·.zero)=some (aWT):=AA
def ae0 :ED Am 275 0 0:=EN AA
def asJ :Az 348=true:=AA
def apM :Az 349=true:=AA
def arp :Az 350=true:=AA
def aiB :ED Am 275 1 1:=EN AA
def asr :Az 351=true:=AA
def aa2 :ED Am 275 2 2:=EN AA
def aou :Az 354=true:=AA
def akw :ED Am 275 3 3:=EN AA
def anV :ED Am 275 4 4:=EN AA
def aQM :Em Am 275 true 5:=Gp AA
def apn :Az 292=true:=AA
def anJ :jk Am 275 4 4 false 1=true:=AA
def aQF :Az 398=true:=AA
def aoO :Az 358=true:=AA
def apE :Az 196=true:=AA
def ajR :ED Am 200 3 3:=EN AA
def aa6 :Em Am 40 false 1:=Gp AA
def aok :Az 50=true:=AA
def aqV :Az 293=true:=AA
def ajg :ED Am 200 2 2:=EN AA
def aqY :Az 197=true:=AA
def ail :ED Am 200 1 1:=EN AA
def ari :Az 294=true:=AA
def aPe :Hf Am 139 200 4 64:=OO AA
def aoX :Az 105=true:=AA
def arS :Az 198=true:=AA
def aqD :Az 279=true:=AA
def apG :Az 278=true:=AA
def arA :Az 114=true:=AA
def ar4 :Az 183=true:=AA
def aoZ :Az 113=true:=AA
def atK :Az 104=true:=AA
def apT :Az 107=true:=AA
def atO :Az 51=true:=AA
def apH :Az 108=true:=AA
def apo :Az 48=true:=AA
def as7 :Az 52=true:=AA
def atI :Az 54=true:=AA
def af0 :Em Am 32 true 20:=Gp AA
def asi :Az 10=true:=AA
def aoi :Az 11=true:=AA
def aZu :ED Am 32 1 1:=EN AA
def afz :ED Am 32 4 19:=EN AA
def aq7 :Az 13=true:=AA
def aoL :Az 14=true:=AA
def arh :Az 15=true:=AA
def aoU :Az 16=true:=AA
def aT2 :(Am.info? 131).bind (·.zero)=some (aEy):=AA
def akN :Xm Am 131 29 (aEy):=qW AA aT2 AA
def aci :Em Am 131 true 116:=Gp AA
def alg :(Am.info? 23).bind (·.zero)=some (.int .i64 0):=AA
def ajI :ED Am 73 0 0:=EN AA
def am2 :ED Am 73 1 1:=EN AA
def anQ :ED Am 73 2 2:=EN AA
def ahH :ED Am 73 3 3:=EN AA
def ahU :ED Am 73 4 4:=EN AA
instance ao6 :Kn Am where
 und:=[(9,.string),(3,.int .i64),(214,.int .u64),(5,.int .u8),(4,.bool),(23,.int .i64),(148,.int .u64),(212,.int .u32)]
 amm:=⟨H7,ZQ,aYw,aA3,ag7,aR9,ahP,acP,trivial⟩
 ty:=[(30,true,16),(35,false,1),(24,false,1),(25,false,1),(26,false,1),(9,false,1),(108,true,2),(39,true,29),(3,false,1),(4,false,1),(28,true,9),(111,true,2),(23,false,1),(5,false,1),(159,false,1),(37,true,2),(191,true,2),(137,false,1),(172,false,1),(218,true,2),(116,true,3),(52,false,1),(129,false,1),(22,false,1),(235,true,5),(239,true,7),(185,true,2),(356,true,4),(360,true,3),(176,true,3),(101,false,1),(100,false,1),(97,false,1),(91,true,3),(200,true,4),(275,true,5),(40,false,1),(32,true,20),(131,true,116)]
 hty:=⟨TR,aD1,aaM,aXE,aY7,Jj,Jh,D9,CY,aTK,YF,Jq,bP,aMR,anF,aeM,aOb,abG,aii,Td,FT,TM,akS,adE,anp,aTT,mY,dD,gG,aXA,aZc,aeU,akL,am9,VG,aQM,aa6,af0,aci,trivial⟩
 fld:=[((39,10),10),((39,8),8),((39,9),9),((30,5),5),((30,6),6),((30,7),7),((28,0),0),((28,1),1),((39,1),1),((39,2),2),((39,5),5),((30,0),0),((30,4),4),((39,12),27),((37,0),0),((108,0),0),((30,1),1),((30,2),2),((30,3),3),((108,1),1),((111,0),0),((111,1),1),((28,2),2),((28,3),3),((28,4),4),((28,5),5),((28,6),6),((28,7),7),((28,8),8),((39,3),3),((39,0),0),((225,0),0),((39,4),4),((39,6),6),((39,7),7),((39,11),26),((37,1),1),((191,0),0),((191,1),1),((218,0),0),((218,1),1),((116,0),0),((116,1),1),((116,2),2),((185,0),0),((185,1),1),((356,3),3),((356,0),0),((356,1),1),((356,2),2),((176,1),1),((253,0),0),((360,0),0),((176,0),0),((176,2),2),((103,2),2),((103,1),1),((103,0),0),((91,2),2),((91,0),0),((91,1),1),((32,0),0),((32,2),2),((32,3),3),((200,0),0),((275,0),0),((275,1),1),((275,2),2),((275,3),3),((275,4),4),((200,3),3),((200,2),2),((200,1),1),((32,1),1),((32,4),19),((73,0),0),((73,1),1),((73,2),2),((73,3),3),((73,4),4)]
 hfld:=⟨agq,adB,amv,agS,amc,aYp,abu,anG,acI,aho,al2,amN,adI,ab9,amF,aiv,alJ,alE,am8,agH,adT,aj6,adt,aee,aah,ahG,anj,anO,aff,amw,aaA,alP,afU,aZ7,amu,alp,abl,akJ,aaT,afW,aji,amB,abd,amV,alZ,aYq,abt,acL,acZ,aeV,aiS,alj,ahw,adO,ab5,aky,aeR,agi,abg,ab4,ag5,abJ,ahi,afk,aZX,ae0,aiB,aa2,akw,anV,ajR,ajg,ail,aZu,afz,ajI,am2,anQ,ahH,ahU,trivial⟩
 part:=[((176,0),0,false,1),((275,4),4,false,1)]
 hpart:=⟨adP,anJ,trivial⟩
 zero:=[(30,a08),(5,.int .u8 0),(28,aBs),(108,aFF),(111,aTX),(239,aFE),(39,aAS),(225,aAp),(3,.int .i64 0),(9,.string CS),(4,.bool false),(35,.slice none 0 0),(37,aEx),(191,a1n),(172,.map none),(218,aB4),(116,aEd),(52,.slice none 0 0),(165,aBp),(235,aED),(241,aEp),(242,Rep),(331,aEL),(176,aTg),(248,aE6),(185,aBR),(356,aAQ),(253,aBu),(360,aAf),(22,.slice none 0 0),(40,.int .i64 0),(103,a1s),(91,aAb),(200,aCJ),(275,aWT),(131,aEy),(23,.int .i64 0)]
 hzero:=⟨⟨zero30,AA⟩,⟨Qk,AA⟩,⟨aRi,AA⟩,⟨qZ,AA⟩,⟨aYc,AA⟩,⟨aTV,AA⟩,⟨O9,AA⟩,⟨aVr,AA⟩,⟨zero3,AA⟩,⟨zero9,AA⟩,⟨sN,AA⟩,⟨pV,AA⟩,⟨aXT,AA⟩,⟨aJI,AA⟩,⟨aai,AA⟩,⟨aCk,AA⟩,⟨Q8,AA⟩,⟨Ug,AA⟩,⟨aPG,AA⟩,⟨aQn,AA⟩,⟨aP4,AA⟩,⟨aQc,AA⟩,⟨aSL,AA⟩,⟨ajd,AA⟩,⟨aWj,AA⟩,⟨aMX,AA⟩,⟨aIL,AA⟩,⟨aQY,AA⟩,⟨aJx,AA⟩,⟨zero22,AA⟩,⟨a0k,AA⟩,⟨aXF,AA⟩,⟨aPi,AA⟩,⟨aLw,AA⟩,⟨ahX,AA⟩,⟨aT2,AA⟩,⟨alg,AA⟩,trivial⟩
 st:=[(225,[(0,1)],aAp),(37,[(0,1),(1,1)],aEx),(191,[(0,1),(1,1)],a1n),(218,[(0,1),(1,1)],aB4),(39,[(0,1),(1,1),(2,1),(3,1),(4,1),(5,1),(6,1),(7,1),(8,1),(9,1),(10,16),(26,1),(27,2)],aAS),(116,[(0,1),(1,1),(2,1)],aEd),(165,[(0,1)],aBp),(28,[(0,1),(1,1),(2,1),(3,1),(4,1),(5,1),(6,1),(7,1),(8,1)],aBs),(108,[(0,1),(1,1)],aFF),(331,[],aEL),(248,[],aE6),(185,[(0,1),(1,1)],aBR),(356,[(0,1),(1,1),(2,1),(3,1)],aAQ),(253,[(0,1)],aBu),(360,[(0,1),(1,1),(2,1)],aAf),(103,[(0,1),(1,1),(2,1)],a1s),(91,[(0,1),(1,1),(2,1)],aAb),(30,[(0,1),(1,1),(2,1),(3,1),(4,1),(5,1),(6,1),(7,9)],a08),(200,[(0,1),(1,1),(2,1),(3,1)],aCJ)]
 hst:=⟨aZL,aed,aiy,aiX,ah2,am1,afp,aeY,adS,abm,aas,am4,amb,aki,ab1,aU4,afe,agF,an0,trivial⟩
 arr:=[(239,1,aFE),(235,1,aED),(241,1,aEp),(242,1,Rep),(131,29,aEy)]
 harr:=⟨akg,ali,al3,aec,akN,trivial⟩
abbrev IW :=fun x=>Bd.arr 5 1 (List.map Dn x)
abbrev V7 :=fun x=>Bd.arr 9 1 (List.map DV x)
abbrev Gq :=fun x=>Bd.arr 39 29 (List.map BI x)
abbrev CW :=fun x=>Bd.arr 3 1 (List.map Ae x)
abbrev WH :=fun x=>Bd.arr 218 2 (List.map Jz x)
abbrev KZ :=fun x=>Bd.arr 116 3 (List.map Ba x)
abbrev er :=fun x=>Bd.arr 360 3 (List.map OW x)
abbrev vF :=fun x=>Bd.arr 35 1 (List.map (Bo Ae) x)
abbrev QK :=fun x=>Bd.arr 200 4 (List.map LG x)
abbrev DC :=fun x=>Af.d (BI x)
abbrev Ag :=fun x=>Af.d (EY x)
abbrev AX :=fun x=>Af.d (Ae x)
abbrev BL :=fun x=>Af.d ((Bo BI) x)
abbrev II :=fun x=>Af.d ((Bo Dn) x)
abbrev CZ :=fun x=>Af.d (DV x)
abbrev IC :=fun x=>Af.d ((Bo DV) x)
abbrev H9 :=fun x=>Af.d (Fg x)
abbrev Ob :=fun x=>Af.d ((Bo Eb) x)
abbrev Oc :=fun x=>Af.d ((Bo Ei) x)
abbrev IX :=fun x=>Af.d (Ez x)
abbrev Bq :=fun x=>Af.d ((Bo Ae) x)
abbrev DZ :=fun x=>Af.d ((Bo Ba) x)
abbrev Vb :=fun x=>Af.d (Ba x)
abbrev J4 :=fun x=>Af.d ((Bo (Bo Ba)) x)
abbrev Vu :=fun x=>Af.d ((Bo LQ) x)
abbrev VY :=fun x=>Af.d ((Bo LX) x)
abbrev Xd :=fun x=>Af.d ((Bo LG) x)
abbrev Vr :=fun x=>Af.d (LG x)
end
section
open Go.RowKit Go.Sort
abbrev aG :Type:={ p:AV×A8 Au//p.2.length=29/\(∀v∈p.2,v.oneCell'=true)/\p.2[0]? =some (.int .i64 p.1.Id)/\p.2[7]? =some (.int .i64 p.1.Depth) }
instance : Inhabited aG:=⟨⟨(DI,List.replicate 29 (.int .i64 0)),rfl,fun v hv=>by rw[(List.mem_replicate.1 hv).2];rfl,rfl,rfl⟩⟩
def aRH {ok:Nat->Prop} {w:BU} {H:A8 CP} {cs:A8 D} {vs:A8 Au} {i:Nat} {n:Int} (h:Fj ok w H (cs.map .d) vs) (hi:cs[i]? =some (Ae n)):vs[i]? =some (.int .i64 n):=by
 have hl:i<cs.length:=(GH.1 hi).1;have j:i<vs.length:=by rw[h.1,Dc];exact hl
 have q:=(h.2 i (by rw[Dc];exact hl)).2;simp only[List.getD,Jg,hi,JQ,Oq,EL j]at q;rw[EL j];cases q with |d _ _ h=>rw[ES.ahT h]
def ajE {ok:Nat->Prop} {w:BU} {H:A8 CP} {p:AV×A8 Au} (h:Fj ok w H ((BI p.1).cells.map .d) p.2):p.2.length=29/\(∀v∈p.2,v.oneCell'=true)/\p.2[0]? =some (.int .i64 p.1.Id)/\p.2[7]? =some (.int .i64 p.1.Depth):=
 ⟨h.1,ag6 h,aRH h rfl,aRH h rfl⟩
def aPm {ok:Nat->Prop} {w:BU} {H:A8 CP}:∀(z:A8 (AV×A8 Au)),(∀p∈z,Fj ok w H ((BI p.1).cells.map .d) p.2)->∃y:A8 aG,y.map (·.1)=z
 | [],_=>⟨[],rfl⟩
 |p::z,h=>by
  obtain⟨y,j⟩:=aPm z fun q u=>h q (IG _ u);exact⟨⟨p,ajE (h p (H8 ..))⟩::y,BK (p:: ·) j⟩
def Po (x:aG):A8 Au:=x.1.2
def aCs (x:aG):(Po x).length=29:=x.2.1
def aio (x:aG):∀v∈Po x,v.oneCell'=true:=x.2.2.1
def F9 (x:AV):Int×Int:=(x.Depth,x.Id)
def Xz (p q:Int×Int):Int:=if p.1=q.1 then KA p.2 q.2 else KA p.1 q.1
def aac (p q:Int×Int):Xz p q<0↔p.1<q.1\/p.1=q.1/\p.2<q.2:=by
 unfold Xz;split
 ·rw[vH];omega
 rw[vH];omega
def Ig (p q:Int×Int):AZ:= !decide (Xz q p<0)
def kL (p q:Int×Int):Ig p q=true↔¬(q.1<p.1\/q.1=p.1/\q.2<p.2):=by
 unfold Ig;rw[ND,Qv,aac]
def aV1 (p q:Int×Int):Ig p q=false↔(q.1<p.1\/q.1=p.1/\q.2<p.2):=by
 rw[←Pm,kL,Decidable.not_not]
def aNv (x y z:Int×Int) (h:Ig x y=true) (k:Ig y z=true):Ig x z=true:=by
 rw[kL]at *;omega
def aPA (x y:Int×Int) (h:Ig x y=false):Ig y x=true:=by
 rw[aV1]at h;rw[kL];omega
def aYz (x y:Int×Int) (h:Ig x y=true) (k:Ig y x=true):x=y:=by
 rw[kL]at *;obtain⟨j,q⟩:=x;obtain⟨u,z⟩:=y;simp only[RV]at *;omega
def lt2_trans (x y z:Int×Int) (h:Ig y x=false) (k:Ig z y=false):Ig z x=false:=by
 rw[aV1]at *;omega
section
variable {α:Type}
def aBy (f:α->Int×Int) (x y:α):ltOf (fun x y=>Xz (f x) (f y)) x y= !Ig (f y) (f x):=by simp[ltOf,Ig]
def acK (f:α->Int×Int):SWO (ltOf fun x y:α=>Xz (f x) (f y)):=by
 refine⟨fun x=>?_,fun x y z h k=>?_,fun x y z h k=>?_⟩
 ·rw[aBy,(kL (f x) (f x)).2 AB];rfl
 ·rw[aBy,ND]at *;exact lt2_trans _ _ _ h k
 rw[aBy,Bool.not_eq_false']at *;exact aNv _ _ _ k h
end
def ay :A8 (Int×Int)->AZ
 | []=>true
 |x::l=> !l.contains x&&ay l
def aRL :∀(l:A8 AV),ay (l.map F9)=true->∀x∈l,∀y∈l,F9 x=F9 y->x=y
 | [],_,x,j,_,_,_=>absurd j G5
 |e::l,h,x,j,y,M,q=>by
  rw[JR]at h;unfold ay at h;rw[Du,ND]at h
  have u:F9 e∉l.map F9:=fun hm=>by
   have :(l.map F9).contains (F9 e)=true:=by simpa using hm
   rw[this]at h;cases h.1
  rcases FK.1 j with z|I<;>rcases FK.1 M with J|L
  ·rw[z,J]
  ·exact absurd (Fh.2 ⟨y,L,by rw[←q,z]⟩) u
  ·exact absurd (Fh.2 ⟨x,I,by rw[q,J]⟩) u
  exact aRL l h.2 x I y L q
abbrev Ai:=A8 AV
def fG (l:A8 AV):AL Ai:=if l.length<=34359738368/\ay (l.map F9)=true then some (MZ (fun x y=>Ig (F9 x) (F9 y)) l)else none
def ab6 {l m:A8 AV} (hd:ay (l.map F9)=true) (hp:m.Perm l) (hs:m.Pairwise (fun a b=>Ig (F9 a) (F9 b)=true)):m=MZ (fun x y=>Ig (F9 x) (F9 y)) l:=
 (hp.trans (V4 _ l).symm).eq_of_pairwise (fun a b ha j q u=>aRL l hd a (hp.mem_iff.1 ha) b ((V4 _ l).mem_iff.1 j) (aYz _ _ q u)) hs (aAG (le:=fun x y=>Ig (F9 x) (F9 y)) (fun x y z=>aNv (F9 x) (F9 y) (F9 z)) (fun x y=>aPA (F9 x) (F9 y)) l)
def aPb {cs:A8 Au} {i d:Int} (h:cs.length=29) (h0:cs[0]? =some (.int .i64 i)) (h7:cs[7]? =some (.int .i64 d)):∃a1 a2 a3 a4 a5 a6 a8 a9 j q u z I J L M O U Y Z a22 a23 a24 a25 a26 a27 a28:Au,cs=[.int .i64 i,a1,a2,a3,a4,a5,a6,.int .i64 d,a8,a9,j,q,u,z,I,J,L,M,O,U,Y,Z,a22,a23,a24,a25,a26,a27,a28]:=by
 match cs,h,h0,h7 with
 | [a0,a1,a2,a3,a4,a5,a6,a7,a8,a9,j,q,u,z,I,J,L,M,O,U,Y,Z,a22,a23,a24,a25,a26,a27,a28],_,h0,h7=>
   have e0:a0=.int .i64 i:=by simpa using h0
   have e7:a7=.int .i64 d:=Dq h7;exact⟨a1,a2,a3,a4,a5,a6,a8,a9,j,q,u,z,I,J,L,M,O,U,Y,Z,a22,a23,a24,a25,a26,a27,a28,by rw[e0,e7]⟩
def ajl {P:Ce} {g:FuncId} (hc:∀(r ai ad bi bd:Int) (_:r=if ad=bd then KA ai bi else KA ad bd) (a1 a2 a3 a4 a5 a6 a8 a9 j u z I J L M O U Y Z a21 a22 a23 a24 a25 a26 a27 a28 b1 b2 b3 b4 b5 b6 b8 b9 b10 b11 b12 b13 b14 b15 b16 b17 b18 b19 b20 b21 b22 b23 b24 b25 b26 b27 b28:Au) (W:BU),Calls P g #[.agg #[.int .i64 ai,a1,a2,a3,a4,a5,a6,.int .i64 ad,a8,a9,j,u,z,I,J,L,M,O,U,Y,Z,a21,a22,a23,a24,a25,a26,a27,a28],.agg #[.int .i64 bi,b1,b2,b3,b4,b5,b6,.int .i64 bd,b8,b9,b10,b11,b12,b13,b14,b15,b16,b17,b18,b19,b20,b21,b22,b23,b24,b25,b26,b27,b28]] W fun e w'=>e=.returned (.int .i64 r)/\∃q os',w'=grow (W.drewN q) os')
 (blk off size:Nat) (w:BU):CmpLays P g #[] Po 29 (fun x y=>Xz (F9 x.1.1) (F9 y.1.1)) blk off size w:=fun m os dk _ x y=>by
 obtain⟨⟨x1,xs⟩,x2,x3,x4,x5⟩:=x;obtain⟨⟨y1,ys⟩,y2,y3,y4,y5⟩:=y;obtain⟨a1,a2,a3,a4,a5,a6,a8,a9,j,u,z,I,J,L,M,O,U,Y,Z,a21,a22,a23,a24,a25,a26,a27,a28,ex⟩:=aPb (cs:=xs) (i:=x1.Id) (d:=x1.Depth) x2 x4 x5;subst ex;obtain⟨b1,b2,b3,b4,b5,b6,b8,b9,b10,b11,b12,b13,b14,b15,b16,b17,b18,b19,b20,b21,b22,b23,b24,b25,b26,b27,b28,ey⟩:=aPb (cs:=ys) (i:=y1.Id) (d:=y1.Depth) y2 y4 y5;subst ey;exact hc _ x1.Id x1.Depth y1.Id y1.Depth rfl a1 a2 a3 a4 a5 a6 a8 a9 j u z I J L M O U Y Z a21 a22 a23 a24 a25 a26 a27 a28 b1 b2 b3 b4 b5 b6 b8 b9 b10 b11 b12 b13 b14 b15 b16 b17 b18 b19 b20 b21 b22 b23 b24 b25 b26 b27 b28 _
open Go.Shelf in
set_option maxHeartbeats 2000000 in
def avR {P:Ce} {ρ:Ren} {g:FuncId} {T:CG} (aFM:SlLaysF0.n6 P ρ) (hagg:∀w,(isAgg (ρ.t 24)).run P w=.ok true w) (hsize:∀w,(Go.sizeOf (ρ.t 24)).run P w=.ok 29 w) (eg:∀args w,(callFunc g args).run P w=.ok (.enter g args) w)
 (hcmp:∀blk off size w,CmpLays P g #[] Po 29 (fun x y=>Xz (F9 x.1.1) (F9 y.1.1)) blk off size w) (l r:A8 AV) (h:fG l=some r):
 Ed P (ρ.f 6) [.aO 0,.d (.fn (.func g) [] [])] [.arr T 29 (l.map BI)] (.fC []) [.arr T 29 (r.map BI)]:=by
 unfold fG at h;split at h
 ·rename_i hnd;obtain⟨hn,hd⟩:=hnd;obtain rfl:=Dq h;refine Ed.aBM (k:=29) (e:=BI) (fun x=>rfl) fun ok H v w z z1 z3 Z=>?_;obtain⟨y,hy⟩:=aPm z z3;have M:y.length=l.length:=by rw[←z1,←hy];simp
  have L:z.flatMap (·.2)=y.flatMap Po:=by rw[←hy,aK5];rfl
  rw[L]at Z;have hlr:(MZ (fun x y=>Ig (F9 x) (F9 y)) l).length=l.length:=(V4 _ l).length_eq;rcases Z.2 with⟨rfl,h0⟩|⟨b,cap,cur,rfl,hbase,hg,hnc,hcm,hcs,O⟩
  ·have hl:l=[]:=Hg h0;subst hl;refine(AnyF.slices_SortFunc_none aFM none 0 _ w).mono ?_;rintro e w' ⟨rfl,h⟩;subst h;exact⟨rfl,[],fun p hp=>absurd hp G5,rfl,oq.nil _ _ _,Turns.refl _ _⟩
  have hgs:b<w.heap.size:=(H6.1 hg).1;have I:=aB1 (enc:=Po) aCs y
  have hH:HoldsK Po 29 w b 0 y.toArray:=by
   unfold HoldsK;have U:(flatK Po 29 y.toArray).size=l.length*29:=by simp[M]
   generalize flatK Po 29 y.toArray=F at I U;intro j Y;refine⟨?_,by simp[World.frozen?,hg]⟩;have e0:(cur.toList.take (l.length*29))[j]? =(y.flatMap Po)[j]? :=by rw[O]
   rw[NC AB,←I]at e0;simp only[World.cell?,hg,Kz];simp only[Option.isSome_none,Qq,KP];rw[←Wy,e0,Wy,Y1 F j Y,nO Y];rfl
  have :=AnyQ.slices_SortFunc aFM 29 hagg hsize Po aCs aio (fun x y=>Xz (F9 x.1.1) (F9 y.1.1)) (acK fun x:aG=>F9 x.1.1) g #[] b 0 cap y.toArray w eg (hcmp _ _ _ _) hH hgs EW;have hys:y.toArray.size=l.length:=by simp[M]
  rw[hys]at this;refine this.mono ?_;rintro e' w' ⟨rfl,u,n,os,hp,hs,rfl⟩;obtain⟨hsz,_,J⟩:=hp;have q:u.size=l.length:=by simpa[M]using hsz
  have e1:u.extract 0 l.length=u:=by rw[←q];exact a1g
  have e2:y.toArray.extract 0 l.length=y.toArray:=by rw[←hys];exact a1g
  rw[e1,e2]at J;have hpl:u.toList.Perm y:=SS
  have hm:u.toList.map (fun x=>x.1.1)=MZ (fun x y=>Ig (F9 x) (F9 y)) l:=by
   have aHu:y.map (fun x=>x.1.1)=l:=by rw[←z1,←hy,Yx];rfl
   refine ab6 hd ((hpl.map _).trans (by rw[aHu])) ?_;rw[cD];refine KC.2 fun i j hi Y hij=>?_;have :=hs i j (Ea _) hij (by simpa[q]using Y);rw[aBy (fun x:aG=>F9 x.1.1),Y1 u i Gs,Y1 u j Vj]at this;simpa using this
  refine⟨rfl,u.toList.map (·.1),fun p hp=>?_,by rw[Yx];exact hm,?_⟩
  ·obtain⟨x,hx,rfl⟩:=Fh.1 hp;rw[←hy];exact Fh.2 ⟨x,hpl.mem_iff.1 hx,rfl⟩
  have hfd:(u.toList.map (·.1)).flatMap (·.2)=u.toList.flatMap Po:=by rw[aK5];rfl
  rw[hfd,hlr];have hF:=aB1 (enc:=Po) aCs u.toList;rw[au]at hF;have U:(flatK Po 29 u).size=l.length*29:=Zx
  generalize hFF:flatK Po 29 u=F at hF U;refine⟨⟨by rw[wo aCs];simp[q],.inr ⟨b,cap,putCells id 0 F cur,rfl,Ea _,?_,AB,hcm,by simpa[putCells]using hcs,?_⟩⟩,⟨rfl,rfl,rfl,by simp[sortWorldK,putRowK],fun c hc hne=>?_⟩⟩
  ·unfold sortWorldK putRowK;rw[hFF,heap_grow_old _ _ (by simpa using hgs)];simp[putRow,mapBlock,Sort.ahead,P8,hg,onCells]
  ·rw[←hF];apply kN;intro j;by_cases Y:j<l.length*29
   ·have hjc:j<cur.size:=by have :=MB 29 hnc;omega
    rw[NC Y,Wy,Wy];have hjF:j<F.size:=AB
    simp[putCells,hjF,hjc]
   rw[aUO AB,J5 EW]
  unfold sortWorldK putRowK;rw[heap_grow_old _ _ (by simpa using hc)];have :b≠c:=fun e=>hne (by rw[e];rfl);simp[putRow,mapBlock,Sort.ahead,P8,this]
 cases h
end
end Go.Proofs.YtkkdimcnpacjhaaGreat
section
namespace Go.Proofs
open Go.Proofs.YtkkdimcnpacjhaaGreat
open Go.Shelf
def Tryz.ag2:Go.Shelf.Ren:=⟨fun |6=>163|15=>124|14=>269|28=>215|29=>216|20=>336|21=>337|22=>338|23=>339|24=>340|25=>341|26=>342|27=>343|46=>382|47=>307|48=>308|49=>383|50=>384|57=>403|n=>n,fun |22=>22|24=>39|25=>182|3=>3|39=>148|0=>0|53=>212|55=>214|4=>4|46=>206|45=>205|50=>47|5=>5|9=>9|66=>279|70=>283|76=>305|77=>306|n=>n,fun |n=>n⟩
def Tryz.aAu:SlLaysF0.n6 Am Tryz.ag2:={
 mixed:=AA
 f6:=⟨Tryz.f163.name,Bj,Tryz.func163.trans (BK some AA)⟩
 f14:=⟨Tryz.f269.name,Bj,Tryz.func269.trans (BK some AA)⟩
 f15:=Tryz.func124.trans (BK some AA)
 f20:=⟨Tryz.f336.name,Bj,Tryz.func336.trans (BK some AA)⟩
 f21:=⟨Tryz.f337.name,Bj,Tryz.func337.trans (BK some AA)⟩
 f22:=⟨Tryz.f338.name,Bj,Tryz.func338.trans (BK some AA)⟩
 f23:=⟨Tryz.f339.name,Bj,Tryz.func339.trans (BK some AA)⟩
 f24:=⟨Tryz.f340.name,Bj,Tryz.func340.trans (BK some AA)⟩
 f25:=⟨Tryz.f341.name,Bj,Tryz.func341.trans (BK some AA)⟩
 f26:=⟨Tryz.f342.name,Bj,Tryz.func342.trans (BK some AA)⟩
 f27:=⟨Tryz.f343.name,Bj,Tryz.func343.trans (BK some AA)⟩
 f28:=Tryz.func215.trans (BK some AA)
 f29:=Tryz.func216.trans (BK some AA)
 f46:=⟨Tryz.f382.name,Bj,Tryz.func382.trans (BK some AA)⟩
 f47:=Tryz.func307.trans (BK some AA)
 f48:=Tryz.func308.trans (BK some AA)
 f49:=⟨Tryz.f383.name,Bj,Tryz.func383.trans (BK some AA)⟩
 f50:=⟨Tryz.f384.name,Bj,Tryz.func384.trans (BK some AA)⟩
 f57:=⟨Tryz.f403.name,Bj,Tryz.func403.trans (BK some AA)⟩
 t0:=aFW
 a0:=Tryz.isAgg0
 z0:=Tryz.sizeOf0
 v0:=aD9
 t3:=GR
 a3:=jC
 z3:=l7
 v3:=nG
 t4:=U6
 a4:=qG
 z4:=qX
 v4:=sV
 t5:=yw
 a5:=oK
 z5:=rJ
 v5:=rC
 t9:=JB
 a9:=yB
 z9:=zo
 v9:=uQ
 t22:=sJ
 a22:=Tryz.isAgg22
 z22:=Tryz.sizeOf22
 v22:=Tryz.zeroValue22
 t25:=Tryz.underlying182
 a25:=Tryz.isAgg182
 z25:=Tryz.sizeOf182
 v25:=Tryz.zeroValue182
 t39:=aEq
 a39:=Tryz.isAgg148
 z39:=a0N
 v39:=aAD
 t45:=Tryz.underlying205
 a45:=Tryz.isAgg205
 z45:=Tryz.sizeOf205
 v45:=Tryz.zeroValue205
 t46:=Tryz.underlying206
 a46:=Tryz.isAgg206
 z46:=Tryz.sizeOf206
 v46:=Tryz.zeroValue206
 t50:=Tryz.underlying47
 a50:=Tryz.isAgg47
 z50:=Tryz.sizeOf47
 v50:=Tryz.zeroValue47
 t53:=aD5
 a53:=Tryz.isAgg212
 z53:=a1a
 v53:=aEF
 t55:=Tryz.underlying214
 a55:=Tryz.isAgg214
 z55:=Tryz.sizeOf214
 v55:=Tryz.zeroValue214
 t66:=Tryz.underlying279
 a66:=Tryz.isAgg279
 z66:=Tryz.sizeOf279
 v66:=Tryz.zeroValue279
 t70:=Tryz.underlying283
 a70:=Tryz.isAgg283
 z70:=Tryz.sizeOf283
 v70:=Tryz.zeroValue283
 t76:=Tryz.underlying305
 a76:=Tryz.isAgg305
 z76:=Tryz.sizeOf305
 v76:=Tryz.zeroValue305
 t77:=Tryz.underlying306
 a77:=Tryz.isAgg306
 z77:=Tryz.sizeOf306
 v77:=Tryz.zeroValue306 }
end Go.Proofs
end
namespace Go.Proofs.YtkkdimcnpacjhaaGreat
open Go.Proofs.Tryz
section
open Go.RowKit Go.Sort
def afN (a:Int) (W:BU):Calls Am 270 #[.int .i64 a] W fun e w'=>e=.returned (.bool false)/\w'=W:=by
 go_enter func270,Tryz.ntmps270
 go_wp2
 all_goals (go_ret;exact⟨Bh,rfl⟩)
def al5 (a b:Int) (W:BU):Calls Am 166 #[.int .i64 a,.int .i64 b] W fun e w'=>e=.returned (.int .i64 (KA a b))/\w'=W:=by
 unfold KA
 go_enter func166,Tryz.ntmps166
 go_wp2_with (go_at_call 270;refine(afN _ _).mono ?_;rintro e w' ⟨rfl,rfl⟩)
 all_goals (go_ret;exact⟨rfl,rfl⟩)
def aYs (r x y:Int) (j:r=if x=0 then y else x) (b c:Nat) (W:BU) (J:W.cell? ⟨b,0,none⟩=some (.int .i64 x)) (L:W.cell? ⟨b,1,none⟩=some (.int .i64 y)):Calls Am 165 #[.slice (some ⟨b,0,none⟩) 2 c] W fun e w'=>e=.returned (.int .i64 r)/\w'=W:=by
 have q:x≠0->x=r:=fun h=>by rw[j,Dp h]
 have u:x=0->y=r:=fun h=>by rw[j,Di h]
 clear j
 go_enter func165,Tryz.ntmps165
 go_wp2
 refine wp_loop_rounds 3 ?_;rw[rounds_succ]
 go_wp2
 ·rename_i h
  go_ret
  exact⟨by rw[q KY];rfl,rfl⟩
 rename_i h;have M:=u KY;rw[rounds_succ]
 go_wp2
 ·go_ret
  exact⟨rfl,rfl⟩
 rename_i z;rw[rounds_succ]
 go_wp2
 go_ret
 have I:r=0:=N8
 subst I;exact⟨rfl,rfl⟩
set_option maxRecDepth 100000 in
set_option maxHeartbeats 1000000 in
def anK (r ai ad bi bd:Int) (hr:r=if ad=bd then KA ai bi else KA ad bd) (a1 a2 a3 a4 a5 a6 a8 a9 a10 a11 a12 a13 a14 a15 a16 a17 a18 a19 a20 a21 a22 a23 a24 a25 a26 a27 a28 b1 b2 b3 b4 b5 b6 b8 b9 b10 b11 b12 b13 b14 b15 b16 b17 b18 b19 b20 b21 b22 b23 b24 b25 b26 b27 b28:Au) (W:BU):Calls Am 164 #[.agg #[.int .i64 ai,a1,a2,a3,a4,a5,a6,.int .i64 ad,a8,a9,a10,a11,a12,a13,a14,a15,a16,a17,a18,a19,a20,a21,a22,a23,a24,a25,a26,a27,a28],.agg #[.int .i64 bi,b1,b2,b3,b4,b5,b6,.int .i64 bd,b8,b9,b10,b11,b12,b13,b14,b15,b16,b17,b18,b19,b20,b21,b22,b23,b24,b25,b26,b27,b28]] W fun e w'=>e=.returned (.int .i64 r)/\∃q os',w'=grow (W.drewN q) os':=by
 generalize hA:(#[.int .i64 ai,a1,a2,a3,a4,a5,a6,.int .i64 ad,a8,a9,a10,a11,a12,a13,a14,a15,a16,a17,a18,a19,a20,a21,a22,a23,a24,a25,a26,a27,a28]:C9 Au)=A;generalize hB:(#[.int .i64 bi,b1,b2,b3,b4,b5,b6,.int .i64 bd,b8,b9,b10,b11,b12,b13,b14,b15,b16,b17,b18,b19,b20,b21,b22,b23,b24,b25,b26,b27,b28]:C9 Au)=B;have z:A[0]? =some (.int .i64 ai):=by rw[←hA];rfl
 have I:A[7]? =some (.int .i64 ad):=by rw[←hA];rfl
 have J:B[0]? =some (.int .i64 bi):=by rw[←hB];rfl
 have L:B[7]? =some (.int .i64 bd):=by rw[←hB];rfl
 have hAs:A.size=29:=by rw[←hA];rfl
 have hBs:B.size=29:=by rw[←hB];rfl
 clear hA hB
 have M:r=if KA ad bd=0 then KA ai bi else KA ad bd:=by
  rw[hr];unfold KA;by_cases h1:ad<bd
  ·rw[Di h1,Dp AB];simp
  by_cases h2:ad>bd
  ·rw[Dp h1,Di h2,Dp AB];simp
  rw[Dp h1,Dp h2,Di AB];simp
 have j:=al5;clear hr;generalize KA=cm at j M;have ca:=aJW W A 39;have cb:=aJW (W.alloc (.cells A 39)) B 39;have O:(W.alloc (.cells A 39)).heap.size=W.heap.size+1:=Bh
 have u:∀k,((W.alloc (.cells A 39)).alloc (.cells B 39)).cell? ⟨W.heap.size,k,none⟩=A[k]? :=fun k=>by rw[World.cell?_alloc_past _ _ _ (by rw[O];exact WO _)];exact ca k
 rw[O]at cb;have U:=(u 0).trans z;have Y:=(u 7).trans I;have Z:=(cb 0).trans J;have fb7:=(cb 7).trans L;have hg:∃os,(W.alloc (.cells A 39)).alloc (.cells B 39)=grow W os:=⟨_,by rw[alloc_eq_grow,alloc_eq_grow,grow_grow]⟩
 have hs2:((W.alloc (.cells A 39)).alloc (.cells B 39)).heap.size=W.heap.size+2:=Bh
 clear ca cb u z I J L
 go_enter func164,Tryz.ntmps164
 go_wp2
 generalize(W.alloc (.cells A 39)).alloc (.cells B 39)=w1 at U Y Z fb7 hg hs2 ⊢;refine wp_region_still_tail 10 AA AA ?_;simp only[List.take_succ_cons,qV,List.drop_succ_cons,lg]
 repeat still_step
 still_call (j _ _ _)
 repeat still_step
 still_call (j _ _ _)
 refine wpStill_nil ?_
 change wpList _ _ _ _ _ w1.drew
 have hg2:∃os,w1.drew=grow (W.drewN 1) os:=by
  obtain⟨os,rfl⟩:=hg;exact⟨os,rfl⟩
 generalize w1.drew=w2 at hg2 ⊢;have hc:=aJW w2 #[.int .i64 (cm ad bd),.int .i64 (cm ai bi)] 3;have hc0:=hc 0;have hc1:=hc 1;clear hc U Y Z fb7 hg hs2 j;simp only[List.getElem?_toArray]at hc0 hc1
 go_wp2_with (go_at_call 165;refine(aYs r _ _ M _ _ _ hc0 hc1).mono ?_;rintro e w' ⟨rfl,rfl⟩)
 all_goals (go_ret;obtain⟨os,rfl⟩:=hg2;exact⟨rfl,1,_,by rw[alloc_eq_grow,grow_grow]⟩)
def afx (l r:A8 AV) (h:fG l=some r):
 BA 163 [.aO 0,.d (.fn (.func 164) [] [])] [.arr 39 29 (l.map BI)] (.fC []) [.arr 39 29 (r.map BI)]:=
 avR (ρ:=Tryz.ag2) Tryz.aAu Tryz.isAgg39 Tryz.sizeOf39 (enters_of func164 AA rfl) (ajl fun r j ad bi q u=>anK r j ad bi q u) l r h
end
section
set_option maxRecDepth 20000
set_option maxHeartbeats 4000000
def aHm (j:AV) (u:(Int->AL AZ)):Int->AL AZ:=fun q=>(bif q<(j.Content.Levels.Users.length:Int) then(Ak j.Content.Levels.Users q).bind fun z=>(bif (z.User.size:Int)>2000 then some true else u (Aw (q+1)))else some false)
def aM8 (j:AV):Int->AL AZ:=bJ (aHm j) Ap
def aMB (j:AV) (u:(Int->AL AZ)):Int->AL AZ:=fun q=>(bif q<(j.Content.gJ.length:Int) then(Ak j.Content.gJ q).bind fun z=>(bif (z.size:Int)>2000 then some true else u (Aw (q+1)))else aM8 j 0)
def aMZ (j:AV):Int->AL AZ:=bJ (aMB j) Ap
def aK9 (j:AV) (u:(Int->AL AZ)):Int->AL AZ:=fun q=>(bif q<(j.Content.Allow.length:Int) then(Ak j.Content.Allow q).bind fun z=>(bif (z.size:Int)>2000 then some true else u (Aw (q+1)))else aMZ j 0)
def aWp (j:AV):Int->AL AZ:=bJ (aK9 j) Ap
def xX (j:AV):AL AZ:=(bif (j.bI.length:Int)>40 then some true else some (decide ((j.bQ.length:Int)>40))).bind fun L=>(bif L then some true else some (decide ((j.Content.Allow.length:Int)>40))).bind fun M=>(bif M then some true else some (decide ((j.Content.gJ.length:Int)>40))).bind fun O=>(bif O then some true else some (decide ((j.Content.Levels.Users.length:Int)>40))).bind fun U=>(bif U then some true else some (decide ((j.Content.Levels.Kinds.length:Int)>40))).bind fun Y=>(bif Y then some true else(bif (j.Room.size:Int)>2000 then some true else some (decide ((j.bF.size:Int)>2000))).bind fun q=>(bif q then some true else some (decide ((j.Key.size:Int)>2000))).bind fun u=>(bif u then some true else some (decide ((j.Content.Text.size:Int)>2000))).bind fun z=>(bif z then some true else some (decide ((j.Content.Via.size:Int)>2000))).bind fun I=>(bif I then some true else some (decide ((j.nU.Server.size:Int)>2000))).bind fun J=>(bif J then some true else aWp j 0))
def aSF (aQ r) (h:xX aQ=some r):BA 44 [DC aQ] [] (Ag r) []:=BG func44 rfl<|AY<|AY<|Aa<|AU 2<|.p (BQ Ae aQ.bI Bg rfl)<|.a 1<|AP h fun x1 hx1 h=>.mg 13 5 (Ag x1) (.bi hx1 (k2:=fun h=>.a 2<|.Z (BQ Ae aQ.bQ Bg rfl)<|D7))<|.a 1<|AP h fun x3 hx3 h=>.mg 20 4 (Ag x3) (DW hx3 (k2:=fun e i=>by subst e;have h:=i;exact .a 2<|.Z (BQ DV aQ.Content.Allow Fl rfl)<|D7))<|.a 1<|AP h fun x5 hx5 h=>.mg 26 4 (Ag x5) (DW hx5 (k2:=fun e i=>by subst e;have h:=i;exact .a 2<|.Z (BQ DV aQ.Content.gJ Fl rfl)<|D7))<|.a 1<|AP h fun x7 hx7 h=>.mg 32 5 (Ag x7) (DW hx7 (k2:=fun e i=>by subst e;have h:=i;exact .a 3<|.Z (BQ Eb aQ.Content.Levels.Users Fz rfl)<|D7))<|.a 1<|AP h fun x9 lW h=>.mg 39 5 (Ag x9) (DW lW (k2:=fun e i=>by subst e;have h:=i;exact .a 3<|.Z (BQ Ei aQ.Content.Levels.Kinds Fv rfl)<|D7))<|.aY<|BH h CO fun h=>Aa<|AU 4<|AP h fun x12 j h=>.mg 49 5 (Ag x12) (.bi j)<|.a 1<|AP h fun x14 q h=>.mg 56 4 (Ag x14) (DW q)<|.a 1<|AP h fun x16 u h=>.mg 62 4 (Ag x16) (DW u)<|.a 1<|AP h fun x18 z h=>.mg 68 4 (Ag x18) (DW z)<|.a 1<|AP h fun vJ I h=>.mg 74 5 (Ag vJ) (DW I)<|.aY<|BH h CO fun h=>Aa<|AY<|Aj<|EH (fun J=>⟨BF 125 [(3,.ptr 0 0),(4,AX J)],[.box (BP (Fg aQ.Content))],0⟩) _ _ _ (Ac 125 24 [AQ 1]) h<|fun J40 k24 L J h=>Aa<|AU 3<|.Z (BQ DV aQ.Content.Allow Fl rfl)<|CB h (fun h=>Aa<|Aj<|AP h fun vX M h=>AU 3<|.Z (BN DV M Fl Jj rfl)<|BH h CO fun h=>Ar<|.a 3<|.nil<|L _ _ (Ac 125 24 [AQ 0]) h) fun h=>D8<|Aa<|AY<|Aj<|EH (fun O=>⟨BF 125 [(3,.ptr 0 0),(5,AX O)],[.box (BP (Fg aQ.Content))],0⟩) _ _ _ (Ac 125 40 [AQ 0]) h<|fun J39 k29 U O h=>Aa<|AU 3<|.Z (BQ DV aQ.Content.gJ Fl rfl)<|CB h (fun h=>Aa<|Aj<|AP h fun x31 Y h=>AU 3<|.Z (BN DV Y Fl Jj rfl)<|BH h CO fun h=>Ar<|.a 3<|.nil<|U _ _ (Ac 125 40 [AQ 0]) h) fun h=>D8<|Aa<|AY<|Aj<|EH (fun Z=>⟨BF 125 [(3,.ptr 0 0),(6,AX Z)],[.box (BP (Fg aQ.Content))],0⟩) _ _ _ (Ac 125 72 [AQ 0]) h<|fun J38 k34 aCt Z h=>Aa<|AU 4<|.Z (BQ Eb aQ.Content.Levels.Users Fz rfl)<|CB h (fun h=>Aa<|Aj<|AP h fun x36 afT h=>AU 4<|.Z (BN Eb afT Fz Jh rfl)<|BH h CO fun h=>Ar<|.a 3<|.nil<|aCt _ _ (Ac 125 72 [AQ 0]) h) fun h=>F5
def aKq (j:Ai) (u:(Int->AL AZ)):Int->AL AZ:=fun q=>(bif q<(j.length:Int) then(Ak j q).bind fun z=>(xX z).bind fun I=>(bif I then some true else u (Aw (q+1)))else some false)
def aTA (j:Ai):Int->AL AZ:=bJ (aKq j) Ap
def aE2 (j:Ai) (q:Int):AL AZ:=(bif (j.length:Int)>q then some true else aTA j 0)
def ahB (ak gX r) (h:aE2 ak gX=some r):BA 17 [BL ak,AX gX] [] (Ag r) []:=BG func17 rfl<|AY<|Aa<|AU 1<|.Z (BQ BI ak Cm rfl)<|BH h CO fun h=>Aa<|AY<|Aj<|EH (fun z=>⟨BF 21 [(0,BL ak),(5,AX z)],[],0⟩) _ _ _ (Ac 21 33 []) h<|fun L M j z h=>Aa<|AU 2<|.Z (BQ BI ak Cm rfl)<|CB h (fun h=>Aa<|Aj<|CJ h fun I q J u h=>AU 2<|.p (BN BI q Cm D9 rfl)<|.a 1<|.ca (aSF I J u)<|.aY<|BH h CO fun h=>Ar<|.a 3<|.nil<|j _ _ (Ac 21 33 []) h) fun h=>F5
def Xx (j:AO) (q:Int):AL AO:=(Iw 1 0 (j.length:Int) (Aw ((j.length:Int)+q))).bind fun u=>some (gCopy u j)
def wV (iD axE r) (h:Xx iD axE=some r):BA 327 [II iD,AX axE] [] (.aO 0) [(IW r)]:=BG func327 rfl<|BR<|.f (Cb 5 1 rfl)<|.aY<|AP h fun q j h=>AU 1<|.p (BQ Dn iD XQ rfl)<|.a 1<|.p (BQ Dn iD XQ rfl)<|.a 2<|.Y (WE Dn 0 j JZ Qk AA AA AA Bj rfl)<|AU 2<|.f (aT7 (k:=1) Dn q iD JZ AA (fun _=>rfl) rfl)<|.aY<|AY<|LU
def XA  (u:(AO->Int->AL AO)):AO->Int->AL AO:=fun q j=>(bif j>=128 then(DU 1 q [Eu .or .u8 (IntKind.u8.wrap j) 128]).bind fun z=>(PO .shr .u64 j 7).bind fun I=>u z I else(DU 1 q [IntKind.u8.wrap j]).bind fun J=>some J)
def aS8  :AO->Int->AL AO:=aU (XA) Ap
def aCh (j:AO) (q:Int):AL AO:=aS8 j q
def Y9 (j:AO) (q:Int):AL AO:=(PO .shl .u64 (IntKind.u64.wrap q) 1).bind fun u=>(bif q<0 then aCh j (ZU .u64 u)else aCh j u)
def zu (iD gX r) (h:Y9 iD gX=some r):BA 328 [.aO 0,AX gX] [(IW iD)] (.aO 1) [.dead,(IW r)]:=BG func328 rfl<|BR<|.f (Cb 5 1 rfl)<|.aY<|AP h fun z I h=>AU 2<|.Z (Rch (k:=.u64) (k':=.u64) I rfl)<|DT (fun s=>∃(J:Int),CX s ⟨BF 28 [(0,.aO 1),(5,.d ((mD .u64) J))],[.dead,(IW iD)],1⟩/\aCh iD J=some r) (by rintro s ⟨J,hs,h⟩;exact DF hs<|Aa<|Aj<|Dk (fun Y j=>⟨BF 28 [(0,.aO 1),(5,.d ((mD .u64) j))],[.dead,(IW Y)],1⟩) _ _ _ _ (Ac 28 33 [(0,false),AQ 1]) h<|fun Z k5 L Y j h=>Aa<|AY<|CB h (fun h=>Aj<|AP h fun x7 M h=>AU 3<|.p (Wq (k:=.u8) (u:=(IntKind.u8.wrap j)) (v:=128) rfl)<|.p (EP JZ Qk [Dn (Eu .or .u8 (IntKind.u8.wrap j) 128)] rfl)<|.Y (E8 (k:=1) Dn M JZ AA (fun _=>rfl) Bj rfl)<|AP h fun x8 O h=>Ar<|.a 1<|.p (aTi (k:=.u64) (k':=.u64) O rfl)<|.a 1<|.nil<|L _ _ _ (Ac 28 33 [(0,false),AQ 2]) h) fun h=>D8<|AP h fun x9 U h=>AU 3<|.p (EP JZ Qk [Dn (IntKind.u8.wrap j)] rfl)<|.Y (E8 (k:=1) Dn U JZ AA (fun _=>rfl) Bj rfl)<|by cases h;exact .ret (FQ [(0,false),AQ 2]))<|fun q=>AY<|BH h (fun h=>Ar<|.a 1<|.p (aPk (k:=.u64) (u:=z) rfl)<|.a 1<|.nil<|q _ ⟨(ZU .u64 z),Ac 28 33 [(0,false),AQ 0],h⟩) fun h=>q _ ⟨z,Ac 28 33 [(0,false),AQ 0],h⟩
def sB (q:AO) (j:BD):AL AO:=(Y9 q (j.size:Int)).bind fun u=>(DU 1 u (CU j)).bind fun z=>some z
def aY9 (iD fD r) (h:sB iD fD=some r):BA 326 [.aO 0,CZ fD] [(IW iD)] (.aO 1) [.dead,(IW r)]:=BG func326 rfl<|BR<|.f (Cb 5 1 rfl)<|.aY<|CJ h fun u j z q h=>AU 3<|.f (x:=.aO 2) (EX [.ent 0] [.aO 0,AX (fD.size:Int)] (zu iD (fD.size:Int) u j) rfl)<|.a 1<|.Y (akU (k:=2) q JZ Qk H7 AA rfl)<|by cases h;exact .ret (FQ [(0,false),AQ 3])
def Ru (q:AO) (j:BD):AL AO:=(Xx q (Aw ((j.size:Int)+10))).bind fun u=>(sB u j).bind fun z=>some z
def aDu (iD fD r) (h:Ru iD fD=some r):BA 251 [II iD,CZ fD] [] (.aO 0) [(IW r)]:=BG func251 rfl<|BR<|.f (Cb 5 1 rfl)<|.aY<|CJ h fun u j z q h=>AU 4<|.f (x:=.aO 1) (KL [II iD,AX (Aw ((fD.size:Int)+10))] (wV iD (Aw ((fD.size:Int)+10)) u j) rfl)<|.a 1<|.Y (x:=.aO 2) (EX [.ent 1] [.aO 1,CZ fD] (aY9 u fD z q) rfl)<|KX
def OC (j:AO) (q:Int):AL AO:=(Xx j 10).bind fun u=>(Y9 u q).bind fun z=>some z
def WJ (iD gX r) (h:OC iD gX=some r):BA 252 [II iD,AX gX] [] (.aO 0) [(IW r)]:=BG func252 rfl<|BR<|.f (Cb 5 1 rfl)<|.aY<|CJ h fun u j z q h=>AU 1<|.f (x:=.aO 1) (KL [II iD,AX 10] (wV iD 10 u j) rfl)<|.a 1<|.Y (x:=.aO 2) (EX [.ent 1] [.aO 1,AX gX] (zu u gX z q) rfl)<|KX
def Xi (q:AO) (j:AZ):AL AO:=(Xx q 1).bind fun u=>(bif j then(DU 1 u [1]).bind fun z=>some z else(DU 1 u [0]).bind fun I=>some I)
def aYb (iD FX r) (h:Xi iD FX=some r):BA 253 [II iD,Ag FX] [] (.aO 0) [(IW r)]:=BG func253 rfl<|BR<|.f (Cb 5 1 rfl)<|.aY<|AP h fun z j h=>AU 1<|.Y (x:=.aO 1) (KL [II iD,AX 1] (wV iD 1 z j) rfl)<|Aa<|AY<|BH h (fun h=>AP h fun I q h=>AU 1<|.p (EP JZ Qk [Dn 1] rfl)<|.Y (E8 (k:=1) Dn q JZ AA (fun _=>rfl) Bj rfl)<|KX) fun h=>AP h fun J u h=>AU 1<|.p (EP JZ Qk [Dn 0] rfl)<|.Y (E8 (k:=1) Dn u JZ AA (fun _=>rfl) Bj rfl)<|KX
abbrev Gl:=A8 BD
def aJk (j:Gl) (z:(AO->Int->AL AO)):AO->Int->AL AO:=fun u q=>(bif q<(j.length:Int) then(Ak j q).bind fun I=>(sB u I).bind fun J=>z J (Aw (q+1))else some u)
def aVa (j:Gl):AO->Int->AL AO:=aU (aJk j) Ap
def a0l (q:AO) (j:Gl):AL AO:=(Y9 q (j.length:Int)).bind fun u=>aVa j u 0
def aiC (iD dh r) (h:a0l iD dh=some r):BA 329 [.aO 0,IC dh,.d (.fn (.func 326) [] [])] [(IW iD)] (.aO 1) [.dead,(IW r)]:=BG func329 rfl<|BR<|.f (Cb 5 1 rfl)<|.aY<|AP h fun M j h=>AU 2<|.p (BQ DV dh Fl rfl)<|.Y (x:=.aO 2) (EX [.ent 0] [.aO 0,AX (dh.length:Int)] (zu iD (dh.length:Int) M j) rfl)<|Aa<|AU 1<|.Z (BQ DV dh Fl rfl)<|Aj<|Dk (fun q J=>⟨BF 25 [(0,.aO 1),(2,.d (.fn (.func 326) [] [])),(13,IC dh),(14,AX (dh.length:Int)),(15,AX J)],[.dead,(IW q)],1⟩) _ _ _ _ (Ac 25 57349 [(0,false),AQ 2]) h<|fun U Y u q J h=>AY<|Aa<|CB h (fun h=>Aa<|Aj<|AP h fun L z h=>BR<|.Z (BN DV z Fl Jj rfl)<|AP h fun O I h=>Ar<|.a 3<|.f (x:=.aO 2) (aRI [.ent 1] [] [] [.aO 1,CZ L] (aY9 q L O I) rfl)<|.a 1<|.nil<|Ar<|.a 2<|.nil<|u _ _ _ (Ac 25 57349 [(0,false),AQ 2]) h) fun h=>D8<|AY<|kE
def kW (q:AO) (j:Gl):AL AO:=(Xx q (Aw ((Aw (8*(j.length:Int)))+10))).bind fun u=>(a0l u j).bind fun z=>some z
def aQ1 (iD dh r) (h:kW iD dh=some r):BA 254 [II iD,IC dh] [] (.aO 0) [(IW r)]:=BG func254 rfl<|BR<|.f (Cb 5 1 rfl)<|.aY<|CJ h fun u j z q h=>AU 2<|.p (BQ DV dh Fl rfl)<|.a 2<|.f (x:=.aO 1) (KL [II iD,AX (Aw ((Aw (8*(dh.length:Int)))+10))] (wV iD (Aw ((Aw (8*(dh.length:Int)))+10)) u j) rfl)<|.a 1<|.Y (x:=.aO 2) (EX [.ent 1] [.aO 1,IC dh,.d (.fn (.func 326) [] [])] (aiC u dh z q) rfl)<|KX
def aO8 (j:D6) (z:(AO->Int->AL AO)):AO->Int->AL AO:=fun u q=>(bif q<7 then(Ak ([j.Levels.User,j.Levels.Message,j.Levels.State,j.Levels.gy,j.Levels.jL,j.Levels.lV,j.Levels.gW]:AO) q).bind fun I=>(OC u I).bind fun J=>z J (Aw (q+1))else some u)
def aI6 (j:D6):AO->Int->AL AO:=aU (aO8 j) Ap
def aAT (j:D6) (I:(AO->Int->AL AO)):AO->Int->AL AO:=fun u q=>(bif q<(j.Levels.Kinds.length:Int) then(Ak j.Levels.Kinds q).bind fun z=>(OC u z.Kind).bind fun J=>(OC J z.N).bind fun L=>I L (Aw (q+1))else aI6 j u 0)
def aLU (j:D6):AO->Int->AL AO:=aU (aAT j) Ap
def aAI (j:D6) (z:(AO->Int->AL AO)):AO->Int->AL AO:=fun M q=>(bif q<(j.Levels.Users.length:Int) then(Ak j.Levels.Users q).bind fun u=>(Ru M u.User).bind fun I=>(OC I u.N).bind fun J=>z J (Aw (q+1))else(OC M (j.Levels.Kinds.length:Int)).bind fun L=>aLU j L 0)
def aPt (j:D6):AO->Int->AL AO:=aU (aAI j) Ap
def oM (j:D6):AL AO:=(Ru [] j.Text).bind fun q=>(OC q j.N).bind fun u=>(OC u j.Target).bind fun z=>(Xi z j.Thread).bind fun I=>(Ru I j.Via).bind fun J=>(kW J j.Allow).bind fun L=>(kW L j.gJ).bind fun M=>(OC M (j.Levels.Users.length:Int)).bind fun O=>aPt j O 0
def aVB (eY r) (h:oM eY=some r):BA 158 [H9 eY] [] (II r) []:=BG func158 rfl<|AY<|AP h fun x1 hx1 h=>AU 2<|.Z (x:=(II x1)) (aBq [.d (.lit (.slice none 0 0)),CZ eY.Text] (aDu [] eY.Text x1 hx1).view rfl)<|AP h fun x2 hx2 h=>AU 3<|.X (WJ x1 eY.N x2 hx2).view<|AP h fun x3 hx3 h=>AU 3<|.X (WJ x2 eY.Target x3 hx3).view<|AP h fun x4 hx4 h=>AU 3<|.X (aYb x3 eY.Thread x4 hx4).view<|AP h fun x5 hx5 h=>AU 3<|.X (aDu x4 eY.Via x5 hx5).view<|AP h fun x6 hx6 h=>AU 3<|.X (aQ1 x5 eY.Allow x6 hx6).view<|AP h fun x7 hx7 h=>AU 3<|.X (aQ1 x6 eY.gJ x7 hx7).view<|AY<|AP h fun x8 ni h=>AU 3<|.p (BQ Eb eY.Levels.Users Fz rfl)<|.X (WJ x7 (eY.Levels.Users.length:Int) x8 ni).view<|Aa<|AU 2<|.Z (BQ Eb eY.Levels.Users Fz rfl)<|Aj<|Dk (fun v9 u=>⟨BF 103 [(3,II v9),(4,.ptr 0 0),(46,Ob eY.Levels.Users),(47,AX (eY.Levels.Users.length:Int)),(48,AX u)],[.box (BP (Ez eY.Levels))],0⟩) _ _ _ _ (Ac 103 492581209243672 [AQ 1]) h<|fun J32 k11 z v9 u h=>AY<|Aa<|CB h (fun h=>Aa<|Aj<|AP h fun I J h=>BR<|.Z (BN Eb J Fz Jh rfl)<|CJ h fun L M x15 O h=>Dz AA AA AA (.a 3<|.ca (aDu v9 I.User L M).view<|.a 2<|.ca (WJ L I.N x15 O).view<|.a 1<|.nil _)<|Ar<|.a 2<|.nil<|z _ _ _ (Ac 103 492581209243672 [AQ 0]) h) fun h=>D8<|AP h fun x16 U h=>AU 3<|.p (BQ Ei eY.Levels.Kinds Fv rfl)<|.X (WJ v9 (eY.Levels.Kinds.length:Int) x16 U).view<|Aa<|AU 2<|.Z (BQ Ei eY.Levels.Kinds Fv rfl)<|Aj<|Dk (fun j Y=>⟨BF 103 [(3,II j),(4,.ptr 0 0),(66,Oc eY.Levels.Kinds),(67,AX (eY.Levels.Kinds.length:Int)),(68,AX Y)],[.box (BP (Ez eY.Levels))],0⟩) _ _ _ _ (Ac 103 516508834063867445272 [AQ 0]) h<|fun J31 k19 Z j Y h=>AY<|Aa<|CB h (fun h=>Aa<|Aj<|AP h fun x21 OH h=>BR<|.Z (BN Ei OH Fv Jq rfl)<|CJ h fun qP vY x23 DJ h=>Dz AA AA AA (.a 3<|.ca (WJ j x21.Kind qP vY).view<|.a 2<|.ca (WJ qP x21.N x23 DJ).view<|.a 1<|.nil _)<|Ar<|.a 2<|.nil<|Z _ _ _ (Ac 103 516508834063867445272 [AQ 0]) h) fun h=>D8<|Aa<|AY<|Aj<|Dk (fun q v25=>⟨BF 103 [(3,II q),(94,.d ((NZ Ae) ([eY.Levels.User,eY.Levels.Message,eY.Levels.State,eY.Levels.gy,eY.Levels.jL,eY.Levels.lV,eY.Levels.gW]:(A8 Int)))),(95,AX v25)],[],0⟩) _ _ _ _ (Ac 103 59421121885698253195157962760 []) h<|fun J30 k26 aCu q v25 h=>AY<|Aa<|CB h (fun h=>Aa<|Aj<|AP h fun x28 hx28 h=>BR<|.Z (a0q (k:=.i64) Ae hx28 aA9 CY AA rfl)<|AP h fun x29 hx29 h=>Ar<|.a 2<|.ca (WJ q x28 x29 hx29).view<|.a 1<|.nil<|Ar<|.a 2<|.nil<|aCu _ _ _ (Ac 103 59421121885698253195157962760 []) h) fun h=>F5
def aMv  :AL Int:=some 860922984064492325
def ag0  (r:Int) (h:aMv=some r):BA 222 [] [] (AX r) []:=BG func222 rfl<|Ze
def aJM (j:AO) (z:(Int->Int->AL Int)):Int->Int->AL Int:=fun u q=>(bif q<(j.length:Int) then(Ak j q).bind fun I=>z (Eu .and .u64 (IntKind.u64.wrap ((Eu .xor .u64 u (IntKind.u64.wrap I))*1099511628211)) 4611686018427387903) (Aw (q+1))else some (Aw u))
def aWQ (j:AO):Int->Int->AL Int:=aU (aJM j) Ap
def aN5 (j:Int) (q:AO):AL Int:=aWQ q (Eu .and .u64 (IntKind.u64.wrap j) 4611686018427387903) 0
def aiq (apr fV r) (h:aN5 apr fV=some r):BA 221 [AX apr,II fV] [] (AX r) []:=BG func221 rfl<|AY<|AU 2<|.Z (RQ (k:=.u64) (u:=(IntKind.u64.wrap apr)) (v:=4611686018427387903) rfl)<|Aa<|AU 1<|.Z (BQ Dn fV XQ rfl)<|Aj<|Dk (fun j I=>⟨BF 26 [(5,.d ((mD .u64) j)),(11,II fV),(12,AX (fV.length:Int)),(13,AX I)],[],0⟩) _ _ _ _ (Ac 26 14368 []) h<|fun L M q j I h=>AY<|Aa<|CB h (fun h=>Aa<|Aj<|AP h fun J z h=>BR<|.Z (BN Dn z XQ aMR rfl)<|Ar<|.a 3<|.p (aPr (k:=.u64) (u:=j) (v:=(IntKind.u64.wrap J)) rfl)<|.a 1<|.p (RQ (k:=.u64) (u:=(IntKind.u64.wrap ((Eu .xor .u64 j (IntKind.u64.wrap J))*1099511628211))) (v:=4611686018427387903) rfl)<|.a 1<|.nil<|Ar<|.a 2<|.nil<|q _ _ _ (Ac 26 14368 []) h) fun h=>F5
def sH (j:AO):AL Int:=(aMv).bind fun q=>(aN5 q j).bind fun u=>some u
def aSp (iD r) (h:sH iD=some r):BA 138 [II iD] [] (AX r) []:=BG func138 rfl<|AY<|CJ h fun u j z q h=>BR<|.ca (ag0  u j)<|.a 1<|.X (aiq u iD z q)<|Cj
def qc (j:AV):AL Int:=(oM j.Content).bind fun q=>(sH q).bind fun u=>some u
def aSI (aQ r) (h:qc aQ=some r):BA 92 [DC aQ] [] (AX r) []:=BG func92 rfl<|AY<|CJ h fun u j z q h=>AU 2<|.ca (aVB aQ.Content u j)<|.X (aSp u z q)<|Cj
def Sr (j:Gl):AL Gl:=(DU 16 [] j).bind fun q=>some q
def aCi (ak r) (h:Sr ak=some r):BA 135 [IC ak] [] (.aO 0) [(V7 r)]:=BG func135 rfl<|BR<|.f (Cb 9 1 rfl)<|.aY<|AP h fun q j h=>AU 1<|.Y (aEo 9 1 (E8 (k:=_) DV j Na AA (fun _=>rfl) Bj rfl))<|KX
def ZW (j:Cc):AL Cc:=(DU 24 [] j.Users).bind fun q=>(DU 16 [] (({ j with Users:=q }).Kinds)).bind fun u=>some ({ { j with Users:=q }with Kinds:=u })
def aP9 (ak r) (h:ZW ak=some r):BA 136 [IX ak] [] (IX r) []:=BG func136 rfl<|AY<|AP h fun j q h=>AU 2<|.f (aEo 108 2 (E8 (k:=_) Eb q wX AA (fun _=>rfl) Bj rfl))<|.conv _ (Jf (e:=108) (s:=2) 3 (xs:=List.map Eb j) AA)<|.aW<|AP h fun u z h=>AU 2<|.f (aEo 111 2 (E8 (k:=_) Ei z aGR AA (fun _=>rfl) Bj rfl))<|.conv _ (Jf (e:=111) (s:=2) 5 (xs:=List.map Ei u) AA)<|.aW<|AY<|Ep<|by rw[←CV h];exact⟨[IX ({ { ak with Users:=j }with Kinds:=u })],[],⟨⟨1,BP (Ez ({ { ak with Users:=j }with Kinds:=u })),true,9,AA,AA,AA,YF,Dt AA,rF,AA⟩,trivial⟩,AA,AA,AA⟩
def qp (j:AZ):AL Int:=(bif j then some 5 else some 0)
def pJ (j:Int) (q:AZ):AL Int:=(bif q then some 2 else(bif (j==6)then some 96 else(bif (j==7)then some 1 else(bif (j==9)then some 3 else(bif (j==11)then some 13 else(bif (j==12)then qp (j==12)else(bif (j==13)then qp (j==13)else qp (j==14))))))))
def mG (j:Int):AL Int:=(bif (j==2)then some 19 else(bif (j==3)then some 128 else(bif (j==4)then some 34 else(bif (j==5)then pJ j (j==5)else(bif (j==8)then pJ j (j==8)else pJ j (j==10))))))
def aUi (dX r) (h:mG dX=some r):BA 172 [AX dX] [] (AX r) []:=BG func172 rfl<|AY<|Aa<|AY<|Aj<|AY<|Dw h CO fun h=>AY<|Dw h CO fun h=>AY<|Dw h CO fun h=>DT (fun s=>∃(z:AZ),CX s ⟨BF 26 [(3,AX dX),(10,Ag z)],[],0⟩/\pJ dX z=some r) (by rintro s ⟨z,hs,h⟩;exact DF hs<|Dw h CO fun h=>AY<|Dw h CO fun h=>AY<|Dw h CO fun h=>AY<|Dw h CO fun h=>AY<|Dw h CO fun h=>DT (fun s=>∃(j:AZ),CX s ⟨BF 26 [(22,Ag j)],[],0⟩/\qp j=some r) (by rintro s ⟨j,hs,h⟩;exact DF hs<|JJ)<|fun q=>AY<|CB h (fun h=>q _ ⟨(dX==12),Ac 26 4194304 [],h⟩) fun h=>AY<|CB h (fun h=>q _ ⟨(dX==13),Ac 26 4194304 [],h⟩) fun h=>Ar<|.a 2<|.nil<|q _ ⟨(dX==14),Ac 26 4194304 [],h⟩)<|fun u=>AY<|CB h (fun h=>u _ ⟨(dX==5),Ac 26 1032 [],h⟩) fun h=>AY<|CB h (fun h=>u _ ⟨(dX==8),Ac 26 1032 [],h⟩) fun h=>Ar<|.a 2<|.nil<|u _ ⟨(dX==10),Ac 26 1032 [],h⟩
def lK (j:Int) (q:AZ):AL Int:=(bif q then(mG j).bind fun u=>some u else(bif (j==14)then some 4 else some 0))
def jo (j:Int):AL Int:=(bif (j==2)then some 18 else(bif (j==3)then lK j (j==3)else(bif (j==4)then lK j (j==4)else(bif (j==5)then lK j (j==5)else lK j (j==6)))))
def aVA (dX r) (h:jo dX=some r):BA 137 [AX dX] [] (AX r) []:=BG func137 rfl<|AY<|Aa<|AY<|Aj<|AY<|Dw h CO fun h=>DT (fun s=>∃(j:AZ),CX s ⟨BF 15 [(0,AX dX),(3,AX dX),(6,Ag j)],[],0⟩/\lK dX j=some r) (by rintro s ⟨j,hs,h⟩;exact DF hs<|Dw h (fun h=>AP h fun u q h=>AU 1<|.X (aUi dX u q)<|Cj) fun h=>AY<|JJ)<|fun K6=>AY<|CB h (fun h=>K6 _ ⟨(dX==3),Ac 15 73 [],h⟩) fun h=>AY<|CB h (fun h=>K6 _ ⟨(dX==4),Ac 15 73 [],h⟩) fun h=>AY<|CB h (fun h=>K6 _ ⟨(dX==5),Ac 15 73 [],h⟩) fun h=>Ar<|.a 2<|.nil<|K6 _ ⟨(dX==6),Ac 15 73 [],h⟩
def aLM (j:D6):AL D6:=some j
def aMs (z:Int) (j:D6) (q:D6):AL D6:=(bif ((Eu .and .i64 z 128) != 0)then(ZW j.Levels).bind fun u=>aLM ({ q with Levels:=u })else aLM q)
def aN4 (q:Int) (j:D6) (z:D6):AL D6:=(bif ((Eu .and .i64 q 64) != 0)then(Sr j.gJ).bind fun u=>aMs q j ({ z with gJ:=u })else aMs q j z)
def aLd (q:Int) (j:D6) (z:D6):AL D6:=(bif ((Eu .and .i64 q 32) != 0)then(Sr j.Allow).bind fun u=>aN4 q j ({ z with Allow:=u })else aN4 q j z)
def aOK (q:Int) (j:D6) (u:D6):AL D6:=(bif ((Eu .and .i64 q 16) != 0)then aLd q j ({ u with Via:=j.Via })else aLd q j u)
def aLW (q:Int) (j:D6) (u:D6):AL D6:=(bif ((Eu .and .i64 q 4) != 0)then aOK q j ({ u with Target:=j.Target })else aOK q j u)
def qy (q:Int) (j:D6):AL D6:=(bif (q==1)then(Sr j.Allow).bind fun z=>(Sr j.gJ).bind fun I=>(ZW j.Levels).bind fun J=>some ({ { { j with Allow:=z }with gJ:=I }with Levels:=J })else(jo q).bind fun u=>(bif ((Eu .and .i64 u 2) != 0)then aLW u j ({ ET with N:=j.N })else aLW u j ET))
def aTm (dX fA r) (h:qy dX fA=some r):BA 76 [AX dX,H9 fA] [] (H9 r) []:=BG func76 rfl<|AY<|Aa<|AY<|BH h (fun h=>Io h fun x2 hx2 x3 hx3 x4 hx4 h=>FU AA AA AA (.a 2<|.ca (aCi fA.Allow x2 hx2).view<|.a 2<|.ca (aCi fA.gJ x3 hx3).view<|.a 2<|.ca (aP9 fA.Levels x4 hx4)<|.a 6<|.nil _)<|AY<|Ep<|by rw[←CV h];exact⟨[H9 ({ { { fA with Allow:=x2 }with gJ:=x3 }with Levels:=x4 })],[],⟨⟨1,BP (Fg ({ { { fA with Allow:=x2 }with gJ:=x3 }with Levels:=x4 })),true,16,AA,AA,AA,TR,Dt AA,N7,AA⟩,trivial⟩,AA,AA,AA⟩) fun h=>AY<|AP h fun j hx5 h=>AU 1<|.X (aVA dX j hx5)<|DT (fun s=>∃(I:D6),CX s ⟨BF 64 [(3,.ptr 0 0),(4,.ptr 1 0),(5,.ptr 2 0),(6,AX j)],[.box (BP (Fg fA)),.box (BP (Fg ET)),.box (BP (Fg I))],0⟩/\aLW j fA I=some r) (by rintro s ⟨I,hs,h⟩;exact DF hs<|DT (fun s=>∃(J:D6),CX s ⟨BF 64 [(3,.ptr 0 0),(4,.ptr 1 0),(5,.ptr 2 0),(6,AX j)],[.box (BP (Fg fA)),.box (BP (Fg ET)),.box (BP (Fg J))],0⟩/\aOK j fA J=some r) (by rintro s ⟨J,hs,h⟩;exact DF hs<|DT (fun s=>∃(L:D6),CX s ⟨BF 64 [(3,.ptr 0 0),(4,.ptr 1 0),(5,.ptr 2 0),(6,AX j)],[.box (BP (Fg fA)),.box (BP (Fg ET)),.box (BP (Fg L))],0⟩/\aLd j fA L=some r) (by rintro s ⟨L,hs,h⟩;exact DF hs<|DT (fun s=>∃(M:D6),CX s ⟨BF 64 [(3,.ptr 0 0),(4,.ptr 1 0),(5,.ptr 2 0),(6,AX j)],[.box (BP (Fg fA)),.box (BP (Fg ET)),.box (BP (Fg M))],0⟩/\aN4 j fA M=some r) (by rintro s ⟨M,hs,h⟩;exact DF hs<|DT (fun s=>∃(q:D6),CX s ⟨BF 64 [(3,.ptr 0 0),(4,.ptr 1 0),(5,.ptr 2 0),(6,AX j)],[.box (BP (Fg fA)),.box (BP (Fg ET)),.box (BP (Fg q))],0⟩/\aMs j fA q=some r) (by rintro s ⟨q,hs,h⟩;exact DF hs<|DT (fun s=>∃(z:D6),CX s ⟨BF 64 [(4,.ptr 0 0),(5,.ptr 1 0)],[.box (BP (Fg ET)),.box (BP (Fg z))],0⟩/\aLM z=some r) (by rintro s ⟨z,hs,h⟩;exact DF hs<|AY<|Ep<|by rw[←CV h];exact⟨[H9 z],[],⟨⟨0,BP (Fg z),true,16,AA,AA,AA,TR,Dt AA,N7,AA⟩,trivial⟩,AA,AA,AA⟩)<|fun O=>AU 1<|.Z (RQ (k:=.i64) (u:=j) (v:=128) rfl)<|BH h (fun h=>AP h fun U Y h=>Ar<|.a 2<|.ca (aP9 fA.Levels U Y)<|.a 2<|.nil<|O _ ⟨({ q with Levels:=U }),Ac 64 48 [AQ 1,AQ 2],h⟩) fun h=>O _ ⟨q,Ac 64 48 [AQ 1,AQ 2],h⟩)<|fun Z=>AU 1<|.Z (RQ (k:=.i64) (u:=j) (v:=64) rfl)<|BH h (fun h=>AP h fun x17 Zh h=>Ar<|.a 2<|.ca (aCi fA.gJ x17 Zh).view<|.a 2<|.nil<|Z _ ⟨({ M with gJ:=x17 }),Ac 64 120 [AQ 0,AQ 1,AQ 2],h⟩) fun h=>Z _ ⟨M,Ac 64 120 [AQ 0,AQ 1,AQ 2],h⟩)<|fun K18=>AU 1<|.Z (RQ (k:=.i64) (u:=j) (v:=32) rfl)<|BH h (fun h=>AP h fun vJ Bl h=>Ar<|.a 2<|.ca (aCi fA.Allow vJ Bl).view<|.a 2<|.nil<|K18 _ ⟨({ L with Allow:=vJ }),Ac 64 120 [AQ 0,AQ 1,AQ 2],h⟩) fun h=>K18 _ ⟨L,Ac 64 120 [AQ 0,AQ 1,AQ 2],h⟩)<|fun K21=>AU 1<|.Z (RQ (k:=.i64) (u:=j) (v:=16) rfl)<|BH h (fun h=>Ar<|.a 4<|.nil<|K21 _ ⟨({ J with Via:=fA.Via }),Ac 64 120 [AQ 0,AQ 1,AQ 2],h⟩) fun h=>K21 _ ⟨J,Ac 64 120 [AQ 0,AQ 1,AQ 2],h⟩)<|fun K23=>AU 1<|.Z (RQ (k:=.i64) (u:=j) (v:=4) rfl)<|BH h (fun h=>Ar<|.a 4<|.nil<|K23 _ ⟨({ I with Target:=fA.Target }),Ac 64 120 [AQ 0,AQ 1,AQ 2],h⟩) fun h=>K23 _ ⟨I,Ac 64 120 [AQ 0,AQ 1,AQ 2],h⟩)<|fun K25=>AU 1<|.Z (RQ (k:=.i64) (u:=j) (v:=2) rfl)<|BH h (fun h=>Ar<|.a 4<|.nil<|K25 _ ⟨({ ET with N:=fA.N }),Ac 64 120 [AQ 0,AQ 1,AQ 2],h⟩) fun h=>K25 _ ⟨ET,Ac 64 120 [AQ 0,AQ 1,AQ 2],h⟩
def aCm (j:AV):AL AV:=(qy j.Kind j.Content).bind fun q=>some ({ j with Content:=q })
def aZ6 (aQ r) (h:aCm aQ=some r):BA 122 [DC aQ] [] (DC r) []:=BG func122 rfl<|AY<|AP h fun j q h=>AU 4<|.ca (aTm aQ.Kind aQ.Content j q)<|aTf
def iw (j:Fp) (q:Int):AL Fp:=(OC j.b_ q).bind fun u=>some ({ j with b_:=u })
def anw (OT gX r) (h:iw OT gX=some r):BA 224 [.ptr 0 0,AX gX] [.box (BP (Lp OT))] (.fC []) [.box (BP (Lp r))]:=BG func224 rfl<|AP h fun q j h=>Ar<|.a 6<|.ca (WJ OT.b_ gX q j).view<|.a 3<|.nil<|Xk
def aKx (j:AO) (z:(Int->Fp->AL Fp)):Int->Fp->AL Fp:=fun q u=>(bif q<(j.length:Int) then(Ak j q).bind fun I=>(iw u I).bind fun J=>z (Aw (q+1)) J else some u)
def aXZ (j:AO):Int->Fp->AL Fp:=aU (aKx j) Ap
def TY (j:Fp) (q:AO):AL Fp:=aXZ q 0 j
def zC (ug dh r) (h:TY ug dh=some r):BA 223 [.fn (.func 224) [.ptr 0 0] [],Bq dh] [.box (BP (Lp ug))] (.fC []) [.box (BP (Lp r))]:=BG func223 rfl<|AU 1<|.Z (BQ Ae dh Bg rfl)<|Aj<|Dk (fun I j=>⟨BF 16 [(0,.fn (.func 224) [.ptr 0 0] []),(6,Bq dh),(7,AX (dh.length:Int)),(8,AX I)],[.box (BP (Lp j))],1⟩) _ _ _ _ (Ac 16 449 [AQ 0]) h<|fun M O q I j h=>AY<|Aa<|CB h (fun h=>Aa<|Aj<|AP h fun J u h=>BR<|.Z (BN Ae u Bg CY rfl)<|AP h fun L z h=>Ar<|.a 2<|.f (x:=.fC []) (ah [.ent 0] [.ptr 0 0] [] [AX J] (anw j J L z) rfl)<|.nil<|Ar<|.a 2<|aEM) fun h=>D8<|Xk
def mZ (j:Fp) (q:BD):AL Fp:=(Ru j.b_ q).bind fun u=>some ({ j with b_:=u })
def afc (OT fD r) (h:mZ OT fD=some r):BA 226 [.ptr 0 0,CZ fD] [.box (BP (Lp OT))] (.fC []) [.box (BP (Lp r))]:=BG func226 rfl<|AP h fun q j h=>Ar<|.a 6<|.ca (aDu OT.b_ fD q j).view<|.a 3<|.nil<|Xk
def aM7 (j:Gl) (z:(Int->Fp->AL Fp)):Int->Fp->AL Fp:=fun q u=>(bif q<(j.length:Int) then(Ak j q).bind fun I=>(mZ u I).bind fun J=>z (Aw (q+1)) J else some u)
def aWV (j:Gl):Int->Fp->AL Fp:=aU (aM7 j) Ap
def WY (j:Fp) (q:Gl):AL Fp:=aWV q 0 j
def a0H (ug dh r) (h:WY ug dh=some r):BA 225 [.fn (.func 226) [.ptr 0 0] [],IC dh] [.box (BP (Lp ug))] (.fC []) [.box (BP (Lp r))]:=BG func225 rfl<|AU 1<|.Z (BQ DV dh Fl rfl)<|Aj<|Dk (fun I j=>⟨BF 16 [(0,.fn (.func 226) [.ptr 0 0] []),(6,IC dh),(7,AX (dh.length:Int)),(8,AX I)],[.box (BP (Lp j))],1⟩) _ _ _ _ (Ac 16 449 [AQ 0]) h<|fun M O q I j h=>AY<|Aa<|CB h (fun h=>Aa<|Aj<|AP h fun J u h=>BR<|.Z (BN DV u Fl Jj rfl)<|AP h fun L z h=>Ar<|.a 2<|.f (x:=.fC []) (ah [.ent 0] [.ptr 0 0] [] [CZ J] (afc j J L z) rfl)<|.nil<|Ar<|.a 2<|aEM) fun h=>D8<|Xk
def yN (j:Fp) (q:AZ):AL Fp:=(Xi j.b_ q).bind fun u=>some ({ j with b_:=u })
def aaW (OT FX r) (h:yN OT FX=some r):BA 228 [.ptr 0 0,Ag FX] [.box (BP (Lp OT))] (.fC []) [.box (BP (Lp r))]:=BG func228 rfl<|AP h fun q j h=>Ar<|.a 6<|.ca (aYb OT.b_ FX q j).view<|.a 3<|.nil<|Xk
def aJa (j:(A8 AZ)) (z:(Int->Fp->AL Fp)):Int->Fp->AL Fp:=fun q u=>(bif q<(j.length:Int) then(Ak j q).bind fun I=>(yN u I).bind fun J=>z (Aw (q+1)) J else some u)
def aPq (j:(A8 AZ)):Int->Fp->AL Fp:=aU (aJa j) Ap
def zX (j:Fp) (q:(A8 AZ)):AL Fp:=aPq q 0 j
def aZ3 (ug dh r) (h:zX ug dh=some r):BA 227 [.fn (.func 228) [.ptr 0 0] [],.d ((Bo EY) dh)] [.box (BP (Lp ug))] (.fC []) [.box (BP (Lp r))]:=BG func227 rfl<|AU 1<|.Z (BQ EY dh aQ9 rfl)<|Aj<|Dk (fun I j=>⟨BF 16 [(0,.fn (.func 228) [.ptr 0 0] []),(6,.d ((Bo EY) dh)),(7,AX (dh.length:Int)),(8,AX I)],[.box (BP (Lp j))],1⟩) _ _ _ _ (Ac 16 449 [AQ 0]) h<|fun M O q I j h=>AY<|Aa<|CB h (fun h=>Aa<|Aj<|AP h fun J u h=>BR<|.Z (BN EY u aQ9 aTK rfl)<|AP h fun L z h=>Ar<|.a 2<|.f (x:=.fC []) (ah [.ent 0] [.ptr 0 0] [] [Ag J] (aaW j J L z) rfl)<|.nil<|Ar<|.a 2<|aEM) fun h=>D8<|Xk
def aNJ (j:AO) (z:(AO->Int->AL AO)):AO->Int->AL AO:=fun u q=>(bif q<(j.length:Int) then(Ak j q).bind fun I=>(Y9 u I).bind fun J=>z J (Aw (q+1))else some u)
def aUr (j:AO):AO->Int->AL AO:=aU (aNJ j) Ap
def aAw (q:AO) (j:AO):AL AO:=(Y9 q (j.length:Int)).bind fun u=>aUr j u 0
def ais (iD dh r) (h:aAw iD dh=some r):BA 369 [.aO 0,Bq dh,.d (.fn (.func 328) [] [])] [(IW iD)] (.aO 1) [.dead,(IW r)]:=BG func369 rfl<|BR<|.f (Cb 5 1 rfl)<|.aY<|AP h fun M j h=>AU 2<|.p (BQ Ae dh Bg rfl)<|.Y (x:=.aO 2) (EX [.ent 0] [.aO 0,AX (dh.length:Int)] (zu iD (dh.length:Int) M j) rfl)<|Aa<|AU 1<|.Z (BQ Ae dh Bg rfl)<|Aj<|Dk (fun q J=>⟨BF 25 [(0,.aO 1),(2,.d (.fn (.func 328) [] [])),(13,Bq dh),(14,AX (dh.length:Int)),(15,AX J)],[.dead,(IW q)],1⟩) _ _ _ _ (Ac 25 57349 [(0,false),AQ 2]) h<|fun U Y u q J h=>AY<|Aa<|CB h (fun h=>Aa<|Aj<|AP h fun L z h=>BR<|.Z (BN Ae z Bg CY rfl)<|AP h fun O I h=>Ar<|.a 3<|.f (x:=.aO 2) (aRI [.ent 1] [] [] [.aO 1,AX L] (zu q L O I) rfl)<|.a 1<|.nil<|Ar<|.a 2<|.nil<|u _ _ _ (Ac 25 57349 [(0,false),AQ 2]) h) fun h=>D8<|AY<|kE
def YP (q:AO) (j:AO):AL AO:=(Xx q (Aw ((Aw (2*(j.length:Int)))+10))).bind fun u=>(aAw u j).bind fun z=>some z
def aZT (iD dh r) (h:YP iD dh=some r):BA 315 [II iD,Bq dh] [] (.aO 0) [(IW r)]:=BG func315 rfl<|BR<|.f (Cb 5 1 rfl)<|.aY<|CJ h fun u j z q h=>AU 2<|.p (BQ Ae dh Bg rfl)<|.a 2<|.f (x:=.aO 1) (KL [II iD,AX (Aw ((Aw (2*(dh.length:Int)))+10))] (wV iD (Aw ((Aw (2*(dh.length:Int)))+10)) u j) rfl)<|.a 1<|.Y (x:=.aO 2) (EX [.ent 1] [.aO 1,Bq dh,.d (.fn (.func 328) [] [])] (ais u dh z q) rfl)<|KX
def ny (j:Fp) (q:AO):AL Fp:=(YP j.b_ q).bind fun u=>some ({ j with b_:=u })
def aj1 (OT dh r) (h:ny OT dh=some r):BA 230 [.ptr 0 0,Bq dh] [.box (BP (Lp OT))] (.fC []) [.box (BP (Lp r))]:=BG func230 rfl<|AP h fun q j h=>Ar<|.a 6<|.ca (aZT OT.b_ dh q j).view<|.a 3<|.nil<|Xk
abbrev VW:=A8 (A8 Int)
def aMe (j:VW) (z:(Int->Fp->AL Fp)):Int->Fp->AL Fp:=fun q u=>(bif q<(j.length:Int) then(Ak j q).bind fun I=>(ny u I).bind fun J=>z (Aw (q+1)) J else some u)
def aRF (j:VW):Int->Fp->AL Fp:=aU (aMe j) Ap
def qh (j:Fp) (q:VW):AL Fp:=aRF q 0 j
def agn (ug dh r) (h:qh ug dh=some r):BA 229 [.fn (.func 230) [.ptr 0 0] [],.d ((Bo (Bo Ae)) dh)] [.box (BP (Lp ug))] (.fC []) [.box (BP (Lp r))]:=BG func229 rfl<|AU 1<|.Z (BQ (Bo Ae) dh qH rfl)<|Aj<|Dk (fun I j=>⟨BF 16 [(0,.fn (.func 230) [.ptr 0 0] []),(6,.d ((Bo (Bo Ae)) dh)),(7,AX (dh.length:Int)),(8,AX I)],[.box (BP (Lp j))],1⟩) _ _ _ _ (Ac 16 449 [AQ 0]) h<|fun M O q I j h=>AY<|Aa<|CB h (fun h=>Aa<|Aj<|AP h fun J u h=>BR<|.Z (BN (Bo Ae) u qH aD1 rfl)<|AP h fun L z h=>Ar<|.a 2<|.f (x:=.fC []) (ah [.ent 0] [.ptr 0 0] [] [Bq J] (aj1 j J L z) rfl)<|.nil<|Ar<|.a 2<|aEM) fun h=>D8<|Xk
def uY (j:AV):AL AO:=(TY aC5 [j.Id]).bind fun I=>(WY I [j.Room,j.bF]).bind fun J=>(TY J [j.Kind]).bind fun L=>(zX L [j.State]).bind fun M=>(WY M [j.Key]).bind fun O=>(TY O [j.Time,j.Depth]).bind fun U=>(qh U [j.bI,j.bQ]).bind fun Y=>(oM j.Content).bind fun Z=>(WY Y [QJ Z]).bind fun x9=>(TY x9 [j.Hash]).bind fun q=>(WY q [j.nU.Server]).bind fun u=>(TY u [j.nU.Sum]).bind fun z=>some z.b_
def ajV (aQ r) (h:uY aQ=some r):BA 139 [DC aQ] [] (II r) []:=BG func139 rfl<|AY<|AY<|AP h fun x1 L h=>AU 1<|.p (x:=.fn (.func 224) [.ptr 1 0] []) (Qb (fi:=[.ptr 1 0]) (ca:=[]) rfl rfl rfl)<|.a 2<|.p (EP Dx zero3 [Ae aQ.Id] rfl)<|.f (x:=.fC []) (EX [.ent 1] [.fn (.func 224) [.ptr 1 0] [],Bq [aQ.Id]] (zC aC5 [aQ.Id] x1 L) rfl (ha:=⟨⟨_,_,rfl,⟨⟨0,rfl,rfl⟩,trivial⟩,trivial⟩,.inl rfl,trivial⟩))<|.aY<|AP h fun x2 M h=>AU 1<|.p (x:=.fn (.func 226) [.ptr 1 0] []) (Qb (fi:=[.ptr 1 0]) (ca:=[]) rfl rfl rfl)<|.a 4<|.p (EP Na zero9 [DV aQ.Room,DV aQ.bF] rfl)<|.f (x:=.fC []) (EX [.ent 1] [.fn (.func 226) [.ptr 1 0] [],IC [aQ.Room,aQ.bF]] (a0H x1 [aQ.Room,aQ.bF] x2 M) rfl (ha:=⟨⟨_,_,rfl,⟨⟨0,rfl,rfl⟩,trivial⟩,trivial⟩,.inl rfl,trivial⟩))<|.aY<|AP h fun x3 O h=>AU 1<|.p (x:=.fn (.func 224) [.ptr 1 0] []) (Qb (fi:=[.ptr 1 0]) (ca:=[]) rfl rfl rfl)<|.a 2<|.p (EP Dx zero3 [Ae aQ.Kind] rfl)<|.f (x:=.fC []) (EX [.ent 1] [.fn (.func 224) [.ptr 1 0] [],Bq [aQ.Kind]] (zC x2 [aQ.Kind] x3 O) rfl (ha:=⟨⟨_,_,rfl,⟨⟨0,rfl,rfl⟩,trivial⟩,trivial⟩,.inl rfl,trivial⟩))<|.aY<|AP h fun x4 U h=>AU 1<|.p (x:=.fn (.func 228) [.ptr 1 0] []) (Qb (fi:=[.ptr 1 0]) (ca:=[]) rfl rfl rfl)<|.a 2<|.p (EP ale sN [EY aQ.State] rfl)<|.f (x:=.fC []) (EX [.ent 1] [.fn (.func 228) [.ptr 1 0] [],.d ((Bo EY) [aQ.State])] (aZ3 x3 [aQ.State] x4 U) rfl (ha:=⟨⟨_,_,rfl,⟨⟨0,rfl,rfl⟩,trivial⟩,trivial⟩,.inl rfl,trivial⟩))<|.aY<|AP h fun x5 Y h=>AU 1<|.p (x:=.fn (.func 226) [.ptr 1 0] []) (Qb (fi:=[.ptr 1 0]) (ca:=[]) rfl rfl rfl)<|.a 2<|.p (EP Na zero9 [DV aQ.Key] rfl)<|.f (x:=.fC []) (EX [.ent 1] [.fn (.func 226) [.ptr 1 0] [],IC [aQ.Key]] (a0H x4 [aQ.Key] x5 Y) rfl (ha:=⟨⟨_,_,rfl,⟨⟨0,rfl,rfl⟩,trivial⟩,trivial⟩,.inl rfl,trivial⟩))<|.aY<|AP h fun x6 Z h=>AU 1<|.p (x:=.fn (.func 224) [.ptr 1 0] []) (Qb (fi:=[.ptr 1 0]) (ca:=[]) rfl rfl rfl)<|.a 4<|.p (EP Dx zero3 [Ae aQ.Time,Ae aQ.Depth] rfl)<|.f (x:=.fC []) (EX [.ent 1] [.fn (.func 224) [.ptr 1 0] [],Bq [aQ.Time,aQ.Depth]] (zC x5 [aQ.Time,aQ.Depth] x6 Z) rfl (ha:=⟨⟨_,_,rfl,⟨⟨0,rfl,rfl⟩,trivial⟩,trivial⟩,.inl rfl,trivial⟩))<|.aY<|AP h fun x7 hx7 h=>AU 1<|.p (x:=.fn (.func 230) [.ptr 1 0] []) (Qb (fi:=[.ptr 1 0]) (ca:=[]) rfl rfl rfl)<|.a 4<|.p (EP aLr pV [(Bo Ae) aQ.bI,(Bo Ae) aQ.bQ] rfl)<|.f (x:=.fC []) (EX [.ent 1] [.fn (.func 230) [.ptr 1 0] [],.d ((Bo (Bo Ae)) [aQ.bI,aQ.bQ])] (agn x6 [aQ.bI,aQ.bQ] x7 hx7) rfl (ha:=⟨⟨_,_,rfl,⟨⟨0,rfl,rfl⟩,trivial⟩,trivial⟩,.inl rfl,trivial⟩))<|.aY<|CJ h fun j ni x9 lW h=>AU 1<|.p (x:=.fn (.func 226) [.ptr 1 0] []) (Qb (fi:=[.ptr 1 0]) (ca:=[]) rfl rfl rfl)<|.a 2<|.ca (aVB aQ.Content j ni)<|.p (aY3 (l:=j) XQ aA3 H7 rfl)<|.p (EP Na zero9 [DV (QJ j)] rfl)<|.f (x:=.fC []) (EX [.ent 1] [.fn (.func 226) [.ptr 1 0] [],IC [QJ j]] (a0H x7 [QJ j] x9 lW) rfl (ha:=⟨⟨_,_,rfl,⟨⟨0,rfl,rfl⟩,trivial⟩,trivial⟩,.inl rfl,trivial⟩))<|.aY<|AP h fun q u h=>AU 1<|.p (x:=.fn (.func 224) [.ptr 1 0] []) (Qb (fi:=[.ptr 1 0]) (ca:=[]) rfl rfl rfl)<|.a 2<|.p (EP Dx zero3 [Ae aQ.Hash] rfl)<|.f (x:=.fC []) (EX [.ent 1] [.fn (.func 224) [.ptr 1 0] [],Bq [aQ.Hash]] (zC x9 [aQ.Hash] q u) rfl (ha:=⟨⟨_,_,rfl,⟨⟨0,rfl,rfl⟩,trivial⟩,trivial⟩,.inl rfl,trivial⟩))<|.aY<|AP h fun z I h=>AU 1<|.p (x:=.fn (.func 226) [.ptr 1 0] []) (Qb (fi:=[.ptr 1 0]) (ca:=[]) rfl rfl rfl)<|.a 3<|.p (EP Na zero9 [DV aQ.nU.Server] rfl)<|.f (x:=.fC []) (EX [.ent 1] [.fn (.func 226) [.ptr 1 0] [],IC [aQ.nU.Server]] (a0H q [aQ.nU.Server] z I) rfl (ha:=⟨⟨_,_,rfl,⟨⟨0,rfl,rfl⟩,trivial⟩,trivial⟩,.inl rfl,trivial⟩))<|.aY<|AP h fun x12 J h=>AU 1<|.p (x:=.fn (.func 224) [.ptr 1 0] []) (Qb (fi:=[.ptr 1 0]) (ca:=[]) rfl rfl rfl)<|.a 3<|.p (EP Dx zero3 [Ae aQ.nU.Sum] rfl)<|.f (x:=.fC []) (EX [.ent 1] [.fn (.func 224) [.ptr 1 0] [],Bq [aQ.nU.Sum]] (zC z [aQ.nU.Sum] x12 J) rfl (ha:=⟨⟨_,_,rfl,⟨⟨0,rfl,rfl⟩,trivial⟩,trivial⟩,.inl rfl,trivial⟩))<|.aY<|AY<|Cj
def vN (j:AV):AL Int:=(aCm j).bind fun q=>(uY ({ { q with Id:=0 }with nU:=eA })).bind fun u=>(sH u).bind fun z=>some z
def aXj (aQ r) (h:vN aQ=some r):BA 77 [DC aQ] [] (AX r) []:=BG func77 rfl<|AY<|AP h fun I j h=>AU 1<|.X (aZ6 aQ I j)<|AY<|CJ h fun z q J u h=>AU 1<|.ca (ajV _ z q)<|.X (aSp z J u)<|Cj
def aB8 (q:AV) (j:BD):AL AV:=(qc q).bind fun u=>(vN ({ q with Hash:=u })).bind fun z=>some ({ { { q with Hash:=u }with Id:=z }with nU:=(⟨j,({ { q with Hash:=u }with Id:=z }).Id⟩:Ny) })
def aeA (aQ Df r) (h:aB8 aQ Df=some r):BA 35 [DC aQ,CZ Df] [] (DC r) []:=BG func35 rfl<|AY<|AP h fun j u h=>AU 1<|.X (aSI aQ j u)<|AP h fun q z h=>AU 1<|.ca (aXj _ q z)<|aRa
def aJQ (j:Ai) (q:(AV->AL AZ)) (k2:(Int->AL Int)):Int->AL Int:=fun u=>(bif u<(j.length:Int) then(Ak j u).bind fun z=>(q z).bind fun I=>(bif I then some u else k2 (Aw (u+1)))else some (-1))
def aRf (j:Ai) (q:(AV->AL AZ)):Int->AL Int:=bJ (aJQ j q) Ap
def jV (j:Ai) (q:(AV->AL AZ)):AL Int:=aRf j q 0
def aKc (q:(A8 AV)) (u:(AV->AL AZ)) (j:D) (z:U2 Am BI EY j u) (r:Int) (h:jV q u=some r):BA 125 [BL q,.d j] [] (AX r) []:=BG func125 rfl<|AY<|Aa<|AU 1<|.Z (BQ BI q Cm rfl)<|Aj<|EH (fun M=>⟨BF 19 [(0,BL q),(1,.d j),(7,AX (q.length:Int)),(8,AX M)],[],0⟩) _ _ _ (Ac 19 387 []) h<|fun O k2 I M h=>AY<|Aa<|CB h (fun h=>Aa<|Aj<|AY<|CJ h fun U J Y L h=>AU 3<|.p (BN BI J Cm D9 rfl)<|.a 1<|.p (zQ (d:=j) (z:U2 Am BI EY j u) L rfl)<|.aY<|BH h CO fun h=>Ar<|.a 2<|.nil<|I _ _ (Ac 19 387 []) h) fun h=>F5
def aEf (j:AV) (q:Int):AL AZ:=some (j.Id==q)
def agG (aQ c0 r) (h:aEf aQ c0=some r):BA 126 [DC aQ,.d (.ref (Ae c0).cells 0)] [] (Ag r) []:=BG func126 rfl<|Ze
def aHq (q:Ai) (j:Int):AL Int:=(jV q (fun a0=>aEf a0 j)).bind fun u=>some u
def abR (ak oz r) (h:aHq ak oz=some r):BA 64 [BL ak,AX oz] [] (AX r) []:=BG func64 rfl<|AY<|AP h fun q j h=>AU 1<|.conv _ (VT (cs:=BP (Ae oz)) 0 AA AA)<|.p (x:=.d (.fn (.func 126) [] [(.ref (Ae oz).cells 0)])) (Vm [(.ref (Ae oz).cells 0)] rfl rfl)<|.X (aKc ak (fun a0=>aEf a0 oz) (.fn (.func 126) [] [(.ref (Ae oz).cells 0)]) ⟨126,[(.ref (Ae oz).cells 0)],rfl,am6,fun a0 b u=>agG a0 oz b u⟩ q j)<|Cj
def a0d (j:AV):AL AZ:=(qc j).bind fun q=>some (q==j.Hash)
def aXB (aQ r) (h:a0d aQ=some r):BA 74 [DC aQ] [] (Ag r) []:=BG func74 rfl<|AY<|AP h fun q j h=>FU AA AA AA (.a 1<|.ca (aSI aQ q j)<|.a 4<|.nil _)<|Cj
def ZP (j:Int):AL AZ:=(bif j>=1 then some (decide (j<=10))else some false).bind fun q=>some q
def Zj (dX r) (h:ZP dX=some r):BA 98 [AX dX] [] (Ag r) []:=BG func98 rfl<|AY<|AU 2<|AP h fun q j h=>.mg 5 3 (Ag q) (.bi j)<|.aW<|Cj
def aOD (j:BD) (q:BD):AL (BD×BD×AZ):=(a0Q j q).bind fun u=>(bif u>=0 then(OM j 0 u).bind fun z=>(OM j (Aw (u+(q.size:Int))) ((j).size)).bind fun I=>some (z,I,true)else some (j,CS,false))
def agU (eG Zi r) (h:aOD eG Zi=some r):BA 232 [CZ eG,CZ Zi] [] (.fC [CZ r.1,CZ r.2.1,Ag r.2.2]) []:=BG func232 rfl<|AY<|Aa<|AP h fun I j h=>AU 2<|.X (adQ eG Zi I j)<|AY<|BH h (fun h=>CJ h fun J q L u h=>FU AA AA AA (.a 2<|.p (kU q (fun _=>rfl) nZ H7 rfl)<|.a 5<|.p (kU u nZ (fun _=>rfl) H7 rfl)<|.a 3<|.nil _)<|Cj) fun h=>AY<|Cj
def strings_Cut (q:BD) (j:BD):AL (BD×BD×AZ):=(aOD q j).bind fun u=>some (u.1,u.2.1,u.2.2)
def abX (eG Zi r) (h:strings_Cut eG Zi=some r):BA 141 [CZ eG,CZ Zi] [] (.fC [CZ r.1,CZ r.2.1,Ag r.2.2]) []:=BG func141 rfl<|AY<|AP h fun q j h=>AU 2<|.X (agU eG Zi q j)<|Cj
def qx (j:Int):AL AZ:=(bif (j==95)then some true else some (j==46)).bind fun q=>(bif q then some true else some (j==45)).bind fun u=>(bif u then some true else some (j==61)).bind fun z=>some z
def ahm (eY r) (h:qx eY=some r):BA 234 [.d (Dn eY)] [] (Ag r) []:=BG func234 rfl<|AY<|AU 2<|AP h fun z j h=>.mg 5 3 (Ag z) (.bi j)<|.a 1<|AP h fun I q h=>.mg 10 2 (Ag I) (DW q)<|.a 1<|AP h fun J u h=>.mg 14 2 (Ag J) (DW u)<|.aW<|Cj
def jW (j:Int):AL AZ:=(bif j>=97 then some (decide (j<=122))else some false).bind fun q=>(bif q then some true else(bif j>=48 then some (decide (j<=57))else some false).bind fun u=>some u).bind fun z=>some z
def aJv (eY r) (h:jW eY=some r):BA 236 [.d (Dn eY)] [] (Ag r) []:=BG func236 rfl<|AY<|AU 2<|AP h fun z j h=>.mg 5 3 (Ag z) (.bi j)<|.a 1<|AP h fun I q h=>.mg 10 6 (Ag I) (DW q (k2:=fun e i=>aWC))<|.aW<|Cj
def aL4 (q:BD) (j:(Int->AL AZ)) (J:(Int->AL AZ)):Int->AL AZ:=fun u=>(bif u<(q.size:Int) then(IL q u).bind fun L=>(jW L).bind fun M=>(bif (!M)then(IL q u).bind fun z=>(j z).bind fun I=>some (!I)else some false).bind fun O=>(bif O then some false else J (Aw (u+1)))else some true)
def aIw (q:BD) (j:(Int->AL AZ)):Int->AL AZ:=bJ (aL4 q j) Ap
def dI (q:BD) (j:(Int->AL AZ)):AL AZ:=(bif (q.size:Int)<1 then some true else some (decide ((q.size:Int)>32))).bind fun u=>(bif u then some false else aIw q j 0)
def aPh (z:BD) (q:(Int->AL AZ)) (j:D) (u:U2 Am Dn EY j q) (r:AZ) (h:dI z q=some r):BA 233 [CZ z,.d j] [] (Ag r) []:=BG func233 rfl<|AY<|Aa<|AU 3<|AP h fun x1 L h=>.mg 9 4 (Ag x1) (.bi L)<|.aY<|BH h CO fun h=>Aa<|AY<|Aj<|EH (fun Z=>⟨BF 33 [(0,CZ z),(1,.d j),(15,AX (z.size:Int)),(16,AX Z)],[],0⟩) _ _ _ (Ac 33 98307 []) h<|fun J14 k5 M Z h=>AY<|Aa<|CB h (fun h=>Aa<|Aj<|AY<|CJ h fun x7 O x8 U h=>AU 2<|.p (Jl (k:=.i64) O H7 rfl)<|.ca (aJv x7 x8 U)<|.a 1<|AP h fun x9 Y h=>.mg 24 7 (Ag x9) (.bi Y (fun h=>CJ h fun x11 I x12 J h=>.a 3<|.p (Jl (k:=.i64) I H7 rfl)<|.Z (zQ (d:=j) (u:U2 Am Dn EY j q) J rfl)<|D7))<|.aY<|BH h CO fun h=>Ar<|.a 2<|.nil<|M _ _ (Ac 33 98307 []) h) fun h=>F5
def aEj (j:BD):AL AZ:=(dI j (fun a0=>qx a0)).bind fun q=>some q
def aZs (eG r) (h:aEj eG=some r):BA 142 [CZ eG] [] (Ag r) []:=BG func142 rfl<|AY<|AP h fun q j h=>AU 1<|.X (aPh eG (fun a0=>qx a0) (.fn (.func 234) [] []) ⟨234,[],rfl,acQ,fun a0 b u=>ahm a0 b u⟩ q j)<|Cj
def xg (j:Int):AL AZ:=(bif (j==46)then some true else some (j==45)).bind fun q=>some q
def ahY (eY r) (h:xg eY=some r):BA 235 [.d (Dn eY)] [] (Ag r) []:=BG func235 rfl<|AY<|AU 2<|AP h fun q j h=>.mg 5 3 (Ag q) (.bi j)<|.aW<|Cj
def aEK (j:BD):AL AZ:=(dI j (fun a0=>xg a0)).bind fun q=>(bif q then(IL j 0).bind fun u=>(jW u).bind fun z=>some z else some false).bind fun I=>(bif I then(IL j (Aw ((j.size:Int)-1))).bind fun J=>(jW J).bind fun L=>some L else some false).bind fun M=>some M
def afm (eG r) (h:aEK eG=some r):BA 143 [CZ eG] [] (Ag r) []:=BG func143 rfl<|AY<|AP h fun M j h=>AU 1<|.ca (aPh eG (fun a0=>xg a0) (.fn (.func 235) [] []) ⟨235,[],rfl,aiT,fun a0 b O=>ahY a0 b O⟩ M j)<|.a 1<|AP h fun U q h=>.mg 6 3 (Ag U) (DW q (fun e i=>by subst e;have h:=i;exact CJ h fun Y u Z z h=>.a 1<|.p (Jl (k:=.i64) u H7 rfl)<|.X (aJv Y Z z)<|D7))<|.a 1<|AP h fun x6 I h=>.mg 11 6 (Ag x6) (DW I (fun e i=>by subst e;have h:=i;exact CJ h fun x8 J x9 L h=>.a 4<|.p (Jl (k:=.i64) J H7 rfl)<|.X (aJv x8 x9 L)<|D7))<|.aW<|Cj
def jR (j:BD) (q:BD):AL (BD×BD×AZ):=(bif (j.toList==CS.toList)then some true else(IL j 0).bind fun L=>(strings_IndexByte q L).bind fun M=>some (decide (M<0))).bind fun O=>(bif O then some (CS,CS,false)else(OM j 1 ((j).size)).bind fun U=>(strings_Cut U gI).bind fun u=>(bif (!u.2.2)then some true else(aEj u.1).bind fun z=>some (!z)).bind fun Y=>(bif Y then some true else(aEK u.2.1).bind fun I=>some (!I)).bind fun J=>(bif J then some (CS,CS,false)else some (u.1,u.2.1,true)))
def aUs (Dh amD r) (h:jR Dh amD=some r):BA 78 [CZ Dh,CZ amD] [] (.fC [CZ r.1,CZ r.2.1,Ag r.2.2]) []:=BG func78 rfl<|AY<|Aa<|AU 2<|AP h fun x1 z h=>.mg 12 6 (Ag x1) (.bi z (k2:=fun h=>CJ h fun x3 I x4 J h=>.a 2<|.p (Jl (k:=.i64) I H7 rfl)<|.X (an9 amD x3 x4 J)<|D7))<|.aY<|BH h CO fun h=>CJ h fun x6 L M O h=>AU 1<|.p (kU L N7 (fun _=>rfl) H7 rfl)<|.X (abX x6 gI M O)<|Aa<|AU 2<|AP h fun x8 U h=>.mg 28 4 (Ag x8) (.bi U (k2:=fun h=>AP h fun Y j h=>.a 1<|.X (aZs M.1 Y j)<|D7))<|.a 1<|AP h fun Z q h=>.mg 34 3 (Ag Z) (DW q (k2:=fun e i=>by subst e;have h:=i;exact AP h fun qQ u h=>.a 1<|.X (afm M.2.1 qQ u)<|D7))<|.aY<|JJ
def wE (q:BD) (j:BD):AL Int:=(jR q j).bind fun u=>(bif (!u.2.2)then some 3 else some 0)
def aSf (eG YL r) (h:wE eG YL=some r):BA 272 [CZ eG,CZ YL] [] (AX r) []:=BG func272 rfl<|AY<|Aa<|AP h fun q j h=>AU 2<|.X (aUs eG YL q j)<|AY<|JJ
def uh (j:BD):AL Int:=(wE j vV).bind fun q=>some q
def aPS (eG r) (h:uh eG=some r):BA 169 [CZ eG] [] (AX r) []:=BG func169 rfl<|AY<|AP h fun q j h=>AU 1<|.X (aSf eG vV q j)<|Cj
def dS (j:BD):AL Int:=(wE j xR).bind fun q=>some q
def a0X (eG r) (h:dS eG=some r):BA 170 [CZ eG] [] (AX r) []:=BG func170 rfl<|AY<|AP h fun q j h=>AU 1<|.X (aSf eG xR q j)<|Cj
def aJm (j:BD) (k2:(Int->AL AZ)):Int->AL AZ:=fun q=>(bif q<(j.size:Int) then(IL j q).bind fun u=>(bif u<33 then some true else(IL j q).bind fun z=>some (decide (z>126))).bind fun I=>(bif I then some false else k2 (Aw (q+1)))else(bif (j.size:Int)>=1 then some (decide ((j.size:Int)<=32))else some false).bind fun J=>some J)
def aOa (j:BD):Int->AL AZ:=bJ (aJm j) Ap
def aFf (j:BD):AL AZ:=aOa j 0
def aZ9 (anY r) (h:aFf anY=some r):BA 171 [CZ anY] [] (Ag r) []:=BG func171 rfl<|AY<|Aa<|AY<|Aj<|EH (fun J=>⟨BF 28 [(0,CZ anY),(5,AX (anY.size:Int)),(6,AX J)],[],0⟩) _ _ _ (Ac 28 97 []) h<|fun L k2 j J h=>AY<|Aa<|CB h (fun h=>Aa<|Aj<|AY<|AP h fun U q h=>AU 2<|.p (Jl (k:=.i64) q H7 rfl)<|.a 1<|AP h fun M u h=>.mg 13 5 (Ag M) (.bi u (k2:=fun h=>AP h fun Y z h=>.a 2<|.Z (Jl (k:=.i64) z H7 rfl)<|D7))<|.aY<|BH h CO fun h=>Ar<|.a 2<|.nil<|j _ _ (Ac 28 97 []) h) fun h=>D8<|AU 3<|AP h fun O I h=>.mg 23 4 (Ag O) (.bi I)<|.aW<|Cj
def aCc (j:AV):AL AZ:=(uh j.Room).bind fun q=>(bif (q != 0)then some true else(dS j.bF).bind fun u=>some (u != 0)).bind fun z=>(bif z then some false else(bif (j.Kind==2)then(dS j.Key).bind fun I=>some (I==0)else(bif (j.Kind==9)then(aFf j.Key).bind fun J=>some J else some true)))
def ak1 (aQ r) (h:aCc aQ=some r):BA 101 [DC aQ] [] (Ag r) []:=BG func101 rfl<|AY<|Aa<|AP h fun J j h=>AU 2<|.ca (aPS aQ.Room J j)<|.a 1<|AP h fun L q h=>.mg 7 5 (Ag L) (.bi q (k2:=fun h=>AP h fun M u h=>.a 2<|.X (a0X aQ.bF M u)<|D7))<|.aY<|BH h CO fun h=>Aa<|AY<|Aj<|AY<|Dw h (fun h=>AP h fun O z h=>AU 2<|.X (a0X aQ.Key O z)<|Cj) fun h=>AY<|BH h (fun h=>AP h fun U I h=>AU 2<|.X (aZ9 aQ.Key U I)<|Cj) fun h=>AY<|Cj
def aLL (j:AO) (k2:(Int->AL AZ)):Int->AL AZ:=fun q=>(bif q<(j.length:Int) then(Ak j q).bind fun u=>(bif u<0 then some true else(bif q>0 then(Ak j (Aw (q-1))).bind fun z=>some (decide (z>=u))else some false).bind fun I=>some I).bind fun J=>(bif J then some false else k2 (Aw (q+1)))else some true)
def aQ5 (j:AO):Int->AL AZ:=bJ (aLL j) Ap
def wB (j:AO):AL AZ:=aQ5 j 0
def aXQ (ak r) (h:wB ak=some r):BA 102 [Bq ak] [] (Ag r) []:=BG func102 rfl<|AY<|Aa<|AU 1<|.Z (BQ Ae ak Bg rfl)<|Aj<|EH (fun J=>⟨BF 28 [(0,Bq ak),(5,Bq ak),(6,AX (ak.length:Int)),(7,AX J)],[],0⟩) _ _ _ (Ac 28 225 []) h<|fun L k2 j J h=>AY<|Aa<|CB h (fun h=>Aa<|Aj<|AP h fun U q h=>AU 1<|.Z (BN Ae q Bg CY rfl)<|AU 2<|AP h fun M u h=>.mg 14 12 (Ag M) (.bi u (k2:=fun h=>.a 2<|AP h fun O z h=>.mg 17 8 (Ag O) (.bi z (fun h=>AP h fun Y I h=>.a 3<|.Z (BN Ae I Bg CY rfl)<|D7))<|.aW<|D7))<|.aY<|BH h CO fun h=>Ar<|.a 2<|.nil<|j _ _ (Ac 28 225 []) h) fun h=>F5
def xK (j:Int):AL AZ:=(bif j>=1 then some (decide (j<=14))else some false).bind fun q=>some q
def aWz (dX r) (h:xK dX=some r):BA 173 [AX dX] [] (Ag r) []:=BG func173 rfl<|AY<|AU 2<|AP h fun q j h=>.mg 5 3 (Ag q) (.bi j)<|.aW<|Cj
def a1H (j:Cc):AL AZ:=(bif ((j.Users.length:Int)==0)then some ((j.Kinds.length:Int)==0)else some false).bind fun I=>(bif I then some (j.User==0)else some false).bind fun J=>(bif J then some (j.Message==0)else some false).bind fun L=>(bif L then some (j.State==0)else some false).bind fun M=>(bif M then some (j.gy==0)else some false).bind fun O=>(bif O then some (j.jL==0)else some false).bind fun q=>(bif q then some (j.lV==0)else some false).bind fun u=>(bif u then some (j.gW==0)else some false).bind fun z=>some z
def ajm (ak r) (h:a1H ak=some r):BA 273 [IX ak] [] (Ag r) []:=BG func273 rfl<|AY<|AU 2<|.p (BQ Eb ak.Users Fz rfl)<|.a 1<|AP h fun Z z h=>.mg 7 5 (Ag Z) (.bi z (fun h=>.a 2<|.Z (BQ Ei ak.Kinds Fv rfl)<|D7))<|.a 1<|AP h fun x3 I h=>.mg 14 3 (Ag x3) (DW I)<|.a 1<|AP h fun x5 J h=>.mg 19 3 (Ag x5) (DW J)<|.a 1<|AP h fun x7 L h=>.mg 24 3 (Ag x7) (DW L)<|.a 1<|AP h fun x9 M h=>.mg 29 3 (Ag x9) (DW M)<|.a 1<|AP h fun O j h=>.mg 34 3 (Ag O) (DW j)<|.a 1<|AP h fun U q h=>.mg 39 3 (Ag U) (DW q)<|.a 1<|AP h fun Y u h=>.mg 44 3 (Ag Y) (DW u)<|.aW<|Cj
def aCX (j:Int):AL Int:=some j
def aAk (j:D6) (u:Int):AL Int:=(a1H j.Levels).bind fun q=>(bif (!q)then aCX (Eu .or .i64 u 128)else aCX u)
def aEC (j:D6) (q:Int):AL Int:=(bif (j.gJ.length:Int)>0 then aAk j (Eu .or .i64 q 64)else aAk j q)
def aDm (j:D6) (q:Int):AL Int:=(bif (j.Allow.length:Int)>0 then aEC j (Eu .or .i64 q 32)else aEC j q)
def aCp (j:D6) (q:Int):AL Int:=(bif (!(j.Via.toList==CS.toList))then aDm j (Eu .or .i64 q 16)else aDm j q)
def Opn (j:D6) (q:Int):AL Int:=(bif j.Thread then aCp j (Eu .or .i64 q 8)else aCp j q)
def aDH (j:D6) (q:Int):AL Int:=(bif (j.Target != 0)then Opn j (Eu .or .i64 q 4)else Opn j q)
def a0r (j:D6) (q:Int):AL Int:=(bif (j.N != 0)then aDH j (Eu .or .i64 q 2)else aDH j q)
def rG (j:D6):AL Int:=(bif (!(j.Text.toList==CS.toList))then a0r j (Eu .or .i64 0 1)else a0r j 0)
def aX6 (eY r) (h:rG eY=some r):BA 174 [H9 eY] [] (AX r) []:=BG func174 rfl<|AY<|AY<|DT (fun s=>∃(j:Int),CX s ⟨BF 47 [(1,.ptr 0 0),(3,AX j)],[.box (BP (Fg eY))],0⟩/\a0r eY j=some r) (by rintro s ⟨j,hs,h⟩;exact DF hs<|DT (fun s=>∃(q:Int),CX s ⟨BF 47 [(1,.ptr 0 0),(3,AX q)],[.box (BP (Fg eY))],0⟩/\aDH eY q=some r) (by rintro s ⟨q,hs,h⟩;exact DF hs<|DT (fun s=>∃(z:Int),CX s ⟨BF 47 [(1,.ptr 0 0),(3,AX z)],[.box (BP (Fg eY))],0⟩/\Opn eY z=some r) (by rintro s ⟨z,hs,h⟩;exact DF hs<|DT (fun s=>∃(I:Int),CX s ⟨BF 47 [(1,.ptr 0 0),(3,AX I)],[.box (BP (Fg eY))],0⟩/\aCp eY I=some r) (by rintro s ⟨I,hs,h⟩;exact DF hs<|DT (fun s=>∃(J:Int),CX s ⟨BF 47 [(1,.ptr 0 0),(3,AX J)],[.box (BP (Fg eY))],0⟩/\aDm eY J=some r) (by rintro s ⟨J,hs,h⟩;exact DF hs<|DT (fun s=>∃(L:Int),CX s ⟨BF 47 [(1,.ptr 0 0),(3,AX L)],[.box (BP (Fg eY))],0⟩/\aEC eY L=some r) (by rintro s ⟨L,hs,h⟩;exact DF hs<|DT (fun s=>∃(M:Int),CX s ⟨BF 47 [(1,.ptr 0 0),(3,AX M)],[.box (BP (Fg eY))],0⟩/\aAk eY M=some r) (by rintro s ⟨M,hs,h⟩;exact DF hs<|DT (fun s=>∃(v8:Int),CX s ⟨BF 47 [(3,AX v8)],[],0⟩/\aCX v8=some r) (by rintro s ⟨v8,hs,h⟩;exact DF hs<|AY<|Cj)<|fun K9=>AP h fun x10 O h=>AU 2<|.X (ajm eY.Levels x10 O)<|BH h (fun h=>Ar<|.a 1<|.p (Wq (k:=.i64) (u:=M) (v:=128) rfl)<|.a 1<|.nil<|K9 _ ⟨(Eu .or .i64 M 128),Ac 47 8 [],h⟩) fun h=>K9 _ ⟨M,Ac 47 8 [],h⟩)<|fun U=>AU 2<|.Z (BQ DV eY.gJ Fl rfl)<|BH h (fun h=>Ar<|.a 1<|.p (Wq (k:=.i64) (u:=L) (v:=64) rfl)<|.a 1<|.nil<|U _ ⟨(Eu .or .i64 L 64),Ac 47 10 [AQ 0],h⟩) fun h=>U _ ⟨L,Ac 47 10 [AQ 0],h⟩)<|fun Y=>AU 2<|.Z (BQ DV eY.Allow Fl rfl)<|BH h (fun h=>Ar<|.a 1<|.p (Wq (k:=.i64) (u:=J) (v:=32) rfl)<|.a 1<|.nil<|Y _ ⟨(Eu .or .i64 J 32),Ac 47 10 [AQ 0],h⟩) fun h=>Y _ ⟨J,Ac 47 10 [AQ 0],h⟩)<|fun Z=>AY<|BH h (fun h=>Ar<|.a 1<|.p (Wq (k:=.i64) (u:=I) (v:=16) rfl)<|.a 1<|.nil<|Z _ ⟨(Eu .or .i64 I 16),Ac 47 10 [AQ 0],h⟩) fun h=>Z _ ⟨I,Ac 47 10 [AQ 0],h⟩)<|fun K18=>AY<|BH h (fun h=>Ar<|.a 1<|.p (Wq (k:=.i64) (u:=z) (v:=8) rfl)<|.a 1<|.nil<|K18 _ ⟨(Eu .or .i64 z 8),Ac 47 10 [AQ 0],h⟩) fun h=>K18 _ ⟨z,Ac 47 10 [AQ 0],h⟩)<|fun K20=>AY<|BH h (fun h=>Ar<|.a 1<|.p (Wq (k:=.i64) (u:=q) (v:=4) rfl)<|.a 1<|.nil<|K20 _ ⟨(Eu .or .i64 q 4),Ac 47 10 [AQ 0],h⟩) fun h=>K20 _ ⟨q,Ac 47 10 [AQ 0],h⟩)<|fun K22=>AY<|BH h (fun h=>Ar<|.a 1<|.p (Wq (k:=.i64) (u:=j) (v:=2) rfl)<|.a 1<|.nil<|K22 _ ⟨(Eu .or .i64 j 2),Ac 47 10 [AQ 0],h⟩) fun h=>K22 _ ⟨j,Ac 47 10 [AQ 0],h⟩)<|fun K24=>AY<|BH h (fun h=>Ar<|.a 1<|.p (Wq (k:=.i64) (u:=0) (v:=1) rfl)<|.a 1<|.nil<|K24 _ ⟨(Eu .or .i64 0 1),Ac 47 10 [AQ 0],h⟩) fun h=>K24 _ ⟨0,Ac 47 10 [AQ 0],h⟩
def aLB (j:BD) (u:(Int->AL Int)):Int->AL Int:=fun q=>(bif q<(j.size:Int) then(IL j q).bind fun z=>(bif z<33 then some true else(IL j q).bind fun I=>some (decide (I>126))).bind fun J=>(bif J then some 3 else u (Aw (q+1)))else some 0)
def aIH (j:BD):Int->AL Int:=bJ (aLB j) Ap
def uT (j:BD):AL Int:=(bif (j.toList==CS.toList)then some 9 else(bif (j.size:Int)>64 then some 7 else aIH j 0))
def aVw (Zp r) (h:uT Zp=some r):BA 274 [CZ Zp] [] (AX r) []:=BG func274 rfl<|AY<|Aa<|Aj<|AY<|Dw h CO fun h=>AY<|BH h CO fun h=>Aa<|AY<|Aj<|EH (fun I=>⟨BF 27 [(0,CZ Zp),(12,AX (Zp.size:Int)),(13,AX I)],[],0⟩) _ _ _ (Ac 27 12289 []) h<|fun J M j I h=>AY<|Aa<|CB h (fun h=>Aa<|Aj<|AY<|AP h fun O q h=>AU 2<|.p (Jl (k:=.i64) q H7 rfl)<|.a 1<|AP h fun L u h=>.mg 20 5 (Ag L) (.bi u (k2:=fun h=>AP h fun U z h=>.a 2<|.Z (Jl (k:=.i64) z H7 rfl)<|D7))<|.aY<|BH h CO fun h=>Ar<|.a 2<|.nil<|j _ _ (Ac 27 12289 []) h) fun h=>F5
def aMW (j:Gl) (z:(Int->AL Int)):Int->AL Int:=fun q=>(bif q<(j.length:Int) then(Ak j q).bind fun I=>(uT I).bind fun u=>(bif (u != 0)then some u else z (Aw (q+1)))else some 0)
def aTN (j:Gl):Int->AL Int:=bJ (aMW j) Ap
def WB (j:Gl):AL Int:=(bif (j.length:Int)>100 then some 7 else aTN j 0)
def aXg (ak r) (h:WB ak=some r):BA 181 [IC ak] [] (AX r) []:=BG func181 rfl<|AY<|Aa<|AU 1<|.Z (BQ DV ak Fl rfl)<|BH h CO fun h=>Aa<|AU 1<|.Z (BQ DV ak Fl rfl)<|Aj<|EH (fun z=>⟨BF 21 [(9,IC ak),(10,AX (ak.length:Int)),(11,AX z)],[],0⟩) _ _ _ (Ac 21 3584 []) h<|fun L M j z h=>AY<|Aa<|CB h (fun h=>Aa<|Aj<|AP h fun I q h=>BR<|.Z (BN DV q Fl Jj rfl)<|AP h fun J u h=>AU 1<|.X (aVw I J u)<|AY<|BH h CO fun h=>Ar<|.a 2<|.nil<|j _ _ (Ac 21 3584 []) h) fun h=>F5
def jm (j:Int):AL AZ:=(bif j<(-1000) then some true else some (decide (j>1000))).bind fun q=>some q
def aOC (aip r) (h:jm aip=some r):BA 277 [AX aip] [] (Ag r) []:=BG func277 rfl<|AY<|AU 2<|AP h fun q j h=>.mg 5 3 (Ag q) (.bi j)<|.aW<|Cj
def aCb (q:IJ) (u:(Int->AL Int)) (z:Int) (I:AZ):AL Int:=(bif I then some 8 else(jm q.N).bind fun j=>(bif j then some 2 else u (Aw (z+1))))
abbrev NQ:=A8 IJ
def aKm (j:NQ) (I:(Int->AL Int)):Int->AL Int:=fun q=>(bif q<(j.length:Int) then(Ak j q).bind fun u=>(dS u.User).bind fun J=>(bif (J != 0)then some 3 else(bif q>0 then(Ak j (Aw (q-1))).bind fun z=>aCb u I q (Op.bytesLess (u.User.toList) (z.User.toList)||u.User.toList==z.User.toList)else aCb u I q false))else some 0)
def aYN (j:NQ):Int->AL Int:=bJ (aKm j) Ap
def a0e (j:NQ):AL Int:=(bif (j.length:Int)>100 then some 7 else aYN j 0)
def aZq (ak r) (h:a0e ak=some r):BA 275 [Ob ak] [] (AX r) []:=BG func275 rfl<|AY<|Aa<|AU 1<|.Z (BQ Eb ak Fz rfl)<|BH h CO fun h=>Aa<|AU 1<|.Z (BQ Eb ak Fz rfl)<|Aj<|EH (fun L=>⟨BF 39 [(0,Ob ak),(8,Ob ak),(9,AX (ak.length:Int)),(10,AX L)],[],0⟩) _ _ _ (Ac 39 1793 []) h<|fun J15 k3 M L h=>AY<|Aa<|CB h (fun h=>Aa<|Aj<|AP h fun q O h=>AU 1<|.Z (BN Eb O Fz Jh rfl)<|Aj<|AP h fun x6 U h=>AU 2<|.X (a0X q.User x6 U)<|Dw h CO fun h=>DT (fun s=>∃(Y:AZ),CX s ⟨BF 39 [(0,Ob ak),(4,.ptr 0 0),(8,Ob ak),(9,AX (ak.length:Int)),(10,AX L),(20,Ag Y)],[.box (BP (Eb q))],0⟩/\aCb q k3 L Y=some r) (by rintro s ⟨Y,hs,h⟩;exact DF hs<|Dw h CO fun h=>AP h fun Z u h=>AU 2<|.X (aOC q.N Z u)<|BH h CO fun h=>Ar<|.a 2<|.nil<|M _ _ (Ac 39 1793 []) h)<|fun z=>Eo h (fun j h=>AP h fun I J h=>Dz AA AA AA (.a 2<|.c (BK some j)<|.a 5<|.p (BN Eb J Fz Jh rfl)<|.a 5<|.nil _)<|z _ ⟨(Op.bytesLess (q.User.toList) (I.User.toList)||q.User.toList==I.User.toList),Ac 39 1050385 [AQ 0],h⟩) fun j h=>Dz AA AA AA (.a 2<|.c (BK some j)<|.a 11<|.nil _)<|z _ ⟨false,Ac 39 1050385 [AQ 0],h⟩) fun h=>F5
def a00 (q:Jc) (u:(Int->AL Int)) (z:Int) (I:AZ):AL Int:=(bif I then some 8 else(jm q.N).bind fun j=>(bif j then some 2 else u (Aw (z+1))))
abbrev NU:=A8 Jc
def aJu (j:NU) (I:(Int->AL Int)):Int->AL Int:=fun q=>(bif q<(j.length:Int) then(Ak j q).bind fun u=>(xK u.Kind).bind fun J=>(bif (!J)then some 1 else(bif q>0 then(Ak j (Aw (q-1))).bind fun z=>a00 u I q (decide (u.Kind<=z.Kind))else a00 u I q false))else some 0)
def aY6 (j:NU):Int->AL Int:=bJ (aJu j) Ap
def aFA (j:NU):AL Int:=(bif (j.length:Int)>100 then some 7 else aY6 j 0)
def ajD (ak r) (h:aFA ak=some r):BA 276 [Oc ak] [] (AX r) []:=BG func276 rfl<|AY<|Aa<|AU 1<|.Z (BQ Ei ak Fv rfl)<|BH h CO fun h=>Aa<|AU 1<|.Z (BQ Ei ak Fv rfl)<|Aj<|EH (fun J=>⟨BF 39 [(0,Oc ak),(8,Oc ak),(9,AX (ak.length:Int)),(10,AX J)],[],0⟩) _ _ _ (Ac 39 1793 []) h<|fun J15 k3 L J h=>AY<|Aa<|CB h (fun h=>Aa<|Aj<|AP h fun q M h=>AU 1<|.Z (BN Ei M Fv Jq rfl)<|Aj<|AP h fun x6 O h=>AU 2<|.X (aWz q.Kind x6 O)<|Dw h CO fun h=>DT (fun s=>∃(U:AZ),CX s ⟨BF 39 [(0,Oc ak),(4,.ptr 0 0),(8,Oc ak),(9,AX (ak.length:Int)),(10,AX J),(20,Ag U)],[.box (BP (Ei q))],0⟩/\a00 q k3 J U=some r) (by rintro s ⟨U,hs,h⟩;exact DF hs<|Dw h CO fun h=>AP h fun Y u h=>AU 2<|.X (aOC q.N Y u)<|BH h CO fun h=>Ar<|.a 2<|.nil<|L _ _ (Ac 39 1793 []) h)<|fun z=>Eo h (fun j h=>AP h fun Z I h=>Dz AA AA AA (.a 2<|.c (BK some j)<|.a 5<|.p (BN Ei I Fv Jq rfl)<|.a 5<|.nil _)<|z _ ⟨(decide (q.Kind<=Z.Kind)),Ac 39 1050385 [AQ 0],h⟩) fun j h=>Dz AA AA AA (.a 2<|.c (BK some j)<|.a 11<|.nil _)<|z _ ⟨false,Ac 39 1050385 [AQ 0],h⟩) fun h=>F5
def aOw (j:Cc) (u:(Int->AL Int)):Int->AL Int:=fun q=>(bif q<7 then(Ak ([j.User,j.Message,j.State,j.gy,j.jL,j.lV,j.gW]:AO) q).bind fun z=>(jm z).bind fun I=>(bif I then some 2 else u (Aw (q+1)))else some 0)
def aGE (j:Cc):Int->AL Int:=bJ (aOw j) Ap
def aB (j:Cc):AL Int:=(a0e j.Users).bind fun q=>(bif (q != 0)then some q else(aFA j.Kinds).bind fun u=>(bif (u != 0)then some u else aGE j 0))
def ae8 (ak r) (h:aB ak=some r):BA 182 [IX ak] [] (AX r) []:=BG func182 rfl<|AY<|Aa<|AP h fun L j h=>AU 2<|.X (aZq ak.Users L j)<|AY<|BH h CO fun h=>Aa<|AP h fun M q h=>AU 2<|.X (ajD ak.Kinds M q)<|AY<|BH h CO fun h=>Aa<|AY<|Aj<|EH (fun J=>⟨BF 40 [(33,.d ((NZ Ae) ([ak.User,ak.Message,ak.State,ak.gy,ak.jL,ak.lV,ak.gW]:(A8 Int)))),(34,AX J)],[],0⟩) _ _ _ (Ac 40 25769803776 []) h<|fun O Z u J h=>AY<|Aa<|CB h (fun h=>Aa<|Aj<|AP h fun U z h=>BR<|.Z (a0q (k:=.i64) Ae z aA9 CY AA rfl)<|AP h fun Y I h=>AU 1<|.ca (aOC U Y I)<|.aY<|BH h CO fun h=>Ar<|.a 2<|.nil<|u _ _ (Ac 40 25769803776 []) h) fun h=>F5
def aAO (j:AZ):AL Int:=(bif j then some 7 else some 0)
def RJ (q:Int) (j:D6):AL Int:=(bif (q==9)then some (!(j.Text.toList==CS.toList))else some false).bind fun z=>(bif z then(uT j.Text).bind fun I=>some I else(bif (q==12)then some (j.Text.toList==CS.toList)else some false).bind fun J=>(bif J then some 9 else(bif (q==12)then some (decide ((j.Text.size:Int)>32))else some false).bind fun u=>(bif u then aAO u else aAO (decide ((j.Text.size:Int)>400)))))
def afX (dX fA r) (h:RJ dX fA=some r):BA 175 [AX dX,H9 fA] [] (AX r) []:=BG func175 rfl<|AY<|Aa<|Aj<|AU 2<|AP h fun L u h=>.mg 8 4 (Ag L) (.bi u)<|.aW<|Dw h (fun h=>AP h fun M z h=>AU 2<|.X (aVw fA.Text M z)<|Cj) fun h=>AU 2<|AP h fun O I h=>.mg 19 4 (Ag O) (.bi I)<|.aW<|Dw h CO fun h=>DT (fun s=>∃(J:AZ),CX s ⟨BF 37 [(24,Ag J)],[],0⟩/\aAO J=some r) aRe<|fun K10=>AU 2<|AP h fun j q h=>.mg 27 5 (Ag j) (.bi q)<|.aW<|CB h (fun h=>K10 _ ⟨j,Ac 37 16777216 [],h⟩) fun h=>Ar<|.a 5<|.nil<|K10 _ ⟨(decide ((fA.Text.size:Int)>400)),Ac 37 16777216 [],h⟩
def wM (j:D6) (q:Int) (u:Int):AL Int:=(bif j.N<q then some true else some (decide (j.N>u))).bind fun z=>(bif z then some 2 else some 0)
def OX (q:Int) (j:D6):AL Int:=(bif (q==2)then wM j 0 4 else(bif (q==8)then wM j 0 1000000000 else(bif (q==10)then wM j 1 10000 else(bif (q==9)then(bif (j.N==1)then some true else some (j.N==2)).bind fun u=>(bif u then some true else some (j.N==6)).bind fun z=>(bif z then some 0 else some 2)else wM j 0 3))))
def agz (dX fA r) (h:OX dX fA=some r):BA 176 [AX dX,H9 fA] [] (AX r) []:=BG func176 rfl<|AY<|AY<|DT (fun s=>∃(u:Int) (z:Int),CX s ⟨BF 39 [(3,.ptr 0 0),(5,AX u),(6,AX z)],[.box (BP (Fg fA))],0⟩/\wM fA u z=some r) (by rintro s ⟨u,z,hs,h⟩;exact DF hs<|Aa<|AU 4<|AP h fun M I h=>.mg 33 5 (Ag M) (.bi I)<|.aY<|JJ)<|fun K6=>AY<|Aj<|AY<|Dw h (fun h=>Ar<|.a 1<|.nil<|K6 _ ⟨0,4,Ac 39 104 [AQ 0],h⟩) fun h=>AY<|Dw h (fun h=>Ar<|.a 1<|.nil<|K6 _ ⟨0,1000000000,Ac 39 104 [AQ 0],h⟩) fun h=>AY<|Dw h (fun h=>Ar<|.a 2<|.nil<|K6 _ ⟨1,10000,Ac 39 104 [AQ 0],h⟩) fun h=>AY<|BH h (fun h=>Aa<|AY<|AU 2<|AP h fun J j h=>.mg 21 3 (Ag J) (.bi j)<|.a 1<|AP h fun L q h=>.mg 26 2 (Ag L) (DW q)<|.aY<|JJ) fun h=>K6 _ ⟨0,3,Ac 39 104 [AQ 0],h⟩
def SQ (q:Int) (j:D6):AL Int:=(bif j.Target<0 then some true else(bif (j.Target==0)then some (q != 11)else some false).bind fun u=>some u).bind fun z=>(bif z then some 2 else some 0)
def akY (dX fA r) (h:SQ dX fA=some r):BA 177 [AX dX,H9 fA] [] (AX r) []:=BG func177 rfl<|AY<|Aa<|AU 3<|AP h fun u j h=>.mg 8 8 (Ag u) (.bi j (k2:=fun h=>.a 3<|AP h fun z q h=>.mg 12 3 (Ag z) (.bi q)<|.aW<|D7))<|.aY<|JJ
def eU (q:Int) (j:D6):AL Int:=(bif j.Thread then some (j.Target==0)else some false).bind fun u=>(bif u then some 1 else some 0)
def acJ (dX fA r) (h:eU dX fA=some r):BA 178 [AX dX,H9 fA] [] (AX r) []:=BG func178 rfl<|AY<|Aa<|AU 2<|AP h fun q j h=>.mg 7 4 (Ag q) (.bi j)<|.aY<|JJ
def eX (q:Int) (j:D6):AL Int:=(bif (j.Via.toList==CS.toList)then some 0 else(bif (j.N != 3)then some 1 else(dS j.Via).bind fun u=>some u))
def ak7 (dX fA r) (h:eX dX fA=some r):BA 179 [AX dX,H9 fA] [] (AX r) []:=BG func179 rfl<|AY<|Aa<|Aj<|AY<|Dw h CO fun h=>AY<|BH h CO fun h=>AP h fun q j h=>AU 2<|.X (a0X fA.Via q j)<|Cj
def aIy (j:D6) (L:(Int->AL Int)):Int->AL Int:=fun u=>(bif u<(j.Allow.length:Int) then(Ak j.Allow u).bind fun q=>(uh q).bind fun I=>(bif (I != 0)then some 3 else(bif u>0 then(Ak j.Allow (Aw (u-1))).bind fun z=>some (Op.bytesLess (q.toList) (z.toList)||q.toList==z.toList)else some false).bind fun J=>(bif J then some 8 else L (Aw (u+1))))else some 0)
def aSW (j:D6):Int->AL Int:=bJ (aIy j) Ap
def XG (q:Int) (j:D6):AL Int:=(bif (q==6)then(WB j.Allow).bind fun u=>some u else(bif (j.Allow.length:Int)>0 then some (j.N != 3)else some false).bind fun z=>(bif z then some 1 else(bif (j.Allow.length:Int)>100 then some 7 else aSW j 0)))
def afq (dX fA r) (h:XG dX fA=some r):BA 180 [AX dX,H9 fA] [] (AX r) []:=BG func180 rfl<|AY<|Aa<|Aj<|AY<|Dw h (fun h=>AP h fun Z I h=>AU 2<|.X (aXg fA.Allow Z I)<|Cj) fun h=>AU 2<|.p (BQ DV fA.Allow Fl rfl)<|.a 1<|AP h fun x3 J h=>.mg 18 4 (Ag x3) (.bi J)<|.aW<|Dw h CO fun h=>AU 2<|.Z (BQ DV fA.Allow Fl rfl)<|BH h CO fun h=>Aa<|AU 2<|.Z (BQ DV fA.Allow Fl rfl)<|Aj<|EH (fun Y=>⟨BF 52 [(3,.ptr 0 0),(29,IC fA.Allow),(30,AX (fA.Allow.length:Int)),(31,AX Y)],[.box (BP (Fg fA))],0⟩) _ _ _ (Ac 52 3758096392 [AQ 0]) h<|fun J17 k8 L Y h=>AY<|Aa<|CB h (fun h=>Aa<|Aj<|AP h fun M j h=>AU 1<|.Z (BN DV j Fl Jj rfl)<|Aa<|AP h fun O q h=>AU 1<|.X (aPS M O q)<|BH h CO fun h=>AU 2<|AP h fun U u h=>.mg 41 9 (Ag U) (.bi u (fun h=>AP h fun x15 z h=>.a 5<|.Z (BN DV z Fl Jj rfl)<|D7))<|.aY<|BH h CO fun h=>Ar<|.a 2<|.nil<|L _ _ (Ac 52 3758096392 [AQ 0]) h) fun h=>F5
def SPr (n:Nat) (a0:Int) (j:D6):AL Int:=bif n==175 then RJ a0 j else bif n==176 then OX a0 j else bif n==177 then SQ a0 j else bif n==178 then eU a0 j else bif n==179 then eX a0 j else bif n==180 then XG a0 j else none
def afI (n a0 j r) (h:SPr n a0 j=some r):XH Am Ae Fg Ae (aW0 n) (SPr n):=by
 by_cases u:n=175
 ·subst u;exact⟨175,[],rfl,abj,fun a0 j c q=>afX a0 j c q⟩
 by_cases z:n=176
 ·subst z;exact⟨176,[],rfl,anC,fun a0 j c q=>agz a0 j c q⟩
 by_cases I:n=177
 ·subst I;exact⟨177,[],rfl,ags,fun a0 j c q=>akY a0 j c q⟩
 by_cases J:n=178
 ·subst J;exact⟨178,[],rfl,acw,fun a0 j c q=>acJ a0 j c q⟩
 by_cases L:n=179
 ·subst L;exact⟨179,[],rfl,ajM,fun a0 j c q=>ak7 a0 j c q⟩
 by_cases M:n=180
 ·subst M;exact⟨180,[],rfl,ahD,fun a0 j c q=>afq a0 j c q⟩
 rw[SPr,jv u,jv z,jv I,jv J,jv L,jv M]at h;have h:(none:AL Int)=some r:=h;cases h
def fE :(A8 Oa):=[(⟨1,175⟩:Oa),(⟨2,176⟩:Oa),(⟨4,177⟩:Oa),(⟨8,178⟩:Oa),(⟨16,179⟩:Oa),(⟨32,180⟩:Oa)]
def aN2 (j:(Int->D6->AL Int)) (q:Int) (u:D6):AL Int:=j (Aw (q+1)) u
def Xq (L:Int) (u:Int) (z:(Int->D6->AL Int)):Int->D6->AL Int:=fun q j=>(bif q<(fE.length:Int) then(Ak fE q).bind fun I=>(bif ((Eu .and .i64 L I.aBN)==0)then aN2 z q j else(SPr I.atz u j).bind fun J=>(bif (J != 0)then some J else aN2 z q j))else(bif ((Eu .and .i64 L 64) != 0)then(WB j.gJ).bind fun M=>some M else(bif ((Eu .and .i64 L 128) != 0)then(aB j.Levels).bind fun O=>some O else some 0)))
def NH (q:Int) (j:Int):Int->D6->AL Int:=aU (Xq q j) Ap
def MS (j:Int) (q:D6):AL Int:=(mG j).bind fun z=>(xK j).bind fun I=>(bif (!I)then some true else(rG q).bind fun J=>some ((Eu .andNot .i64 J z) != 0)).bind fun L=>(bif L then some 1 else(rG q).bind fun M=>(bif (M==0)then(jo j).bind fun u=>some (u==0)else some false).bind fun O=>(bif O then some 0 else NH z j 0 q))
def aaf (dX fA r) (h:MS dX fA=some r):BA 103 [AX dX,H9 fA] [] (AX r) []:=BG func103 rfl<|AY<|AP h fun I hx1 h=>AU 1<|.X (aUi dX I hx1)<|Aa<|AP h fun x2 hx2 h=>AU 1<|.ca (aWz dX x2 hx2)<|.a 1<|AP h fun x3 hx3 h=>.mg 15 6 (Ag x3) (.bi hx3 (k2:=fun h=>AP h fun x5 hx5 h=>.a 1<|.ca (aX6 fA x5 hx5)<|.a 1<|.Z (ajH (k:=.i64) (u:=x5) (v:=I) rfl)<|D7))<|.aY<|BH h CO fun h=>Aa<|AP h fun x7 hx7 h=>AU 1<|.ca (aX6 fA x7 hx7)<|.a 1<|AP h fun x8 ni h=>.mg 25 4 (Ag x8) (.bi ni (fun h=>AP h fun x10 J h=>.a 1<|.X (aVA dX x10 J)<|D7))<|.aY<|BH h CO fun h=>AU 6<|.Z (EP aZE aJI [UZ (⟨1,175⟩:Oa),UZ (⟨2,176⟩:Oa),UZ (⟨4,177⟩:Oa),UZ (⟨8,178⟩:Oa),UZ (⟨16,179⟩:Oa),UZ (⟨32,180⟩:Oa)] rfl)<|Aa<|AU 1<|.Z (BQ UZ fE aUT rfl)<|Aj<|Dk (fun q j=>⟨BF 69 [(0,AX dX),(3,.ptr 0 0),(5,AX I),(37,.d ((Bo UZ) fE)),(38,AX (fE.length:Int)),(39,AX q)],[.box (BP (Fg j))],0⟩) _ _ _ _ (Ac 69 962072674345 [AQ 0]) h<|fun J25 k14 L q j h=>AY<|Aa<|CB h (fun h=>DT (fun s=>CX s ⟨BF 69 [(0,AX dX),(3,.ptr 0 0),(5,AX I),(37,.d ((Bo UZ) fE)),(38,AX (fE.length:Int)),(39,AX q)],[.box (BP (Fg j))],0⟩/\aN2 k14 q j=some r) (by rintro s ⟨hs,h⟩;exact DF hs<|Ar<|.a 2<|.nil<|L _ _ _ (Ac 69 962072674345 [AQ 0]) h)<|fun M=>Aj<|AP h fun O U h=>BR<|.Z (BN UZ U aUT aOb rfl)<|Aa<|AU 3<|.Z (RQ (k:=.i64) (u:=I) (v:=O.aBN) rfl)<|BH h (fun h=>D8<|M _ ⟨Ac 69 962072674345 [AQ 0],h⟩) fun h=>AP h fun x19 z h=>AU 4<|.Z (Xv (afI O.atz dX j x19 z) z rfl)<|AY<|BH h CO fun h=>M _ ⟨Ac 69 962072674345 [AQ 0],h⟩) fun h=>D8<|Aa<|AU 1<|.Z (RQ (k:=.i64) (u:=I) (v:=64) rfl)<|BH h (fun h=>AP h fun qP Y h=>AU 2<|.X (aXg j.gJ qP Y)<|Cj) fun h=>Aa<|AU 1<|.Z (RQ (k:=.i64) (u:=I) (v:=128) rfl)<|BH h (fun h=>AP h fun x24 Z h=>AU 2<|.X (ae8 j.Levels x24 Z)<|Cj) fun h=>AY<|Cj
def ZI (j:AV) (U:AZ):AL Int:=(bif U then some 1 else(aCc j).bind fun Y=>(bif (!Y)then some 3 else(bif j.Time<0 then some true else some (decide (j.Time>1000000000))).bind fun Z=>(bif Z then some true else some (decide (j.Depth<1))).bind fun x9=>(bif x9 then some true else some (decide (j.Depth>100000))).bind fun q=>(bif q then some 2 else(bif (j.bI.length:Int)>10 then some true else some (decide ((j.bQ.length:Int)>8))).bind fun u=>(bif u then some 7 else(wB j.bI).bind fun z=>(bif (!z)then some true else(wB j.bQ).bind fun I=>some (!I)).bind fun J=>(bif J then some 8 else(bif ((j.bI.length:Int)==0)then some (j.Kind != 1)else some false).bind fun L=>(bif L then some 9 else(bif (j.Kind==1)then some (decide ((Aw ((j.bI.length:Int)+(j.bQ.length:Int)))>0))else some false).bind fun M=>(bif M then some 6 else(MS j.Kind j.Content).bind fun O=>some O)))))))
def Qh (j:AV):AL Int:=(bif (j.Kind==2)then some true else some (j.Kind==9)).bind fun u=>(bif j.Kind<1 then ZI j true else(bif j.Kind>14 then ZI j true else(ZP j.Kind).bind fun q=>(bif (!(j.State==q))then ZI j true else(bif (!(j.Key.toList==CS.toList))then ZI j (!u)else ZI j false))))
def aB5 (aQ r) (h:Qh aQ=some r):BA 46 [DC aQ] [] (AX r) []:=BG func46 rfl<|AY<|AU 3<|AP h fun x1 hx1 h=>.mg 7 4 (Ag x1) (.bi hx1)<|.aW<|Aa<|Aj<|DT (fun s=>∃(v3:AZ),CX s ⟨BF 112 [(1,.ptr 0 0),(12,Ag v3)],[.box (BP (BI aQ))],0⟩/\ZI aQ v3=some r) (by rintro s ⟨v3,hs,h⟩;exact DF hs<|Dw h CO fun h=>AP h fun x5 hx5 h=>AU 1<|.X (ak1 aQ x5 hx5)<|Dw h CO fun h=>AU 3<|AP h fun x7 hx7 h=>.mg 46 4 (Ag x7) (.bi hx7)<|.a 1<|AP h fun x9 lW h=>.mg 52 3 (Ag x9) (DW lW)<|.a 1<|AP h fun x11 M h=>.mg 57 3 (Ag x11) (DW M)<|.aW<|Dw h CO fun h=>AU 2<|.p (BQ Ae aQ.bI Bg rfl)<|.a 1<|AP h fun x14 O h=>.mg 66 5 (Ag x14) (.bi O (k2:=fun h=>.a 2<|.Z (BQ Ae aQ.bQ Bg rfl)<|D7))<|.aW<|Dw h CO fun h=>AP h fun x17 U h=>AU 2<|.ca (aXQ aQ.bI x17 U)<|.a 1<|AP h fun x18 Y h=>.mg 77 5 (Ag x18) (.bi Y (k2:=fun h=>AP h fun vJ Z h=>.a 2<|.X (aXQ aQ.bQ vJ Z)<|D7))<|.aW<|Dw h CO fun h=>AU 2<|.p (BQ Ae aQ.bI Bg rfl)<|.a 1<|AP h fun qP vY h=>.mg 88 4 (Ag qP) (.bi vY)<|.aW<|Dw h CO fun h=>AU 3<|AP h fun x25 hx25 h=>.mg 97 9 (Ag x25) (.bi hx25 (fun h=>.a 2<|.p (BQ Ae aQ.bI Bg rfl)<|.a 2<|.Z (BQ Ae aQ.bQ Bg rfl)<|D7))<|.aW<|BH h CO fun h=>AP h fun x28 hx28 h=>AU 4<|.X (aaf aQ.Kind aQ.Content x28 hx28)<|Cj)<|fun z=>Eo h (fun j h=>Dz AA AA AA (.a 3<|.c (BK some j)<|.a 22<|.nil _)<|z _ ⟨true,Ac 112 4098 [AQ 0],h⟩) fun j h=>Eo h (fun q h=>Dz AA AA AA (.a 3<|.c (BK some j)<|.a 4<|.c (BK some q)<|.a 17<|.nil _)<|z _ ⟨true,Ac 112 4098 [AQ 0],h⟩) fun q h=>AP h fun L I h=>Eo h (fun u h=>Dz AA AA AA (.a 3<|.c (BK some j)<|.a 4<|.c (BK some q)<|.a 4<|.ca (Zj aQ.Kind L I)<|.a 2<|.c (BK some u)<|.a 9<|.nil _)<|z _ ⟨true,Ac 112 4098 [AQ 0],h⟩) fun u h=>Eo h (fun J h=>Dz AA AA AA (.a 3<|.c (BK some j)<|.a 4<|.c (BK some q)<|.a 4<|.ca (Zj aQ.Kind L I)<|.a 2<|.c (BK some u)<|.a 3<|.c (BK some J)<|.a 5<|.nil _)<|z _ ⟨(!x1),Ac 112 4098 [AQ 0],h⟩) fun J h=>Dz AA AA AA (.a 3<|.c (BK some j)<|.a 4<|.c (BK some q)<|.a 4<|.ca (Zj aQ.Kind L I)<|.a 2<|.c (BK some u)<|.a 3<|.c (BK some J)<|.a 5<|.nil _)<|z _ ⟨false,Ac 112 4098 [AQ 0],h⟩
def aIh (j:Gl) (q:Gl) (z:(Int->AL AZ)):Int->AL AZ:=fun u=>(bif u<(j.length:Int) then(Ak j u).bind fun I=>(Ak q u).bind fun J=>(bif (!(I.toList==J.toList))then some false else z (Aw (u+1)))else some true)
def aOh (j:Gl) (q:Gl):Int->AL AZ:=bJ (aIh j q) Ap
def oh (j:Gl) (q:Gl):AL AZ:=(bif ((j.length:Int) != (q.length:Int))then some false else aOh j q 0)
def aOv (gB fV r) (h:oh gB fV=some r):BA 132 [IC gB,IC fV] [] (Ag r) []:=BG func132 rfl<|AY<|Aa<|AU 1<|.p (BQ DV gB Fl rfl)<|.a 1<|.Z (BQ DV fV Fl rfl)<|BH h CO fun h=>Aa<|AU 1<|.Z (BQ DV gB Fl rfl)<|Aj<|EH (fun z=>⟨BF 26 [(0,IC gB),(1,IC fV),(12,AX (gB.length:Int)),(13,AX z)],[],0⟩) _ _ _ (Ac 26 12291 []) h<|fun I J j z h=>AY<|Aa<|CB h (fun h=>Aa<|Aj<|AY<|CJ h fun L q M u h=>FU AA AA AA (.a 2<|.p (BN DV q Fl Jj rfl)<|.a 3<|.p (BN DV u Fl Jj rfl)<|.a 2<|.nil _)<|BH h CO fun h=>Ar<|.a 2<|.nil<|j _ _ (Ac 26 12291 []) h) fun h=>F5
def aJN (j:NQ) (q:NQ) (z:(Int->AL AZ)):Int->AL AZ:=fun u=>(bif u<(j.length:Int) then(Ak j u).bind fun I=>(Ak q u).bind fun J=>(bif (!aDx I J)then some false else z (Aw (u+1)))else some true)
def aV2 (j:NQ) (q:NQ):Int->AL AZ:=bJ (aJN j q) Ap
def aAr (j:NQ) (q:NQ):AL AZ:=(bif ((j.length:Int) != (q.length:Int))then some false else aV2 j q 0)
def ajW (gB fV r) (h:aAr gB fV=some r):BA 133 [Ob gB,Ob fV] [] (Ag r) []:=BG func133 rfl<|AY<|Aa<|AU 1<|.p (BQ Eb gB Fz rfl)<|.a 1<|.Z (BQ Eb fV Fz rfl)<|BH h CO fun h=>Aa<|AU 1<|.Z (BQ Eb gB Fz rfl)<|Aj<|EH (fun J=>⟨BF 26 [(0,Ob gB),(1,Ob fV),(12,AX (gB.length:Int)),(13,AX J)],[],0⟩) _ _ _ (Ac 26 12291 []) h<|fun L M u J h=>AY<|Aa<|CB h (fun h=>Aa<|Aj<|AY<|CJ h fun j z q I h=>FU AA AA AA (.a 2<|.p (BN Eb z Fz Jh rfl)<|.a 3<|.p (BN Eb I Fz Jh rfl)<|.a 1<|.p (x:=(Ag (!aDx j q))) (aGH [.string j.User,.int .i64 j.N] [.string q.User,.int .i64 q.N] (aYn j q) Bj amX rfl)<|.nil _)<|BH h CO fun h=>Ar<|.a 2<|.nil<|u _ _ (Ac 26 12291 []) h) fun h=>F5
def aKl (j:NU) (q:NU) (z:(Int->AL AZ)):Int->AL AZ:=fun u=>(bif u<(j.length:Int) then(Ak j u).bind fun I=>(Ak q u).bind fun J=>(bif (!a1J I J)then some false else z (Aw (u+1)))else some true)
def aTy (j:NU) (q:NU):Int->AL AZ:=bJ (aKl j q) Ap
def aCj (j:NU) (q:NU):AL AZ:=(bif ((j.length:Int) != (q.length:Int))then some false else aTy j q 0)
def agN (gB fV r) (h:aCj gB fV=some r):BA 134 [Oc gB,Oc fV] [] (Ag r) []:=BG func134 rfl<|AY<|Aa<|AU 1<|.p (BQ Ei gB Fv rfl)<|.a 1<|.Z (BQ Ei fV Fv rfl)<|BH h CO fun h=>Aa<|AU 1<|.Z (BQ Ei gB Fv rfl)<|Aj<|EH (fun J=>⟨BF 26 [(0,Oc gB),(1,Oc fV),(12,AX (gB.length:Int)),(13,AX J)],[],0⟩) _ _ _ (Ac 26 12291 []) h<|fun L M u J h=>AY<|Aa<|CB h (fun h=>Aa<|Aj<|AY<|CJ h fun j z q I h=>FU AA AA AA (.a 2<|.p (BN Ei z Fv Jq rfl)<|.a 3<|.p (BN Ei I Fv Jq rfl)<|.a 1<|.p (x:=(Ag (!a1J j q))) (aGH [.int .i64 j.Kind,.int .i64 j.N] [.int .i64 q.Kind,.int .i64 q.N] (adl j q) Bj aaN rfl)<|.nil _)<|BH h CO fun h=>Ar<|.a 2<|.nil<|u _ _ (Ac 26 12291 []) h) fun h=>F5
def aDG (j:D6) (q:D6):AL AZ:=(bif (!(j.Text.toList==q.Text.toList))then some true else some (j.N != q.N)).bind fun x1=>(bif x1 then some true else some (j.Target != q.Target)).bind fun x3=>(bif x3 then some true else some (!(j.Thread==q.Thread))).bind fun x5=>(bif x5 then some true else some (!(j.Via.toList==q.Via.toList))).bind fun x7=>(bif x7 then some true else(oh j.Allow q.Allow).bind fun u=>some (!u)).bind fun x9=>(bif x9 then some true else(oh j.gJ q.gJ).bind fun z=>some (!z)).bind fun I=>(bif I then some false else(aAr j.Levels.Users q.Levels.Users).bind fun J=>(bif J then(aCj j.Levels.Kinds q.Levels.Kinds).bind fun L=>some L else some false).bind fun M=>(bif M then some (j.Levels.User==q.Levels.User)else some false).bind fun O=>(bif O then some (j.Levels.Message==q.Levels.Message)else some false).bind fun U=>(bif U then some (j.Levels.State==q.Levels.State)else some false).bind fun Y=>(bif Y then some (j.Levels.gy==q.Levels.gy)else some false).bind fun Z=>(bif Z then some (j.Levels.jL==q.Levels.jL)else some false).bind fun x28=>(bif x28 then some (j.Levels.lV==q.Levels.lV)else some false).bind fun x30=>(bif x30 then some (j.Levels.gW==q.Levels.gW)else some false).bind fun x32=>some x32)
def amZ (gB fV r) (h:aDG gB fV=some r):BA 75 [H9 gB,H9 fV] [] (Ag r) []:=BG func75 rfl<|AY<|Bv.aty [] 108 0x68383206638310641830062182f064302e062302d05c082c05a082b060102a05e1029060302805c182805e302705a182705c202605a28250580024056002305818220500822056182104e0821058202004c0820056281f04a081f054301e050101e052301d04e101d050201c04c181c04e281b04a181b04c281a04a201a048181904400190461818042001804820170400017046281603e0016044101503c0815042101403a0814044201304018130380813042281203e18120360812040281103e2011034081103c2010038101003a280f036100f038280e036200e034180e032100d02a000d030100c028000c032200b02e180b026000b030280a02c180a024000a02e280902c2009022000902a2008026100802008080282807024100701e080702628060242006022180601c0806020280501e200501c100501a2004016100401000040182803014100300e000301628020142002012180200c0002010280100e200100c100100a08010082800006200000410000020000 [51,52] ⟨BF 121 [(2,.ptr 0 0),(3,.ptr 1 0),(5,.ptr 2 0),(6,.ptr 3 0)],[.box (BP (Fg gB)),.box (BP (Fg fV)),.box (BP (Ez gB.Levels)),.box (BP (Ez fV.Levels))],0⟩ ⟨jw (Ac 121 108 [AQ 0,AQ 1,AQ 2,AQ 3]),jw (Ac 121 108 [AQ 0,AQ 1,AQ 3,AQ 2]),trivial⟩<|Aa<|AU 5<|AP h fun x1 hx1 h=>.mg 16 6 (Ag x1) (.bi hx1)<|.a 1<|AP h fun x3 hx3 h=>.mg 24 5 (Ag x3) (DW hx3)<|.a 1<|AP h fun x5 hx5 h=>.mg 31 5 (Ag x5) (DW hx5)<|.a 1<|AP h fun x7 hx7 h=>.mg 38 5 (Ag x7) (DW hx7)<|.a 1<|AP h fun x9 lW h=>.mg 45 6 (Ag x9) (DW lW (k2:=fun e i=>by subst e;have h:=i;exact AP h fun x11 j h=>.a 4<|.X (aOv gB.Allow fV.Allow x11 j)<|D7))<|.a 1<|AP h fun x12 q h=>.mg 53 6 (Ag x12) (DW q (k2:=fun e i=>by subst e;have h:=i;exact AP h fun x14 u h=>.a 4<|.X (aOv gB.gJ fV.gJ x14 u)<|D7))<|.aY<|BH h CO fun h=>AP h fun x16 z h=>AU 4<|.ca (ajW gB.Levels.Users fV.Levels.Users x16 z)<|.a 1<|AP h fun x17 I h=>.mg 66 5 (Ag x17) (DW I (fun e i=>by subst e;have h:=i;exact AP h fun x19 J h=>.a 4<|.X (agN gB.Levels.Kinds fV.Levels.Kinds x19 J)<|D7))<|.a 1<|AP h fun vJ L h=>.mg 73 5 (Ag vJ) (DW L)<|.a 1<|AP h fun qP M h=>.mg 80 5 (Ag qP) (DW M)<|.a 1<|AP h fun x24 O h=>.mg 87 5 (Ag x24) (DW O)<|.a 1<|AP h fun vX U h=>.mg 94 5 (Ag vX) (DW U)<|.a 1<|AP h fun x28 Y h=>.mg 101 5 (Ag x28) (DW Y)<|.a 1<|AP h fun x30 Z h=>.mg 108 5 (Ag x30) (DW Z)<|.a 1<|AP h fun x32 hx32 h=>.mg 115 5 (Ag x32) (DW hx32)<|.aW<|Cj
def eK (j:BD):AL BD:=(jR j zW).bind fun q=>some q.2.1
def aEh (Dh r) (h:eK Dh=some r):BA 30 [CZ Dh] [] (CZ r) []:=BG func30 rfl<|AY<|AP h fun q j h=>AU 1<|.X (aUs Dh zW q j)<|AY<|Cj
def Zv (j:AV) (q:AZ):AL Int:=(bif q then some 6 else(vN j).bind fun u=>(bif (u != j.Id)then some 11 else(eK j.bF).bind fun z=>(bif (!aFY j.nU (⟨z,j.Id⟩:Ny))then some 12 else some 0)))
def zn (j:AV):AL Int:=(Qh j).bind fun I=>(bif (I != 0)then some I else(a0d j).bind fun q=>(bif (!q)then(qy j.Kind j.Content).bind fun u=>(aDG j.Content u).bind fun z=>Zv j (!z)else Zv j false))
def Uc (aQ r) (h:zn aQ=some r):BA 29 [DC aQ] [] (AX r) []:=BG func29 rfl<|AY<|Aa<|AP h fun x1 O h=>AU 1<|.X (aB5 aQ x1 O)<|AY<|BH h CO fun h=>Aa<|Aj<|DT (fun s=>∃(U:AZ),CX s ⟨BF 40 [(1,.ptr 0 0),(9,Ag U)],[.box (BP (BI aQ))],0⟩/\Zv aQ U=some r) (by rintro s ⟨U,hs,h⟩;exact DF hs<|Dw h CO fun h=>AP h fun x5 Y h=>FU AA AA AA (.a 1<|.ca (aXj aQ x5 Y)<|.a 4<|.nil _)<|Dw h CO fun h=>AP h fun u Z h=>FU AA AA AA (.a 4<|.ca (aEh aQ.bF u Z)<|.a 3<|.p (x:=(Ag (!aFY aQ.nU (⟨u,aQ.Id⟩:Ny)))) (aGH [.string aQ.nU.Server,.int .i64 aQ.nU.Sum] [.string ((⟨u,aQ.Id⟩:Ny).Server),.int .i64 ((⟨u,aQ.Id⟩:Ny).Sum)] (abQ aQ.nU (⟨u,aQ.Id⟩:Ny)) Bj aag rfl)<|.a 1<|.nil _)<|JJ)<|fun K9=>AP h fun z q h=>Eo h (fun j h=>CJ h fun I J L M h=>Dz AA AA AA (.a 1<|.ca (aXB aQ z q)<|.a 1<|.c (BK some j)<|.a 6<|.ca (aTm aQ.Kind aQ.Content I J)<|.ca (amZ aQ.Content I L M)<|.a 3<|.nil _)<|K9 _ ⟨(!L),Ac 40 514 [AQ 0],h⟩) fun j h=>Dz AA AA AA (.a 1<|.ca (aXB aQ z q)<|.a 1<|.c (BK some j)<|.a 11<|.nil _)<|K9 _ ⟨false,Ac 40 514 [AQ 0],h⟩
def a0h (j:Ai) (u:(Int->AL Int)):Int->AL Int:=fun q=>(bif q<(j.length:Int) then(Ak j q).bind fun z=>(Ak j (Aw (q-1))).bind fun I=>(bif z.Id<=I.Id then some 8 else u (Aw (q+1)))else some 0)
def aAo (j:Ai):Int->AL Int:=bJ (a0h j) Ap
def YX (j:Ai) (I:(Int->AL Int)):Int->AL Int:=fun q=>(bif q<(j.length:Int) then(Ak j q).bind fun u=>(Ak j 0).bind fun z=>(bif (!(u.Room.toList==z.Room.toList))then some 13 else I (Aw (q+1)))else aAo j 1)
def uz (j:Ai):Int->AL Int:=bJ (YX j) Ap
def zV (j:Ai) (z:(Int->AL Int)):Int->AL Int:=fun q=>(bif q<(j.length:Int) then(Ak j q).bind fun I=>(zn I).bind fun u=>(bif (u != 0)then some u else z (Aw (q+1)))else uz j 0)
def aJs (j:Ai):Int->AL Int:=bJ (zV j) Ap
def Pq (j:Ai):AL Int:=(bif (j.length:Int)>2000 then some 7 else aJs j 0)
def aam (ak r) (h:Pq ak=some r):BA 42 [BL ak] [] (AX r) []:=BG func42 rfl<|AY<|Aa<|AU 1<|.Z (BQ BI ak Cm rfl)<|BH h CO fun h=>Aa<|AU 1<|.Z (BQ BI ak Cm rfl)<|Aj<|EH (fun Y=>⟨BF 56 [(0,BL ak),(12,BL ak),(13,AX (ak.length:Int)),(14,AX Y)],[],0⟩) _ _ _ (Ac 56 28673 []) h<|fun J22 k3 L Y h=>AY<|Aa<|CB h (fun h=>Aa<|Aj<|AP h fun x5 M h=>BR<|.Z (BN BI M Cm D9 rfl)<|AP h fun x6 O h=>AU 1<|.X (Uc x5 x6 O)<|AY<|BH h CO fun h=>Ar<|.a 2<|.nil<|L _ _ (Ac 56 28673 []) h) fun h=>D8<|Aa<|AU 1<|.Z (BQ BI ak Cm rfl)<|Aj<|EH (fun Z=>⟨BF 56 [(0,BL ak),(24,BL ak),(25,AX (ak.length:Int)),(26,AX Z)],[],0⟩) _ _ _ (Ac 56 117440513 []) h<|fun J21 k9 U Z h=>AY<|Aa<|CB h (fun h=>Aa<|Aj<|AP h fun x11 j h=>BR<|.Z (BN BI j Cm D9 rfl)<|AP h fun x12 q h=>FU AA AA AA (.a 3<|.p (BN BI q Cm D9 rfl)<|.a 3<|.nil _)<|BH h CO fun h=>Ar<|.a 2<|.nil<|U _ _ (Ac 56 117440513 []) h) fun h=>D8<|Aa<|AY<|Aj<|EH (fun u=>⟨BF 56 [(0,BL ak),(8,AX u)],[],0⟩) _ _ _ (Ac 56 257 []) h<|fun J20 k15 z u h=>Aa<|AU 2<|.Z (BQ BI ak Cm rfl)<|CB h (fun h=>Aa<|Aj<|CJ h fun x17 I x18 J h=>FU AA AA AA (.a 2<|.p (BN BI I Cm D9 rfl)<|.a 5<|.p (BN BI J Cm D9 rfl)<|.a 3<|.nil _)<|BH h CO fun h=>Ar<|.a 3<|.nil<|z _ _ (Ac 56 257 []) h) fun h=>F5
def aUC (j:Ai) (z:(Int->(A8 (Int×Int))->AL (A8 (Int×Int)))):Int->(A8 (Int×Int))->AL (A8 (Int×Int)):=fun q u=>(bif q>=0 then(Ak j q).bind fun I=>z (Aw (q-1)) (F8 u I.Id q)else some u)
def aUk (j:Ai):Int->(A8 (Int×Int))->AL (A8 (Int×Int)):=aU (aUC j) Ap
def Yz (j:Ai):AL (A8 (Int×Int)):=aUk j (Aw ((j.length:Int)-1)) []
def pX (ak r) (h:Yz ak=some r):BA 153 [BL ak] [] (.mp 0) [.map (List.map (DL Dj Ae) r)]:=BG func153 rfl<|AY<|AU 1<|.p (BQ BI ak Cm rfl)<|.Y (x:=.mp 0) (ajr (kd:=.i64) (n:=(ak.length:Int)) Ri rfl)<|Aa<|AU 1<|.Z (BQ BI ak Cm rfl)<|Aj<|Dk (fun j q=>⟨BF 23 [(0,BL ak),(3,.mp 0),(4,AX j)],[.map (List.map (DL Dj Ae) q)],0⟩) _ _ _ _ (Ac 23 25 [AQ 0]) h<|fun J L u j q h=>Aa<|AY<|CB h (fun h=>Aa<|Aj<|AP h fun I z h=>Ar<|.a 3<|.p (BN BI z Cm D9 rfl)<|.a 3<|.f (zf (k:=0) (key:=I.Id) (val:=j) (m:=q) Ae Ri JA AA rfl)<|.nil<|Ar<|.a 3<|.nil<|u _ _ _ (Ac 23 25 [AQ 0]) h) fun h=>IK
def aL2 (j:AO) (q:(A8 (Int×Int))) (k2:(Int->AL AZ)):Int->AL AZ:=fun u=>(bif u<(j.length:Int) then(Ak j u).bind fun z=>(bif (!((DX q z).isSome))then some false else k2 (Aw (u+1)))else some true)
def aUj (j:AO) (q:(A8 (Int×Int))):Int->AL AZ:=bJ (aL2 j q) Ap
def wY (j:AO) (q:(A8 (Int×Int))):AL AZ:=aUj j q 0
def aVq (aej afY r) (h:wY aej afY=some r):BA 311 [Bq aej,.ptr 0 0] [.box [.mp 1],.map (List.map (DL Dj Ae) afY)] (Ag r) [.box [.mp 1],.map (List.map (DL Dj Ae) afY)]:=BG func311 rfl<|AY<|Aa<|AU 1<|.Z (BQ Ae aej Bg rfl)<|Aj<|EH (fun z=>⟨BF 23 [(1,.ptr 0 0),(8,Bq aej),(9,AX (aej.length:Int)),(10,AX z)],[.box [.mp 1],.map (List.map (DL Dj Ae) afY)],2⟩) _ _ _ (Ac 23 1794 [AQ 0,AQ 1]) h<|fun I k2 j z h=>AY<|Aa<|CB h (fun h=>Aa<|Aj<|AP h fun q u h=>BR<|.Z (BN Ae u Bg CY rfl)<|AU 2<|.Z (x:=.fC [AX ((DX afY q).getD 0),Ag ((DX afY q).isSome)]) (aEH (k:=1) (key:=q) (m:=afY) Ae 0 Ri JA zero3 AA AA AA rfl)<|AY<|BH h (fun h=>AY<|aOF) fun h=>Ar<|.a 2<|.nil<|j _ _ (Ac 23 1794 [AQ 0,AQ 1]) h) fun h=>D8<|AY<|aOF
def aJt (j:Ai) (J:(Int->(A8 (Int×Int))->AL AZ)):Int->(A8 (Int×Int))->AL AZ:=fun q u=>(bif q<(j.length:Int) then(Ak j q).bind fun L=>(wY L.bI u).bind fun M=>(bif (!M)then some true else(Ak j q).bind fun z=>(wY z.bQ u).bind fun I=>some (!I)).bind fun O=>(bif O then some false else J (Aw (q+1)) u)else some true)
def aP0 (j:Ai):Int->(A8 (Int×Int))->AL AZ:=aU (aJt j) Ap
def a0A (j:Ai):AL AZ:=(Yz j).bind fun q=>aP0 j 0 q
def alS (ak r) (h:a0A ak=some r):BA 217 [BL ak] [] (Ag r) []:=BG func217 rfl<|AY<|AP h fun x1 J h=>AU 1<|.Y (x:=.mp 0) (EX [] [BL ak] (pX ak x1 J) rfl)<|BR<|.Z (x:=.fn (.func 311) [] [.ptr 1 0]) (Qb (fi:=[]) (ca:=[.ptr 1 0]) rfl rfl rfl)<|Aa<|AU 1<|.Z (BQ BI ak Cm rfl)<|Aj<|Dk (fun Y I=>⟨BF 33 [(0,BL ak),(4,.fn (.func 311) [] [.ptr 0 0]),(10,AX (ak.length:Int)),(11,AX Y)],[.box [.mp 1],.map (List.map (DL Dj Ae) I)],0⟩) _ _ _ _ (Ac 33 3089 [AQ 1,AQ 0]) h<|fun J13 k4 L Y I h=>AY<|Aa<|CB h (fun h=>Aa<|Aj<|AY<|CJ h fun Z M x7 O h=>AU 3<|.p (BN BI M Cm D9 rfl)<|.a 2<|.f (x:=(Ag x7)) (ah [.ent 0,.ent 1] [] [.ptr 0 0] [Bq Z.bI] (aVq Z.bI I x7 O) rfl (hE:=(Qy AA<|Qy AA<|trivial)))<|.a 1<|AP h fun x8 U h=>.mg 22 9 (Ag x8) (.bi U (k2:=fun h=>CJ h fun j q u z h=>.a 3<|.p (BN BI q Cm D9 rfl)<|.a 2<|.Y (x:=(Ag u)) (ah [.ent 0,.ent 1] [] [.ptr 0 0] [Bq j.bQ] (aVq j.bQ I u z) rfl (hE:=(Qy AA<|Qy AA<|trivial)))<|D7))<|.aY<|BH h CO fun h=>Ar<|.a 2<|.nil<|L _ _ _ (Ac 33 3089 [AQ 0,AQ 1]) h) fun h=>F5
def aHj (j:AV) (I:Ai) (q:(A8 (Int×Int))) (J:(Int->Int->AL (AZ×(A8 (Int×Int))))):Int->Int->AL (AZ×(A8 (Int×Int))):=fun u z=>(bif z<(j.bI.length:Int) then(Ak j.bI z).bind fun L=>(Ak I ((DX q L).getD 0)).bind fun M=>J (Pv u M.Depth) (Aw (z+1))else(bif j.Depth>u then some ((Aw (j.Depth-u))==1)else some false).bind fun O=>some (O,q))
def aSV (q:AV) (u:Ai) (j:(A8 (Int×Int))):Int->Int->AL (AZ×(A8 (Int×Int))):=aU (aHj q u j) Ap
def aJ8 (j:AV) (u:Ai) (q:(A8 (Int×Int))) (k2:(Int->AL (AZ×(A8 (Int×Int))))):Int->AL (AZ×(A8 (Int×Int))):=fun z=>(bif z<(j.bQ.length:Int) then(Ak j.bQ z).bind fun I=>(Ak u ((DX q I).getD 0)).bind fun J=>(bif J.Depth>=j.Depth then some (false,q)else k2 (Aw (z+1)))else(bif ((j.bI.length:Int)==0)then some ((j.Depth==1),q)else(Ak j.bI 0).bind fun L=>(Ak u ((DX q L).getD 0)).bind fun M=>aSV j u q M.Depth 0))
def aVv (q:AV) (u:Ai) (j:(A8 (Int×Int))):Int->AL (AZ×(A8 (Int×Int))):=bJ (aJ8 q u j) Ap
def aAy (q:Ai) (j:(A8 (Int×Int))) (u:AV):AL (AZ×(A8 (Int×Int))):=aVv u q j 0
def acV (ak UA iL r) (h:aAy ak UA iL=some r):BA 218 [BL ak,.mp 0,DC iL] [.map (List.map (DL Dj Ae) UA)] (Ag r.1) [.map (List.map (DL Dj Ae) r.2)]:=BG func218 rfl<|AY<|Aa<|AU 2<|.Z (BQ Ae iL.bQ Bg rfl)<|Aj<|EH (fun v1=>⟨BF 75 [(0,BL ak),(1,.mp 0),(5,.ptr 1 0),(13,Bq iL.bQ),(14,AX (iL.bQ.length:Int)),(15,AX v1)],[.map (List.map (DL Dj Ae) UA),.box (BP (BI iL))],1⟩) _ _ _ (Ac 75 57379 [AQ 0,AQ 1]) h<|fun J19 k2 M v1 h=>AY<|Aa<|CB h (fun h=>Aa<|Aj<|AP h fun x4 O h=>BR<|.Z (BN Ae O Bg CY rfl)<|AP h fun x5 U h=>FU AA AA AA (.a 3<|.p (x:=(AX ((DX UA x4).getD 0))) (fO (k:=0) (key:=x4) (m:=UA) Ae 0 Ri JA zero3 AA AA AA rfl)<|.p (BN BI U Cm D9 rfl)<|.a 5<|.nil _)<|BH h iy fun h=>Ar<|.a 2<|.nil<|M _ _ (Ac 75 57379 [AQ 0,AQ 1]) h) fun h=>D8<|Aa<|AU 2<|.Z (BQ Ae iL.bI Bg rfl)<|BH h iy fun h=>CJ h fun x8 Y x9 Z h=>AU 4<|.p (BN Ae Y Bg CY rfl)<|.a 1<|.p (x:=(AX ((DX UA x8).getD 0))) (fO (k:=0) (key:=x8) (m:=UA) Ae 0 Ri JA zero3 AA AA AA rfl)<|.Z (BN BI Z Cm D9 rfl)<|Aa<|AU 2<|.Z (BQ Ae iL.bI Bg rfl)<|Aj<|Dk (fun j q=>⟨BF 75 [(0,BL ak),(1,.mp 0),(5,.ptr 1 0),(9,AX j),(48,Bq iL.bI),(49,AX (iL.bI.length:Int)),(50,AX q)],[.map (List.map (DL Dj Ae) UA),.box (BP (BI iL))],1⟩) _ _ _ _ (Ac 75 1970324836975139 [AQ 0,AQ 1]) h<|fun J18 k12 u j q h=>AY<|Aa<|CB h (fun h=>Aa<|Aj<|AP h fun z I h=>BR<|.Z (BN Ae I Bg CY rfl)<|AP h fun x15 J h=>Ar<|.a 4<|.p (x:=(AX ((DX UA z).getD 0))) (fO (k:=0) (key:=z) (m:=UA) Ae 0 Ri JA zero3 AA AA AA rfl)<|.p (BN BI J Cm D9 rfl)<|.a 2<|.p (x:=(AX (Pv j x15.Depth))) (aHb rfl)<|.a 1<|.nil<|Ar<|.a 2<|.nil<|u _ _ _ (Ac 75 1970324836975139 [AQ 0,AQ 1]) h) fun h=>D8<|AU 4<|AP h fun x16 L h=>.mg 68 6 (Ag x16) (.bi L)<|.aW<|Qi
def aLG (j:Ai) (z:(Int->(A8 (Int×Int))->AL Int)):Int->(A8 (Int×Int))->AL Int:=fun q I=>(bif q<(j.length:Int) then(Ak j q).bind fun J=>(aAy j I J).bind fun u=>(bif (!u.1)then some 15 else z (Aw (q+1)) u.2)else some 0)
def aVk (j:Ai):Int->(A8 (Int×Int))->AL Int:=aU (aLG j) Ap
def aAm (j:Ai):AL Int:=(a0A j).bind fun q=>(bif (!q)then some 14 else(Yz j).bind fun u=>aVk j 0 u)
def aZS (ak r) (h:aAm ak=some r):BA 127 [BL ak] [] (AX r) []:=BG func127 rfl<|AY<|Aa<|AP h fun U j h=>AU 1<|.X (alS ak U j)<|BH h CO fun h=>AP h fun Y q h=>AU 1<|.Y (x:=.mp 0) (EX [] [BL ak] (pX ak Y q) rfl)<|Aa<|AU 1<|.Z (BQ BI ak Cm rfl)<|Aj<|Dk (fun L u=>⟨BF 24 [(0,BL ak),(3,.mp 0),(11,AX (ak.length:Int)),(12,AX L)],[.map (List.map (DL Dj Ae) u)],0⟩) _ _ _ _ (Ac 24 6153 [AQ 0]) h<|fun Z k6 z L u h=>AY<|Aa<|CB h (fun h=>Aa<|Aj<|AY<|CJ h fun M I O J h=>AU 4<|.p (BN BI I Cm D9 rfl)<|.a 1<|.Y (x:=(Ag O.1)) (EX [.ent 0] [BL ak,.mp 0,DC M] (acV ak u M O J) rfl)<|BH h CO fun h=>Ar<|.a 2<|.nil<|z _ _ _ (Ac 24 6153 [AQ 0]) h) fun h=>F5
end
end Go.Proofs.YtkkdimcnpacjhaaGreat
