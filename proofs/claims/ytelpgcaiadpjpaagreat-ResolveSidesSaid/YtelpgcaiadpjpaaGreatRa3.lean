/- Part 3 of what the laws' proofs lean on: states of the walk, typed functions of the program and their laws (short forms written by wip/shrink.py; no condition). -/
import Derived.Test.YtelpgcaiadpjpaaGreatRa2
set_option linter.unusedVariables false
set_option linter.unusedSimpArgs false
section
namespace Go.Proofs.YtelpgcaiadpjpaaGreat
open Go.RowKit
theorem Mem.freeze {C : Cx} {ok : Nat → Prop} {H : List Hd} {es : List bW} {w : World} (hm : Mem C ok H es w) {k : Nat} {e : bW} {hd : Hd} (hk : es[k]? = some e) (hl : e.live = true) (hhd : H[k]? = some hd) : Mem C (fun b => ok b ∨ dU hd.v = some b) H (es.set k .dead) w := by
 have hkl : k < es.length := (List.getElem?_eq_some_iff.1 hk).1; have hblk := fun b hb => hm.blk k _ hd b hk hl hhd hb; have hg : Grow ok w (fun b => ok b ∨ dU hd.v = some b) w := fun b hb => ⟨.inl hb, rfl⟩
 refine ⟨hm.fr, fun b hb => .inl (hm.rJ b hb), ?_, ?_, hm.names, by simp [hm.hlen], ?_, ?_, ?_⟩
 · rintro b (hb | hb)
   · exact hm.rM b hb
   exact .inr (hblk b hb).2.2
 · rintro b (hb | hb)
   · exact hm.iU b hb
   exact (hblk b hb).2.1
 · intro j e' h' he hh'; rcases nK hkl he with ⟨rfl, rfl⟩ | ⟨_, he'⟩
   · trivial
   exact (hm.ent j e' h' he' hh').mono hg (.refl _) (fun _ _ _ => rfl)
 · intro j e' h' b he hl' hh' hb; rcases nK hkl he with ⟨rfl, rfl⟩ | ⟨hne, he'⟩
   · cases hl'
   have h3 := hm.blk j e' h' b he' hl' hh' hb; refine ⟨fun hb' => ?_, h3.2⟩; rcases hb' with hb' | hb'
   · exact h3.1 hb'
   exact hne (hm.zQ j k e' _ h' hd b he' hk hl' hl hh' hhd hb hb')
 intro i j e1 e2 h1 h2 b he1 he2 hl1 hl2 hh1 hh2 hb1 hb2; rcases nK hkl he1 with ⟨rfl, rfl⟩ | ⟨_, he1'⟩
 · cases hl1
 rcases nK hkl he2 with ⟨rfl, rfl⟩ | ⟨_, aeR⟩
 · cases hl2
 exact hm.zQ i j e1 e2 h1 h2 b he1' aeR hl1 hl2 hh1 hh2 hb1 hb2
section
variable {P : Program} {o : Oper} {es : List bW}
theorem aml {t kt vt : TypeId} {x : Operand} {k : Nat} {m : List (Value × D)} (ht : P.underlying t = some (.map kt vt)) (he : es[k]? = some (.map m)) (ho : o.op = .range t x) : bZ P o [(x, .mp k)] es (.ptr es.length 0) (es.set k .dead ++ [.iter m []]) :=
 .eff fun C ok H a w hm hn => by
  obtain ⟨hd, hh, hok⟩ := jT hm.ent hm.hlen he; obtain ⟨b, ms, clock, h1, h2, h3⟩ := hok; have hx := RF (hn (x, .mp k) (by simp)) hh; simp only at hx; have hb : b < w.heap.size := (Array.getElem?_eq_some_iff.1 h2).1; have m0 := hm.freeze he rfl hh; have g0 : Grow ok w (fun c => ok c ∨ dU hd.v = some c) w := fun c hc => ⟨.inl hc, rfl⟩
  have hbo : dU hd.v = some b := by rw [h1]; rfl
  have g1 : Grow (fun c => ok c ∨ dU hd.v = some c) w (fun c => ok c ∨ dU hd.v = some c) (w.alloc (.mapIter (some b) clock #[] clock)) := fun c hc => ⟨hc, Below.heap_alloc _ _ _ (m0.iU c hc)⟩
  have hb2 : iM (fun c => ok c ∨ dU hd.v = some c) (w.alloc (.mapIter (some b) clock #[] clock)) (H ++ [⟨.pointer (some ⟨w.heap.size, 0, none⟩), 0⟩]) ⟨.pointer (some ⟨w.heap.size, 0, none⟩), 0⟩ (.iter m []) :=
   ⟨w.heap.size, b, ms, clock, #[], rfl, World.alloc_heap_new _ _, .inr hbo, (Below.heap_alloc _ _ _ hb).trans h2, (h3.mono g0).mono g1, rfl, fun j i hj => by simp at hj⟩
  obtain ⟨m1, g2⟩ := m0.push (.mapIter (some b) clock #[] clock) ⟨.pointer (some ⟨w.heap.size, 0, none⟩), 0⟩ _ (XA w) hb2; refine ⟨.pointer (some ⟨w.heap.size, 0, none⟩), _, _, _, .inl ?_, g0.trans g2, Names.push _ _, m1, .ptr _ _ w.heap.size 0 (by rw [← hm.hlen]; simp)⟩; have hr := run_range_map (P := P) w t kt vt b ms clock ht h2; simp [execOp, ho, hx, h1, hr]
theorem born_inj {ok : Nat → Prop} {w : World} {es : List (Value × D)} {ms : Array MapEntry} {clock : Nat} (h : sU ok w es ms clock) {i j : Nat} {m n : MapEntry} (hi : ms[i]? = some m) (hj : ms[j]? = some n) (hb : m.born = n.born) : i = j := by
 rcases Nat.lt_trichotomy i j with h1 | h1 | h1
 · have := h.inc i j m n h1 hi hj; omega
 · exact h1
 have := h.inc j i n m h1 hj hi; omega
theorem ajy {ok : Nat → Prop} {w : World} {es : List (Value × D)} {ms : Array MapEntry} {clock : Nat} (h : sU ok w es ms clock) : (ms.toList.map (·.born)).Nodup := by
 unfold List.Nodup; rw [List.pairwise_iff_getElem]; intro i j hi hj hij; simp only [List.length_map, Array.length_toList] at hi hj; have e1 : ms[i]? = some ms[i] := by simp [hi]
 have e2 : ms[j]? = some ms[j] := by simp [hj]
 simp only [List.getElem_map, Array.getElem_toList]; intro e; have := born_inj h e1 e2 e; omega
theorem amm {K V : Type} {x : Operand} {n i : Nat} {ek : K → Value} {ev : V → D} {m : List (K × V)} {vis : List Nat} {p : K × V} (hp : m[i]? = some p) (he : es[n]? = some (.iter (m.map (eM ek ev)) (vis ++ [i]))) (ho : o.op = .entry x) :
 bZ P o [(x, .ptr n 0)] es (.fG [.d (.lit (ek p.1)), .d (ev p.2)]) es :=
 .pure fun ok H a w hent hl hn => by
  obtain ⟨hd, hh, hok⟩ := jT hent hl he; obtain ⟨bi, bm, ms, clock, seen, h1, h2, h3, h4, h5, h6, h7⟩ := hok; have hx := hn (x, .ptr n 0) (by simp); simp only at hx; generalize hv : a.eval x = v at hx; cases hx with
  | ptr _ _ b' s hH =>
    rw [hh] at hH; obtain rfl := Option.some.inj hH; simp only [Value.pointer.injEq, Option.some.injEq, Addr.mk.injEq] at h1; obtain ⟨rfl, _⟩ := h1; obtain ⟨e, q1, q2⟩ := h7 vis.length i (by simp); have hpe : (m.map (eM ek ev))[i]? = some (eM ek ev p) := by rw [List.getElem?_map, hp]; rfl
    obtain ⟨r1, r2, _⟩ := h5.ent i _ e hpe q1; refine ⟨.tuple #[e.key, e.val], ?_, .fG _ _ rfl fun j hj => ?_⟩
    · have hback : seen.back? = some e.born := by
       rw [Array.back?_eq_getElem?, h6]; simpa using q2
      have hmem : e ∈ ms.toList := by
       rw [Array.mem_toList_iff]; exact Array.mem_of_getElem? q1
      have hf : ms.find? (·.born == e.born) = some e := by rw [← Array.find?_toList]; exact find_born e ms.toList (ajy h5) hmem
      have g1 : (getObj b').run P w = .ok (.mapIter (some bm) clock seen clock) w := by simp [getObj, Sem.run, h2]
      have g2 : (getObj bm).run P w = .ok (.map ms clock) w := MapKept.run_getObj_map h4; simp [execOp, ho, hv, Instr.entry, g1, g2, hback, hf]
    match j, hj with
    | 0, _ => rw [show ([AV.d (.lit (ek p.1)), .d (ev p.2)] : List AV).getD 0 .junk = .d (.lit (ek p.1)) from rfl, show (#[e.key, e.val] : Array Value).getD 0 undef = e.key from rfl, r1]; exact .d _ _ (.lit _)
    | 1, _ => exact .d _ _ r2
end
theorem amn {P : Program} {w : World} {ok : Nat → Prop} {ty : TypeId} {bi bm clock : Nat} {seen : Array Nat} {ms : Array MapEntry} {es : List (Value × D)} (hi : w.heap[bi]? = some (.mapIter (some bm) clock seen clock)) (hb : w.heap[bm]? = some (.map ms clock)) (hM : sU ok w es ms clock) :
 ((leftOf ms seen).size = 0 ∧ (Instr.next (.pointer (some ⟨bi, 0, none⟩)) false ty).run P w = .ok (.tuple #[.bool false]) w) ∨
 ∃ e ∈ (leftOf ms seen).toList, ∃ w1 : World, (w1 = w ∨ w1 = w.drew) ∧ (Instr.next (.pointer (some ⟨bi, 0, none⟩)) false ty).run P w = .ok (.tuple #[.bool true, e.key, e.val]) (w1.putObj bi (.mapIter (some bm) clock (seen.push e.born) clock)) := by
 have hold : ∀ x ∈ ms.toList, x.born < clock := fun x hx => by
  obtain ⟨i, hi, rfl⟩ := List.getElem_of_mem hx; have hi' : i < ms.size := by simpa using hi
  have hie : i < es.length := by rw [← hM.len]; exact hi'
  have := (hM.ent i es[i] ms[i] (by simp [hie]) (by simp [hi'])).2.2; simpa using this
 simp only [Instr.next, getObj, Sem.run_bind, Sem.run, hi, hb, Result.andThen, next_test_false seen ms clock clock hold (Nat.le_refl _), Bool.false_eq_true, if_false]; unfold leftOf; have hmem : ∀ x ∈ (Array.filter (fun e => !seen.contains e.born) ms).toList, x.born < clock := fun x hx => hold x (by simp at hx ⊢; exact hx.1); generalize Array.filter (fun e => !seen.contains e.born) ms = L at hmem ⊢; have e1 : L.filter (fun x => decide (x.born < clock)) = L := Array.filter_eq_self.2 (fun x hx => by simpa using hmem x (by simpa using hx))
 have e2 : L.filter (fun x => decide (x.born ≥ clock)) = #[] := by
  rw [Array.filter_eq_empty_iff]; intro x hx; have := hmem x (by simpa using hx); simp; omega
 simp only [e1, e2, Array.append_empty]; by_cases h0 : L.size = 0
 · left; have : L = #[] := Array.eq_empty_of_size_eq_zero h0; subst this; refine ⟨rfl, ?_⟩; simp [choose, Sem.run, Question.forced]
 right; have hne : L.isEmpty = false := by simp [Array.isEmpty, h0]
 simp only [hne, Bool.false_eq_true, if_false, Array.empty_append, Array.size_map]
 have hch : ∃ (j : Nat) (w1 : World), j < L.size ∧ (w1 = w ∨ w1 = w.drew) ∧ (choose (Question.mapNext L.size)).run P w = .ok j w1 := by
  by_cases hf : L.size ≤ 1
  · exact ⟨0, w, by omega, .inl rfl, by simp [choose, Sem.run, Question.forced, hf]⟩
  exact ⟨_, w.drew, Nat.mod_lt _ (by omega), .inr rfl, by
   simp only [choose, Sem.run, Question.forced, decide_eq_true_eq, hf, if_false, Question.cut]
   rfl⟩
 obtain ⟨j, w1, hj, hal, hrun⟩ := hch; refine ⟨L[j], by simp, w1, hal, ?_⟩; have hi1 : w1.heap[bi]? = some (.mapIter (some bm) clock seen clock) := by rcases hal with rfl | rfl <;> exact hi
 have hset : ∀ (o' : Obj), (setObj bi o').run P w1 = .ok () (w1.putObj bi o') := fun o' => by simp [setObj, Sem.run, hi1, World.putObj]
 simp only [hrun, Array.getElem?_map, Array.getElem?_eq_getElem hj, Option.map_some, Sem.run_bind, hset, Result.andThen]; rfl
section
variable {P : Program} {ops : Array Oper} {o : Oper} {rest l : List Oper} {σ : St} {Q : Exit → St → Prop} {K V : Type}
theorem amo {ms : Array MapEntry} {seen : Array Nat} {e : MapEntry} (h : e ∈ (leftOf ms seen).toList) : e ∈ ms.toList ∧ e.born ∉ seen := by
 unfold leftOf at h; simp at h; exact ⟨by simpa using h.1, h.2⟩
theorem LP.next {ek : K → Value} {ev : V → D} {x : Operand} {ty : Bool} (n : Nat) (m : List (K × V)) (vis : List Nat) (hn : σ.ents[n]? = some (.iter (m.map (eM ek ev)) vis)) (ho : o.op = .next x false) (hx : σ.get x = .ptr n 0) (hg : o7 ops σ o.guard = some true)
 (h0 : (∀ i, i < m.length → i ∈ vis) → LP P ops rest (σ.qF o.dst (.fG [.d (eB false)])) Q)
 (h1 : ∀ i p, m[i]? = some p → i ∉ vis → LP P ops rest (σ.put o.dst (.fG [.d (eB true), .d (.lit (ek p.1)), .d (ev p.2)]) (σ.ents.set n (.iter (m.map (eM ek ev)) (vis ++ [i])))) Q) : LP P ops (o :: rest) σ Q := by
 refine ⟨fun ro l2 Q' C ok H a w hh hk => ?_⟩; show wpListIn (FW ro) 0 P ops Q' (o :: (rest ++ l2)) a w; unfold wpListIn; rw [if_pos (lF hh (jl hg))]; have hv := hx ▸ hh.get x; obtain ⟨hd, hhd, hent⟩ := jT hh.mem.ent hh.mem.hlen hn; obtain ⟨bi, bm, ms, clock, seen, q1, q2, q3, q4, q5, q6, q7⟩ := hent
 have hval : a.eval x = .pointer (some ⟨bi, 0, none⟩) := by
  generalize a.eval x = v at hv; cases hv with
  | ptr _ _ b' s hH =>
    rw [hhd] at hH; obtain rfl := Option.some.inj hH; simp only [Value.pointer.injEq, Option.some.injEq, Addr.mk.injEq] at q1; obtain ⟨rfl, _⟩ := q1; rfl
 have hlen : ms.size = m.length := by rw [q5.len, List.length_map]
 unfold Oper.wpIn; rw [Oper.semAt_eq _ _ _ (by rw [ho]; intro c h; cases h)]; rcases amn (P := P) (ty := o.type) q2 q4 q5 with ⟨hs, hr⟩ | ⟨e, aqC, w1, hw1, hr⟩
 · have he : (execOp a.eval o).run P w = .ok (.value (.tuple #[.bool false])) w := by simp [execOp, ho, hval, hr]
   rw [he]; refine ⟨fun _ _ => trivial, ?_⟩
   refine (h0 fun i hi => ?_).run ro l2 Q' C ok H _ w (hh.put o.dst (.refl _ _) (.refl _) hh.mem (.fG _ _ rfl fun j hj => by
    match j, hj with
    | 0, _ => exact .d _ _ (.lit _))) hk
   have hi' : i < ms.size := by omega
   have hnot : ms[i] ∉ (leftOf ms seen).toList := by
    have : leftOf ms seen = #[] := Array.eq_empty_of_size_eq_zero hs; rw [this]; simp
   have hin : ms[i].born ∈ seen := by
    apply Classical.byContradiction; intro hc; refine hnot ?_; unfold leftOf; simp [hc]
   obtain ⟨j, hj, hje⟩ := Array.getElem_of_mem hin; have hjv : j < vis.length := by omega
   obtain ⟨e, r1, r2⟩ := q7 j vis[j] (by simp [hjv])
   have hb : e.born = ms[i].born := by
    have e3 : seen[j]? = some seen[j] := by simp [hj]
    rw [e3, hje] at r2; exact (Option.some.inj r2).symm
   have := born_inj q5 r1 (show ms[i]? = some ms[i] by simp [hi']) hb; rw [← this]; simp
 have he : (execOp a.eval o).run P w = .ok (.value (.tuple #[.bool true, e.key, e.val])) (w1.putObj bi (.mapIter (some bm) clock (seen.push e.born) clock)) := by simp [execOp, ho, hval, hr]
 rw [he]; refine ⟨fun _ _ => trivial, ?_⟩; obtain ⟨arF, hes⟩ := amo aqC; obtain ⟨i, hi, hie⟩ := List.getElem_of_mem arF; have hi' : i < ms.size := by simpa using hi
 have hmi : ms[i]? = some e := by rw [← hie]; simp [hi']
 have him : i < m.length := by omega
 have hpe : (m.map (eM ek ev))[i]? = some (eM ek ev m[i]) := by simp [him]
 obtain ⟨r1, r2, _⟩ := q5.ent i _ e hpe hmi
 have arG : i ∉ vis := fun hc => by
  obtain ⟨j, hj, hje⟩ := List.getElem_of_mem hc; obtain ⟨e2, s1, s2⟩ := q7 j i (by simp [← hje, hj]); rw [hmi] at s1; obtain rfl := Option.some.inj s1; exact hes (Array.mem_of_getElem? s2)
 have hmd : Mem C ok H σ.ents w1 ∧ Grow ok w ok w1 := by
  rcases hw1 with rfl | rfl
  · exact ⟨hh.mem, .refl _ _⟩
  exact hh.mem.drew
 have hi1 : w1.heap[bi]? = some (.mapIter (some bm) clock seen clock) := by rcases hw1 with rfl | rfl <;> exact q2
 have amq : w1.heap[bm]? = some (.map ms clock) := (hmd.2 bm q3).2.trans q4; have hne : bm ≠ bi := fun e => by rw [e, hi1] at amq; cases amq
 obtain ⟨m2, g2⟩ := hmd.1.aat (o := .mapIter (some bm) clock (seen.push e.born) clock) (e' := .iter (m.map (eM ek ev)) (vis ++ [i])) hn rfl hhd (by rw [q1]; rfl)
  (fun g => ⟨bi, bm, ms, clock, seen.push e.born, q1, World.putObj_heap_same (Array.getElem?_eq_some_iff.1 hi1).1, q3, (World.putObj_heap_other hne).trans amq, (q5.mono hmd.2).mono g, by simp [q6], fun j i' hj => by
   by_cases hjl : j < vis.length
   · rw [List.getElem?_append_left hjl] at hj; obtain ⟨e2, s1, s2⟩ := q7 j i' hj; exact ⟨e2, s1, by rw [Array.getElem?_push_lt (by omega)]; simpa [Array.getElem?_eq_getElem (show j < seen.size by omega)] using s2⟩
   have hj2 : j = vis.length := by
    have := (List.getElem?_eq_some_iff.1 hj).1; simp at this; omega
   subst hj2; simp at hj; subst hj
   exact ⟨e, hmi, by rw [← q6]; simp⟩⟩)
 have g3 := hmd.2.trans g2
 have hp := (h1 i m[i] (by simp [him]) arG).run ro l2 Q' C ok H (a.put o.dst (.tuple #[.bool true, e.key, e.val])) _ (hh.put o.dst (x := .fG [.d (eB true), .d (.lit (ek m[i].1)), .d (ev m[i].2)]) g3 (.refl _) m2 (.fG _ _ rfl fun j hj => by
  match j, hj with
  | 0, _ => exact .d _ _ (.lit _)
  | 1, _ =>
    show R ok _ H (.d (.lit (ek m[i].1))) e.key; rw [r1]; exact .d _ _ (.lit _)
  | 2, _ => exact .d _ _ (r2.mono g3))) hk
 exact hp
theorem SP.an4 {A Rr : Type} {cd : Code} (S : List Nat → A → St) (m : List (K × V)) (step : A → K × V → Option A) (Kf : A → Option Rr) (r : Rr) (a0 : A) (hs : Sub σ (S [] a0))
 (hall : ∀ vis : List Nat, vis.Nodup → (∀ i, i ∈ vis ↔ i < m.length) → ((vis.filterMap fun (i : Nat) => m[i]?).foldlM step a0).bind Kf = some r)
 (round : ∀ (J : St → Prop) (vis : List Nat) (a : A), ((∀ i, i < m.length → i ∈ vis) → Kf a = some r) → (∀ i p, m[i]? = some p → i ∉ vis → ∃ a', step a p = some a' ∧ ∀ s, Sub s (S (vis ++ [i]) a') → J s) → SP P cd (S vis a) (Bg J Q)) : SP P (.loop cd) σ Q := by
 have hext : ∀ vis : List Nat, vis.Nodup → (∀ i ∈ vis, i < m.length) → ∃ rest, (vis ++ rest).Nodup ∧ (∀ i, i ∈ vis ++ rest ↔ i < m.length) := fun vis hnd hlt => by
  refine ⟨(List.range m.length).filter fun i => !vis.contains i, ?_, fun i => ?_⟩
  · refine List.nodup_append.2 ⟨hnd, List.Pairwise.filter _ List.nodup_range, fun a ha b hb e => ?_⟩; subst e; rw [List.mem_filter] at hb; simp [ha] at hb
  rw [List.mem_append, List.mem_filter]; constructor
  · rintro (h | h)
    · exact hlt i h
    simpa using h.1
  intro h; by_cases hc : i ∈ vis
  · exact .inl hc
  exact .inr ⟨by simpa using h, by simp [hc]⟩
 refine SP.loop (fun n s => ∃ vis a, n = m.length - vis.length ∧ vis.Nodup ∧ (∀ i ∈ vis, i < m.length) ∧ (vis.filterMap fun (i : Nat) => m[i]?).foldlM step a0 = some a ∧ Sub s (S vis a)) (m.length) ⟨[], a0, by simp, List.nodup_nil, fun i h => by simp at h, rfl, hs⟩ ?_; rintro n s ⟨vis, a, rfl, hnd, hlt, hf, hsub⟩; refine SP.sub hsub (round _ vis a (fun hc => ?_) (fun i p hp hi => ?_))
 · have := hall vis hnd (fun i => ⟨hlt i, hc i⟩); rw [hf] at this; exact this
 have him : i < m.length := (List.getElem?_eq_some_iff.1 hp).1; have amr : (vis ++ [i]).Nodup := List.nodup_append.2 ⟨hnd, by simp, fun a ha b hb e => by simp at hb; subst hb; subst e; exact hi ha⟩
 have hlt2 : ∀ j ∈ vis ++ [i], j < m.length := fun j hj => by
  rcases List.mem_append.1 hj with h | h
  · exact hlt j h
  simp at h; subst h; exact him
 obtain ⟨rest, h1, h2⟩ := hext (vis ++ [i]) amr hlt2; have h3 := hall _ h1 h2; rw [List.filterMap_append, List.filterMap_append] at h3; simp only [List.filterMap_cons, List.filterMap_nil, hp, List.foldlM_append, List.foldlM_cons, List.foldlM_nil, hf, bind, pure, Option.bind_some] at h3; cases hst : step a p with
 | none => rw [hst] at h3; simp at h3
 | some a' =>
   refine ⟨a', rfl, fun s hs => ⟨m.length - (vis ++ [i]).length, ?_, vis ++ [i], a', rfl, amr, hlt2, ?_, hs⟩⟩
   · have : vis.length < m.length := by
      have hsub : vis.length ≤ (List.range m.length).length := by
       refine List.Nodup.length_le_of_subset hnd ?_; intro j hj; simpa using hlt j hj
      have hsub2 : (vis ++ [i]).length ≤ (List.range m.length).length := by
       refine List.Nodup.length_le_of_subset amr ?_; intro j hj; simpa using hlt2 j hj
      simp at hsub2; omega
     simp; omega
   rw [List.filterMap_append, List.foldlM_append, hf]; simp [hp, hst]
end
theorem ams {α : Type} : ∀ (m : List α) (vis : List Nat), vis.Nodup → (∀ i, i ∈ vis ↔ i < m.length) → (vis.filterMap fun (i : Nat) => m[i]?).Perm m := fun m vis hnd hin => by
 have h1 : vis.Perm (List.range m.length) := by
  rw [List.perm_iff_count]; intro a; rw [hnd.count, List.nodup_range.count]; simp [hin a]
 have h2 : ((List.range m.length).filterMap fun (i : Nat) => m[i]?) = m := by
  apply List.ext_getElem?; intro i
  have : ∀ (n : Nat), n ≤ m.length → ((List.range n).filterMap fun (i : Nat) => m[i]?) = m.take n := by
   intro n
   induction n with
   | zero => intro _; simp
   | succ n ih =>
     intro hn; rw [List.range_succ, List.filterMap_append, ih (by omega)]; have hl : n < m.length := by omega
     simp [hl]
  rw [this m.length (Nat.le_refl _), List.take_length]
 have h3 := h1.filterMap (fun (i : Nat) => m[i]?)
 rwa [h2] at h3
theorem NW {α β : Type} {c : α → Bool} {f : α → β} {b : Nat} : ∀ (l : List α) (v : List β),
 l.foldlM (fun v p => bif c p then (eP b v [f p]).bind fun x => some x else some v) v = if (v.length + (l.filter c).length) * b ≤ 140737488355328 ∨ l.filter c = [] then some (v ++ (l.filter c).map f) else none
 | [], v => by simp
 | p :: l, v => by
   rw [List.foldlM_cons]; cases hc : c p with
   | false =>
     have ih := NW (c := c) (f := f) (b := b) l v; simp only [cond_false, bind, Option.bind_some, ih, List.filter_cons, hc, Bool.false_eq_true, if_false]
   | true =>
     simp only [cond_true, List.filter_cons, hc, if_true]; have hg : eP b v [f p] = if (v.length + [f p].length) * b ≤ 140737488355328 then some (v ++ [f p]) else none := rfl
     rw [hg]; by_cases hb : (v.length + [f p].length) * b ≤ 140737488355328
     · rw [if_pos hb]; have ih := NW (c := c) (f := f) (b := b) l (v ++ [f p]); simp only [Option.bind_some, bind, ih]; have e1 : (v ++ [f p]).length + (l.filter c).length = v.length + (p :: l.filter c).length := by simp; omega
       rw [e1]; by_cases hl : l.filter c = []
       · rw [hl] at e1 ⊢; simp only [List.length_cons, List.length_nil] at hb ⊢; simp [hb]
       simp [hl]
     rw [if_neg hb]; simp only [Option.bind_none, bind]; rw [if_neg]; rintro (h | h)
     · refine hb (Nat.le_trans (Nat.mul_le_mul_right _ ?_) h); simp
     cases h
theorem afk {α β Rr : Type} {c : α → Bool} {f : α → β} {b : Nat} {l1 l2 : List α} {v : List β} {Kf : List β → Option Rr} {r : Rr} (hp : l1.Perm l2) (hK : ∀ x y, x.Perm y → Kf x = Kf y)
 (h : (l2.foldlM (fun v p => bif c p then (eP b v [f p]).bind fun x => some x else some v) v).bind Kf = some r) :
 (l1.foldlM (fun v p => bif c p then (eP b v [f p]).bind fun x => some x else some v) v).bind Kf = some r := by
 rw [NW] at h ⊢; have hpf := hp.filter c
 have e : ((v.length + (l1.filter c).length) * b ≤ 140737488355328 ∨ l1.filter c = []) ↔ ((v.length + (l2.filter c).length) * b ≤ 140737488355328 ∨ l2.filter c = []) := by
  rw [hpf.length_eq]; constructor
  · rintro (h | h)
    · exact .inl h
    exact .inr (by rw [h] at hpf; exact hpf.symm.eq_nil)
  rintro (h | h)
  · exact .inl h
  exact .inr (by rw [h] at hpf; exact hpf.eq_nil)
 by_cases hc : ((v.length + (l2.filter c).length) * b ≤ 140737488355328 ∨ l2.filter c = [])
 · rw [if_pos hc] at h; rw [if_pos (e.2 hc)]; simp only [Option.bind_some] at h ⊢; rw [← h]; exact hK _ _ ((hpf.map f).append_left v)
 rw [if_neg hc] at h; cases h
end Go.Proofs.YtelpgcaiadpjpaaGreat
end
section
namespace Go.Proofs.YtelpgcaiadpjpaaGreat
open Go.RowKit
section
variable {P : Program} {σ : St} {Q : Exit → St → Prop} {c : Operand} {x y : Code}
theorem SP.cnd {A : Type} {b : Bool} {u v z : A} (h : (bif b then u else v) = z) (ht : u = z → SP P x σ Q) (hf : v = z → SP P y σ Q) (hc : σ.get c = .d (.lit (.bool b)) := by kernel_rfl) : SP P (.cond c x y) σ Q :=
 SP.cond b hc (fun e => ht (bI e h)) (fun e => hf (bC e h))
end
theorem dn {A : Type} {b : Bool} {u v z : A} (h : (bif b then u else v) = z) : (b = true ∧ u = z) ∨ (b = false ∧ v = z) := by
 cases b with
 | true => exact .inl ⟨rfl, h⟩
 | false => exact .inr ⟨rfl, h⟩
theorem aB {A : Type} {a b : A} (h : some a = some b) : a = b := Option.some.inj h
theorem aX {α β γ : Type} {x : Option α} {y : α → Option β} {f : α → β → Option γ} {z : γ} (h : (x.bind fun a => (y a).bind (f a)) = some z) : ∃ a, x = some a ∧ ∃ b, y a = some b ∧ f a b = some z := by
 obtain ⟨a, h1, h⟩ := aC h; obtain ⟨b, h2, h⟩ := aC h; exact ⟨a, h1, b, h2, h⟩
theorem jk {α β γ δ : Type} {x : Option α} {y : α → Option β} {w : α → β → Option δ} {f : α → β → δ → Option γ} {z : γ} (h : (x.bind fun a => (y a).bind fun b => (w a b).bind (f a b)) = some z) : ∃ a, x = some a ∧ ∃ b, y a = some b ∧ ∃ d, w a b = some d ∧ f a b d = some z := by
 obtain ⟨a, h1, b, h2, h⟩ := aX h; obtain ⟨d, h3, h⟩ := aC h; exact ⟨a, h1, b, h2, d, h3, h⟩
def afl : List ResultVar → Bool
 | [] => true
 | .tmp _ :: rs => afl rs
 | _ :: _ => false
def resT (σ : St) : List ResultVar → List AV
 | [] => []
 | .tmp t :: rs => σ.slots.getD t .junk :: resT σ rs
 | _ :: rs => .junk :: resT σ rs
theorem afm {P : Program} {σ : St} : ∀ {rs : List ResultVar}, afl rs = true → J4 P σ rs (resT σ rs)
 | [], _ => trivial
 | .tmp _ :: _, h => ⟨rfl, afm h⟩
theorem aP {P : Program} {σ : St} {rs : List ResultVar} {res : AV} {E' : List bW} (π : List (Nat × Bool)) (ha : afl rs = true := by kernel_rfl) (hn : Gl σ.base σ.ents π = true := by kernel_rfl) (hr : res = (pack (resT σ rs)).back π := by kernel_rfl) (he : E' = uy σ.ents π := by kernel_rfl) :
 ∃ xs π, J4 P σ rs xs ∧ Gl σ.base σ.ents π = true ∧ res = (pack xs).back π ∧ E' = uy σ.ents π := ⟨_, π, afm ha, hn, hr, he⟩
def NY : Nat → Nat → List (Nat × Nat × Nat)
 | 0, _ => []
 | n + 1, x => (x % 2048, x / 2048 % 64, x / 131072 % 2048) :: NY n (x / 268435456)
def mkN : List (Nat × Nat × Nat) → List (List Nat) → Nat → List (List Nat)
 | [], N, _ => N
 | t :: Tr, N, n => bif Nat.beq t.2.2 n then mkN Tr (N ++ [t.2.1 :: N.getD t.1 []]) (n + 1) else mkN Tr N n
def FC (n x : Nat) : List (List Nat) := mkN (NY n x) [[]] 1
section
variable {P : Program} [T : Kn P] {id : Nat} {ops : Array Oper} {σ : St} {Q : Exit → St → Prop} {y : Code}
theorem SP.akS (L : List (D7 P)) (n x kf : Nat) (hQ : Q .normal (sW T L ops σ ((FC n x).getD kf []))) (hm : P.follows .mixedOrders = true := by kernel_rfl) (hN : IY ops (FC n x) (NY n x) [kf] = true := by kernel_rfl)
 (hT : ((NY n x).map fun t => Gs T L ops (sW T L ops σ ((FC n x).getD t.1 [])) t.2.1) = (NY n x).map fun t => some (sW T L ops σ ((FC n x).getD t.2.2 []), Jm L t.2.1) := by kernel_rfl) (h0 : (FC n x).getD 0 [0] = [] := by kernel_rfl) : SP P (.region id ops true) σ Q :=
 SP.node1 L _ _ kf hQ hm hN h0 hT
theorem SP.afn (L : List (D7 P)) (n x kf : Nat) (hQ : SP P y (sW T L ops σ ((FC n x).getD kf [])) Q) (hm : P.follows .mixedOrders = true := by kernel_rfl) (hN : IY ops (FC n x) (NY n x) [kf] = true := by kernel_rfl)
 (hT : ((NY n x).map fun t => Gs T L ops (sW T L ops σ ((FC n x).getD t.1 [])) t.2.1) = (NY n x).map fun t => some (sW T L ops σ ((FC n x).getD t.2.2 []), Jm L t.2.1) := by kernel_rfl) (h0 : (FC n x).getD 0 [0] = [] := by kernel_rfl) : SP P (.seq (.region id ops true) y) σ Q :=
 SP.aqu L _ _ kf hQ hm hN h0 hT
theorem SP.ao3 (L : List (D7 P)) (n x : Nat) (F : List Nat) (fin : St) (hF : IX (fun k => Fin (sW T L ops σ ((FC n x).getD k [])) fin) F) (hQ : SP P y fin Q) (hm : P.follows .mixedOrders = true := by kernel_rfl) (hN : IY ops (FC n x) (NY n x) F = true := by kernel_rfl)
 (hT : ((NY n x).map fun t => Gs T L ops (sW T L ops σ ((FC n x).getD t.1 [])) t.2.1) = (NY n x).map fun t => some (sW T L ops σ ((FC n x).getD t.2.2 []), Jm L t.2.1) := by kernel_rfl) (h0 : (FC n x).getD 0 [0] = [] := by kernel_rfl) : SP P (.seq (.region id ops true) y) σ Q :=
 SP.aqv L _ _ F fin hF hQ hm hN h0 hT
end
end Go.Proofs.YtelpgcaiadpjpaaGreat
end
section
namespace Go.Proofs.YtelpgcaiadpjpaaGreat
open Go.RowKit
theorem sH {α β : Type} {y : α} {g : α → Option (Except Value β)} {r : Except Value β} (h : xG (.ok y) g = some r) : g y = some r := h
theorem pV {α β : Type} {u : Value} {g : α → Option (Except Value β)} {r : Except Value β} (h : xG (.error u) g = some r) : some (.error u) = some r := h
def s0 : ByteArray := ⟨#[]⟩
def NZ : ByteArray := ⟨#[64, 33]⟩
def XJ : ByteArray := ⟨#[58]⟩
def gX : ByteArray := ⟨#[64, 97, 110, 110, 58, 97]⟩
def jI : ByteArray := ⟨#[64, 98, 111, 98, 58, 98]⟩
def nX : ByteArray := ⟨#[33, 114, 58, 97]⟩
structure eG where
 User : ByteArray
 N : Int
def dK (x : eG) : D := .agg [eS x.User, eI x.N]
def akT : eG := ⟨s0, 0⟩
instance : Inhabited eG := ⟨akT⟩
structure fV where
 Kind : Int
 N : Int
def dw (x : fV) : D := .agg [eI x.Kind, eI x.N]
def adT : fV := ⟨0, 0⟩
instance : Inhabited fV := ⟨adT⟩
structure aN where
 Users : (List eG)
 Kinds : (List fV)
 User : Int
 Message : Int
 State : Int
 iJ : Int
 lD : Int
 oP : Int
 iV : Int
def bH (x : aN) : D := .agg [(eL dK) x.Users, (eL dw) x.Kinds, eI x.User, eI x.Message, eI x.State, eI x.iJ, eI x.lD, eI x.oP, eI x.iV]
def lI : aN := ⟨[], [], 0, 0, 0, 0, 0, 0, 0⟩
instance : Inhabited aN := ⟨lI⟩
structure vV where
 Text : ByteArray
 N : Int
 Target : Int
 Thread : Bool
 Via : ByteArray
 Allow : (List ByteArray)
 Gt : (List ByteArray)
 Levels : aN
def Ea (x : vV) : D := .agg [eS x.Text, eI x.N, eI x.Target, eB x.Thread, eS x.Via, (eL eS) x.Allow, (eL eS) x.Gt, (eL dK) x.Levels.Users, (eL dw) x.Levels.Kinds, eI x.Levels.User, eI x.Levels.Message, eI x.Levels.State, eI x.Levels.iJ, eI x.Levels.lD, eI x.Levels.oP, eI x.Levels.iV]
def qR : vV := ⟨s0, 0, 0, false, s0, [], [], lI⟩
instance : Inhabited vV := ⟨qR⟩
structure RH where
 Server : ByteArray
 Sum : Int
def ai0 (x : RH) : D := .agg [eS x.Server, eI x.Sum]
def ai1 : RH := ⟨s0, 0⟩
instance : Inhabited RH := ⟨ai1⟩
structure ah where
 Id : Int
 Room : ByteArray
 bf : ByteArray
 Kind : Int
 State : Bool
 Key : ByteArray
 Time : Int
 Depth : Int
 iF : (List Int)
 eF : (List Int)
 Content : vV
 Hash : Int
 Sig : RH
def ak (x : ah) : D := .agg [eI x.Id, eS x.Room, eS x.bf, eI x.Kind, eB x.State, eS x.Key, eI x.Time, eI x.Depth, (eL eI) x.iF, (eL eI) x.eF, eS x.Content.Text, eI x.Content.N, eI x.Content.Target, eB x.Content.Thread, eS x.Content.Via, (eL eS) x.Content.Allow, (eL eS) x.Content.Gt, (eL dK) x.Content.Levels.Users, (eL dw) x.Content.Levels.Kinds, eI x.Content.Levels.User, eI x.Content.Levels.Message, eI x.Content.Levels.State, eI x.Content.Levels.iJ, eI x.Content.Levels.lD, eI x.Content.Levels.oP, eI x.Content.Levels.iV, eI x.Hash, eS x.Sig.Server, eI x.Sig.Sum]
def dh : ah := ⟨0, s0, s0, 0, false, s0, 0, 0, [], [], qR, 0, ai1⟩
instance : Inhabited ah := ⟨dh⟩
structure ay where
 Kind : Int
 Key : ByteArray
 Id : Int
def aA (x : ay) : D := .agg [eI x.Kind, eS x.Key, eI x.Id]
def akU : ay := ⟨0, s0, 0⟩
instance : Inhabited ay := ⟨akU⟩
structure Ak where
 aay : Int
def afo : Ak := ⟨0⟩
instance : Inhabited Ak := ⟨afo⟩
structure kW where
def ny (x : kW) : D := .agg []
def aaz : kW := ⟨⟩
instance : Inhabited kW := ⟨aaz⟩
structure gY where
 xI : (List ay)
 Nz : (List Int)
 aaA : (List Int)
def ji (x : gY) : D := .agg [(eL aA) x.xI, (eL eI) x.Nz, (eL eI) x.aaA]
def lJ : gY := ⟨[], [], []⟩
instance : Inhabited gY := ⟨lJ⟩
structure dV where
 rQ : Int
 BA : Int
 vg : Int
 afp : (List Int)
def dY (x : dV) : D := .agg [eI x.rQ, eI x.BA, eI x.vg, (eL eI) x.afp]
def ajz : dV := ⟨0, 0, 0, []⟩
instance : Inhabited dV := ⟨ajz⟩
structure gQ where
 PY : Int
 PZ : ByteArray
def iR (x : gQ) : D := .agg [eI x.PY, eS x.PZ]
def ahv : gQ := ⟨0, s0⟩
instance : Inhabited gQ := ⟨ahv⟩
structure jr where
 aaB : (List Int)
def kG (x : jr) : D := .agg [(eL eI) x.aaB]
def VH : jr := ⟨[]⟩
instance : Inhabited jr := ⟨VH⟩
structure cO where
 rQ : Int
 su : Int
 vg : Int
def dJ (x : cO) : D := .agg [eI x.rQ, eI x.su, eI x.vg]
def adU : cO := ⟨0, 0, 0⟩
instance : Inhabited cO := ⟨adU⟩
structure fP where
 Same : (List ay)
 Power : (List Int)
 First : (List ay)
 Others : (List Int)
 Last : (List ay)
def jW (x : fP) : D := .agg [(eL aA) x.Same, (eL eI) x.Power, (eL aA) x.First, (eL eI) x.Others, (eL aA) x.Last]
def iW : fP := ⟨[], [], [], [], []⟩
instance : Inhabited fP := ⟨iW⟩
theorem amu : dN Tryz.prog 56 10 10 := dM (by kernel_rfl)
theorem arH : Ty Tryz.prog 52 true 16 := ng (by kernel_rfl)
theorem akV : (Tryz.prog.info? 52).bind (·.zero) = some (.agg #[.string s0, .int .i64 0, .int .i64 0, .bool false, .string s0, .slice none 0 0, .slice none 0 0, .slice none 0 0, .slice none 0 0, .int .i64 0, .int .i64 0, .int .i64 0, .int .i64 0, .int .i64 0, .int .i64 0, .int .i64 0]) := by kernel_rfl
theorem an5 : dN Tryz.prog 56 8 8 := dM (by kernel_rfl)
theorem amv : Ty Tryz.prog 32 false 1 := ng (by kernel_rfl)
theorem bG : Tryz.prog.underlying 32 = some (.slice 3) := by kernel_rfl
theorem an6 : dN Tryz.prog 56 9 9 := dM (by kernel_rfl)
theorem an7 : dN Tryz.prog 52 5 5 := dM (by kernel_rfl)
theorem arI : Ty Tryz.prog 46 false 1 := ng (by kernel_rfl)
theorem XK : Tryz.prog.underlying 46 = some (.slice 9) := by kernel_rfl
theorem an8 : dN Tryz.prog 52 6 6 := dM (by kernel_rfl)
theorem an9 : dN Tryz.prog 52 7 7 := dM (by kernel_rfl)
theorem aoa : dN Tryz.prog 50 0 0 := dM (by kernel_rfl)
theorem ao4 : Ty Tryz.prog 47 false 1 := ng (by kernel_rfl)
theorem zi : Tryz.prog.underlying 47 = some (.slice 80) := by kernel_rfl
theorem aob : dN Tryz.prog 50 1 1 := dM (by kernel_rfl)
theorem ao5 : Ty Tryz.prog 48 false 1 := ng (by kernel_rfl)
theorem zk : Tryz.prog.underlying 48 = some (.slice 174) := by kernel_rfl
theorem aoc : dN Tryz.prog 56 1 1 := dM (by kernel_rfl)
theorem ty9 : Ty Tryz.prog 9 false 1 := ng (by kernel_rfl)
theorem qZ : Tryz.prog.underlying 9 = some (.string) := by kernel_rfl
theorem aod : dN Tryz.prog 56 2 2 := dM (by kernel_rfl)
theorem aoe : dN Tryz.prog 56 5 5 := dM (by kernel_rfl)
theorem aof : dN Tryz.prog 52 0 0 := dM (by kernel_rfl)
theorem aog : dN Tryz.prog 52 4 4 := dM (by kernel_rfl)
theorem amw : dN Tryz.prog 56 12 27 := dM (by kernel_rfl)
theorem aoh : dN Tryz.prog 54 0 0 := dM (by kernel_rfl)
theorem VI : Ty Tryz.prog 80 true 2 := ng (by kernel_rfl)
theorem aoi : dN Tryz.prog 80 0 0 := dM (by kernel_rfl)
theorem fE : Tryz.prog.underlying 22 = some (.slice 56) := by kernel_rfl
theorem iK : Ty Tryz.prog 56 true 29 := ng (by kernel_rfl)
theorem aqD : aH Tryz.prog 28 = true := by kernel_rfl
theorem kV : Tryz.prog.underlying 23 = some (.slice 28) := by kernel_rfl
theorem DR : Ty Tryz.prog 28 false 1 := ng (by kernel_rfl)
theorem fF : Tryz.prog.underlying 28 = some (.slice 45) := by kernel_rfl
theorem iy : Ty Tryz.prog 45 true 3 := ng (by kernel_rfl)
theorem aoj : dN Tryz.prog 45 1 1 := dM (by kernel_rfl)
theorem aok : dN Tryz.prog 45 0 0 := dM (by kernel_rfl)
theorem ajA : Ty Tryz.prog 43 false 1 := ng (by kernel_rfl)
theorem anh : aH Tryz.prog 38 = true := by kernel_rfl
theorem aqE : aH Tryz.prog 24 = true := by kernel_rfl
theorem aol : dN Tryz.prog 45 2 2 := dM (by kernel_rfl)
theorem fJ : Ty Tryz.prog 3 false 1 := ng (by kernel_rfl)
theorem aqF : aH Tryz.prog 29 = true := by kernel_rfl
theorem aqG : aH Tryz.prog 30 = true := by kernel_rfl
theorem nC : Tryz.prog.underlying 27 = some (.slice 45) := by kernel_rfl
theorem uG : (Tryz.prog.info? 45).bind (·.zero) = some (.agg #[.int .i64 0, .string s0, .int .i64 0]) := by kernel_rfl
theorem arJ : mW Tryz.prog 45 [(0, 1), (1, 1), (2, 1)] (.agg #[.int .i64 0, .string s0, .int .i64 0]) := qg (by kernel_rfl) uG (by kernel_rfl)
theorem ani : aH Tryz.prog 94 = true := by kernel_rfl
theorem aqH : aH Tryz.prog 92 = true := by kernel_rfl
theorem aqI : aH Tryz.prog 93 = true := by kernel_rfl
theorem aqJ : aH Tryz.prog 95 = true := by kernel_rfl
theorem anj : aH Tryz.prog 67 = true := by kernel_rfl
theorem ajB : aH Tryz.prog 43 = true := by kernel_rfl
theorem eH : El Tryz.prog 32 3 1 8 := ET (by kernel_rfl)
theorem zero3 : (Tryz.prog.info? 3).bind (·.zero) = some (.int .i64 0) := by kernel_rfl
theorem aqK : aH Tryz.prog 81 = true := by kernel_rfl
theorem aez : aH Tryz.prog 60 = true := by kernel_rfl
theorem ajC : aH Tryz.prog 61 = true := by kernel_rfl
theorem VJ : (Tryz.prog.info? 28).bind (·.zero) = some (.slice none 0 0) := by kernel_rfl
theorem zero32 : (Tryz.prog.info? 32).bind (·.zero) = some (.slice none 0 0) := by kernel_rfl
theorem arK : Ty Tryz.prog 23 false 1 := ng (by kernel_rfl)
theorem aqL : aH Tryz.prog 56 = true := by kernel_rfl
theorem aqM : aH Tryz.prog 80 = true := by kernel_rfl
theorem aqN : aH Tryz.prog 57 = true := by kernel_rfl
theorem uH : El Tryz.prog 28 45 3 32 := ET (by kernel_rfl)
theorem XL : aH Tryz.prog 58 = true := by kernel_rfl
theorem Kt : Tryz.prog.underlying 110 = some (.map 3 3) := by kernel_rfl
theorem aom : dN Tryz.prog 56 0 0 := dM (by kernel_rfl)
theorem afq : Tryz.prog.underlying 3 = some (.int .i64) := by kernel_rfl
theorem Ue : KeyTy Tryz.prog 3 (Value.int .i64) := akM afq
theorem ank : aH Tryz.prog 86 = true := by kernel_rfl
theorem VK : Tryz.prog.underlying 144 = some (.map 3 4) := by kernel_rfl
theorem ajD : (Tryz.prog.info? 4).bind (·.zero) = some (.bool false) := by kernel_rfl
theorem aqO : aH Tryz.prog 87 = true := by kernel_rfl
theorem aqP : aH Tryz.prog 88 = true := by kernel_rfl
theorem ajE : aH Tryz.prog 64 = true := by kernel_rfl
theorem aqQ : aH Tryz.prog 82 = true := by kernel_rfl
theorem anl : aH Tryz.prog 39 = true := by kernel_rfl
theorem aqR : aH Tryz.prog 59 = true := by kernel_rfl
theorem afr : aH Tryz.prog 124 = true := by kernel_rfl
theorem ao6 : aH Tryz.prog 125 = true := by kernel_rfl
theorem BD : (Tryz.prog.info? 56).bind (·.zero) = some (.agg #[.int .i64 0, .string s0, .string s0, .int .i64 0, .bool false, .string s0, .int .i64 0, .int .i64 0, .slice none 0 0, .slice none 0 0, .string s0, .int .i64 0, .int .i64 0, .bool false, .string s0, .slice none 0 0, .slice none 0 0, .slice none 0 0, .slice none 0 0, .int .i64 0, .int .i64 0, .int .i64 0, .int .i64 0, .int .i64 0, .int .i64 0, .int .i64 0, .int .i64 0, .string s0, .int .i64 0]) := by kernel_rfl
theorem aqS : aH Tryz.prog 85 = true := by kernel_rfl
theorem arL : mW Tryz.prog 56 [(0, 1), (1, 1), (2, 1), (3, 1), (4, 1), (5, 1), (6, 1), (7, 1), (8, 1), (9, 1), (10, 16), (26, 1), (27, 2)] (.agg #[.int .i64 0, .string s0, .string s0, .int .i64 0, .bool false, .string s0, .int .i64 0, .int .i64 0, .slice none 0 0, .slice none 0 0, .string s0, .int .i64 0, .int .i64 0, .bool false, .string s0, .slice none 0 0, .slice none 0 0, .slice none 0 0, .slice none 0 0, .int .i64 0, .int .i64 0, .int .i64 0, .int .i64 0, .int .i64 0, .int .i64 0, .int .i64 0, .int .i64 0, .string s0, .int .i64 0]) := qg (by kernel_rfl) BD (by kernel_rfl)
theorem aon : dN Tryz.prog 56 3 3 := dM (by kernel_rfl)
theorem aoo : dN Tryz.prog 52 1 1 := dM (by kernel_rfl)
theorem akW : aH Tryz.prog 126 = true := by kernel_rfl
theorem ajF : aH Tryz.prog 89 = true := by kernel_rfl
theorem Jp : aH Tryz.prog 62 = true := by kernel_rfl
theorem aqT : aH Tryz.prog 63 = true := by kernel_rfl
theorem anm : aH Tryz.prog 65 = true := by kernel_rfl
theorem FD : El Tryz.prog 22 56 29 376 := ET (by kernel_rfl)
theorem Uf : aH Tryz.prog 46 = true := by kernel_rfl
theorem ao7 : aH Tryz.prog 186 = true := by kernel_rfl
theorem ao8 : aH Tryz.prog 172 = true := by kernel_rfl
theorem akX : aH Tryz.prog 173 = true := by kernel_rfl
theorem ao9 : aH Tryz.prog 174 = true := by kernel_rfl
theorem arM : Ty Tryz.prog 22 false 1 := ng (by kernel_rfl)
theorem akY : aH Tryz.prog 165 = true := by kernel_rfl
theorem apa : aH Tryz.prog 187 = true := by kernel_rfl
theorem apb : aH Tryz.prog 208 = true := by kernel_rfl
theorem apc : aH Tryz.prog 201 = true := by kernel_rfl
theorem apd : aH Tryz.prog 188 = true := by kernel_rfl
theorem aaC : aH Tryz.prog 205 = true := by kernel_rfl
theorem ape : aH Tryz.prog 203 = true := by kernel_rfl
theorem akZ : aH Tryz.prog 202 = true := by kernel_rfl
theorem apf : aH Tryz.prog 189 = true := by kernel_rfl
theorem apg : aH Tryz.prog 204 = true := by kernel_rfl
theorem aph : aH Tryz.prog 190 = true := by kernel_rfl
theorem apj : aH Tryz.prog 177 = true := by kernel_rfl
theorem ak0 : aH Tryz.prog 167 = true := by kernel_rfl
theorem ai2 : (Tryz.prog.info? 187).bind (·.zero) = some (.agg #[.int .i64 0]) := by kernel_rfl
theorem aqU : mW Tryz.prog 187 [(0, 1)] (.agg #[.int .i64 0]) := qg (by kernel_rfl) ai2 (by kernel_rfl)
theorem aop : (match Tryz.prog.underlying 187 with | some (.interface _) => false | some _ => true | none => false) = true := by kernel_rfl
theorem Eb : aH Tryz.prog 168 = true := by kernel_rfl
theorem mV : aH Tryz.prog 166 = true := by kernel_rfl
theorem apk : aH Tryz.prog 178 = true := by kernel_rfl
theorem VL : aH Tryz.prog 170 = true := by kernel_rfl
theorem ai3 : (Tryz.prog.info? 193).bind (·.zero) = some (.agg #[.int .i64 0, .int .i64 0, .int .i64 0, .int .i64 0, .int .i64 0]) := by kernel_rfl
theorem apl : PO Tryz.prog 193 1 (.agg #[.int .i64 0, .int .i64 0, .int .i64 0, .int .i64 0, .int .i64 0]) := Vx (by kernel_rfl) ai3 (by kernel_rfl)
theorem aqV : Ty Tryz.prog 193 true 5 := ng (by kernel_rfl)
theorem ak1 : Tryz.prog.underlying 193 = some (.array 5 3) := by kernel_rfl
theorem ak2 : aH Tryz.prog 180 = true := by kernel_rfl
theorem ajG : El Tryz.prog 46 9 1 16 := ET (by kernel_rfl)
theorem zero9 : (Tryz.prog.info? 9).bind (·.zero) = some (.string s0) := by kernel_rfl
theorem apm : aH Tryz.prog 191 = true := by kernel_rfl
theorem apn : aH Tryz.prog 192 = true := by kernel_rfl
theorem apo : aH Tryz.prog 193 = true := by kernel_rfl
theorem ak3 : aH Tryz.prog 181 = true := by kernel_rfl
theorem ak4 : (Tryz.prog.info? 50).bind (·.zero) = some (.agg #[.slice none 0 0, .slice none 0 0, .int .i64 0, .int .i64 0, .int .i64 0, .int .i64 0, .int .i64 0, .int .i64 0, .int .i64 0]) := by kernel_rfl
theorem apq : aH Tryz.prog 206 = true := by kernel_rfl
theorem ak5 : aH Tryz.prog 194 = true := by kernel_rfl
theorem Zo : Ty Tryz.prog 50 true 9 := ng (by kernel_rfl)
theorem abP : El Tryz.prog 47 80 2 24 := ET (by kernel_rfl)
theorem N7 : (Tryz.prog.info? 80).bind (·.zero) = some (.agg #[.string s0, .int .i64 0]) := by kernel_rfl
theorem apr : aH Tryz.prog 195 = true := by kernel_rfl
theorem aps : El Tryz.prog 48 174 2 16 := ET (by kernel_rfl)
theorem ai4 : (Tryz.prog.info? 174).bind (·.zero) = some (.agg #[.int .i64 0, .int .i64 0]) := by kernel_rfl
theorem apt : aH Tryz.prog 196 = true := by kernel_rfl
theorem arN : mW Tryz.prog 50 [(0, 1), (1, 1), (2, 1), (3, 1), (4, 1), (5, 1), (6, 1), (7, 1), (8, 1)] (.agg #[.slice none 0 0, .slice none 0 0, .int .i64 0, .int .i64 0, .int .i64 0, .int .i64 0, .int .i64 0, .int .i64 0, .int .i64 0]) := qg (by kernel_rfl) ak4 (by kernel_rfl)
theorem arO : mW Tryz.prog 80 [(0, 1), (1, 1)] (.agg #[.string s0, .int .i64 0]) := qg (by kernel_rfl) N7 (by kernel_rfl)
theorem apu : aH Tryz.prog 197 = true := by kernel_rfl
theorem afs : aH Tryz.prog 182 = true := by kernel_rfl
theorem aoq : dN Tryz.prog 80 1 1 := dM (by kernel_rfl)
theorem aor : dN Tryz.prog 50 2 2 := dM (by kernel_rfl)
theorem Ku : aH Tryz.prog 183 = true := by kernel_rfl
theorem aos : dN Tryz.prog 50 5 5 := dM (by kernel_rfl)
theorem aot : dN Tryz.prog 50 7 7 := dM (by kernel_rfl)
theorem aou : dN Tryz.prog 50 6 6 := dM (by kernel_rfl)
theorem apv : aH Tryz.prog 179 = true := by kernel_rfl
theorem ak6 : aH Tryz.prog 163 = true := by kernel_rfl
theorem ak7 : aH Tryz.prog 169 = true := by kernel_rfl
theorem Ug : Ty Tryz.prog 174 true 2 := ng (by kernel_rfl)
theorem amx : dN Tryz.prog 174 0 0 := dM (by kernel_rfl)
theorem amy : dN Tryz.prog 174 1 1 := dM (by kernel_rfl)
theorem aft : aH Tryz.prog 149 = true := by kernel_rfl
theorem aov : dN Tryz.prog 50 4 4 := dM (by kernel_rfl)
theorem aow : dN Tryz.prog 50 3 3 := dM (by kernel_rfl)
theorem afu : aH Tryz.prog 184 = true := by kernel_rfl
theorem ai5 : (Tryz.prog.info? 197).bind (·.zero) = some (.agg #[.int .i64 0, .int .i64 0, .int .i64 0, .int .i64 0, .int .i64 0, .int .i64 0, .int .i64 0]) := by kernel_rfl
theorem aox : dN Tryz.prog 50 8 8 := dM (by kernel_rfl)
theorem apw : PO Tryz.prog 197 1 (.agg #[.int .i64 0, .int .i64 0, .int .i64 0, .int .i64 0, .int .i64 0, .int .i64 0, .int .i64 0]) := Vx (by kernel_rfl) ai5 (by kernel_rfl)
theorem ano : Ty Tryz.prog 197 true 7 := ng (by kernel_rfl)
theorem ak8 : aH Tryz.prog 199 = true := by kernel_rfl
theorem ak9 : Tryz.prog.underlying 197 = some (.array 7 3) := by kernel_rfl
theorem afv : aH Tryz.prog 198 = true := by kernel_rfl
theorem ai6 : (Tryz.prog.info? 199).bind (·.zero) = some (.agg #[.slice none 0 0, .slice none 0 0]) := by kernel_rfl
theorem apx : PO Tryz.prog 199 1 (.agg #[.slice none 0 0, .slice none 0 0]) := Vx (by kernel_rfl) ai6 (by kernel_rfl)
theorem apy : Tryz.prog.underlying 199 = some (.array 2 48) := by kernel_rfl
theorem ai7 : (Tryz.prog.info? 200).bind (·.zero) = some (.agg #[.slice none 0 0, .slice none 0 0]) := by kernel_rfl
theorem apz : PO Tryz.prog 200 1 (.agg #[.slice none 0 0, .slice none 0 0]) := Vx (by kernel_rfl) ai7 (by kernel_rfl)
theorem apA : Tryz.prog.underlying 200 = some (.array 2 47) := by kernel_rfl
theorem apB : aH Tryz.prog 185 = true := by kernel_rfl
theorem ala : aH Tryz.prog 171 = true := by kernel_rfl
theorem apC : aH Tryz.prog 164 = true := by kernel_rfl
theorem apD : aH Tryz.prog 151 = true := by kernel_rfl
theorem apE : aH Tryz.prog 150 = true := by kernel_rfl
theorem ai8 : (Tryz.prog.info? 146).bind (·.zero) = some (.agg #[]) := by kernel_rfl
theorem aqW : mW Tryz.prog 146 [] (.agg #[]) := qg (by kernel_rfl) ai8 (by kernel_rfl)
theorem aoy : (match Tryz.prog.underlying 146 with | some (.interface _) => false | some _ => true | none => false) = true := by kernel_rfl
theorem aqX : aH Tryz.prog 90 = true := by kernel_rfl
theorem aqY : aH Tryz.prog 91 = true := by kernel_rfl
theorem anp : aH Tryz.prog 68 = true := by kernel_rfl
theorem anq : aH Tryz.prog 96 = true := by kernel_rfl
theorem anr : aH Tryz.prog 97 = true := by kernel_rfl
theorem alb : aH Tryz.prog 129 = true := by kernel_rfl
theorem apF : Tryz.prog.underlying 113 = some (.int .u64) := by kernel_rfl
theorem aqZ : aH Tryz.prog 98 = true := by kernel_rfl
theorem ant : aH Tryz.prog 99 = true := by kernel_rfl
theorem aq0 : aH Tryz.prog 69 = true := by kernel_rfl
theorem apG : (Tryz.prog.info? 70).bind (·.zero) = some (.agg #[.slice none 0 0, .slice none 0 0, .slice none 0 0]) := by kernel_rfl
theorem aq1 : aH Tryz.prog 40 = true := by kernel_rfl
theorem aq2 : aH Tryz.prog 41 = true := by kernel_rfl
theorem alc : (Tryz.prog.info? 85).bind (·.zero) = some (.agg #[]) := by kernel_rfl
theorem arP : mW Tryz.prog 85 [] (.agg #[]) := qg (by kernel_rfl) alc (by kernel_rfl)
theorem apH : (match Tryz.prog.underlying 85 with | some (.interface _) => false | some _ => true | none => false) = true := by kernel_rfl
theorem abQ : (Tryz.prog.info? 228).bind (·.zero) = some (.agg #[.int .i64 0, .string s0]) := by kernel_rfl
theorem aq3 : mW Tryz.prog 228 [(0, 1), (1, 1)] (.agg #[.int .i64 0, .string s0]) := qg (by kernel_rfl) abQ (by kernel_rfl)
theorem anu : El Tryz.prog 229 228 2 24 := ET (by kernel_rfl)
theorem apI : aH Tryz.prog 235 = true := by kernel_rfl
theorem ald : Tryz.prog.underlying 229 = some (.slice 228) := by kernel_rfl
theorem anv : Ty Tryz.prog 228 true 2 := ng (by kernel_rfl)
theorem amA : dN Tryz.prog 228 0 0 := dM (by kernel_rfl)
theorem amB : dN Tryz.prog 228 1 1 := dM (by kernel_rfl)
theorem apJ : aH Tryz.prog 234 = true := by kernel_rfl
theorem apK : aH Tryz.prog 233 = true := by kernel_rfl
theorem apL : aH Tryz.prog 232 = true := by kernel_rfl
theorem aoz : dN Tryz.prog 56 6 6 := dM (by kernel_rfl)
theorem abR : (Tryz.prog.info? 224).bind (·.zero) = some (.agg #[.int .i64 0, .int .i64 0, .int .i64 0, .slice none 0 0]) := by kernel_rfl
theorem aq4 : mW Tryz.prog 224 [(0, 1), (1, 1), (2, 1), (3, 1)] (.agg #[.int .i64 0, .int .i64 0, .int .i64 0, .slice none 0 0]) := qg (by kernel_rfl) abR (by kernel_rfl)
theorem ajH : El Tryz.prog 221 224 4 48 := ET (by kernel_rfl)
theorem apM : aH Tryz.prog 230 = true := by kernel_rfl
theorem Gu : Tryz.prog.underlying 221 = some (.slice 224) := by kernel_rfl
theorem Uh : Ty Tryz.prog 224 true 4 := ng (by kernel_rfl)
theorem amC : dN Tryz.prog 224 3 3 := dM (by kernel_rfl)
theorem amD : dN Tryz.prog 224 0 0 := dM (by kernel_rfl)
theorem amE : dN Tryz.prog 224 1 1 := dM (by kernel_rfl)
theorem amF : dN Tryz.prog 224 2 2 := dM (by kernel_rfl)
theorem apN : aH Tryz.prog 231 = true := by kernel_rfl
theorem apO : aH Tryz.prog 229 = true := by kernel_rfl
theorem apP : aH Tryz.prog 228 = true := by kernel_rfl
theorem ajI : aaw Tryz.prog 85 "fedchat/resolve.sort" 228 = true := by kernel_rfl
theorem anw : aH Tryz.prog 66 = true := by kernel_rfl
theorem anx : aH Tryz.prog 42 = true := by kernel_rfl
theorem aoA : dN Tryz.prog 70 1 1 := dM (by kernel_rfl)
theorem aq5 : aH Tryz.prog 44 = true := by kernel_rfl
theorem aq6 : aH Tryz.prog 45 = true := by kernel_rfl
theorem ale : (Tryz.prog.info? 88).bind (·.zero) = some (.agg #[.slice none 0 0]) := by kernel_rfl
theorem arQ : mW Tryz.prog 88 [(0, 1)] (.agg #[.slice none 0 0]) := qg (by kernel_rfl) ale (by kernel_rfl)
theorem apQ : (match Tryz.prog.underlying 88 with | some (.interface _) => false | some _ => true | none => false) = true := by kernel_rfl
theorem aoB : dN Tryz.prog 88 0 0 := dM (by kernel_rfl)
theorem apR : aH Tryz.prog 238 = true := by kernel_rfl
theorem abS : (Tryz.prog.info? 233).bind (·.zero) = some (.agg #[.int .i64 0, .int .i64 0, .int .i64 0]) := by kernel_rfl
theorem aq7 : mW Tryz.prog 233 [(0, 1), (1, 1), (2, 1)] (.agg #[.int .i64 0, .int .i64 0, .int .i64 0]) := qg (by kernel_rfl) abS (by kernel_rfl)
theorem anz : El Tryz.prog 231 233 3 24 := ET (by kernel_rfl)
theorem apS : aH Tryz.prog 239 = true := by kernel_rfl
theorem RI : Tryz.prog.underlying 231 = some (.slice 233) := by kernel_rfl
theorem XM : Ty Tryz.prog 233 true 3 := ng (by kernel_rfl)
def zU (x y : cO) : Bool := (x.rQ == y.rQ && (x.su == y.su && (x.vg == y.vg && true)))
theorem U9 (x y : cO) : aoW Tryz.prog 2 233 [.int .i64 x.rQ, .int .i64 x.su, .int .i64 x.vg] [.int .i64 y.rQ, .int .i64 y.su, .int .i64 y.vg] (zU x y) := ⟨fun d w => aoX (by kernel_rfl) (by kernel_rfl) (by kernel_rfl) (l := [(3, 0), (3, 1), (3, 2)]) (by kernel_rfl) (Zd (F5 fJ (by kernel_rfl) w) (F5 fJ (by kernel_rfl) w) (run_equalIn_int w _ _ .i64 _ _ _ afq) <| Zd (F5 fJ (by kernel_rfl) w) (F5 fJ (by kernel_rfl) w) (run_equalIn_int w _ _ .i64 _ _ _ afq) <| Zd (F5 fJ (by kernel_rfl) w) (F5 fJ (by kernel_rfl) w) (run_equalIn_int w _ _ .i64 _ _ _ afq) <| anX _ _ _ _)⟩
theorem apT : Program.eqGuardType Tryz.prog (Program.depth Tryz.prog) 233 = false := by kernel_rfl
theorem apU : aH Tryz.prog 242 = true := by kernel_rfl
theorem amG : dN Tryz.prog 233 0 0 := dM (by kernel_rfl)
theorem apV : aH Tryz.prog 237 = true := by kernel_rfl
theorem apW : aH Tryz.prog 236 = true := by kernel_rfl
theorem ajJ : aaw Tryz.prog 88 "fedchat/resolve.sort" 236 = true := by kernel_rfl
theorem aoC : dN Tryz.prog 70 0 0 := dM (by kernel_rfl)
theorem aoD : dN Tryz.prog 70 2 2 := dM (by kernel_rfl)
theorem apX : Ty Tryz.prog 70 true 3 := ng (by kernel_rfl)
theorem anA : aH Tryz.prog 31 = true := by kernel_rfl
theorem amH : XC Tryz.prog 70 0 0 false 1 = true := by kernel_rfl
theorem ajK : aH Tryz.prog 22 = true := by kernel_rfl
theorem P5 : aH Tryz.prog 25 = true := by kernel_rfl
theorem aq8 : aH Tryz.prog 33 = true := by kernel_rfl
theorem XO : aH Tryz.prog 34 = true := by kernel_rfl
theorem anB : aH Tryz.prog 37 = true := by kernel_rfl
theorem apY : aH Tryz.prog 130 = true := by kernel_rfl
theorem anC : aH Tryz.prog 54 = true := by kernel_rfl
theorem alf : aH Tryz.prog 100 = true := by kernel_rfl
theorem aeA : aH Tryz.prog 52 = true := by kernel_rfl
theorem EX : aH Tryz.prog 23 = true := by kernel_rfl
theorem alg : aH Tryz.prog 102 = true := by kernel_rfl
theorem aeB : aH Tryz.prog 35 = true := by kernel_rfl
theorem apZ : aH Tryz.prog 103 = true := by kernel_rfl
theorem ap0 : aH Tryz.prog 101 = true := by kernel_rfl
theorem ajL : aH Tryz.prog 72 = true := by kernel_rfl
theorem aq9 : aH Tryz.prog 55 = true := by kernel_rfl
theorem ap1 : El Tryz.prog 93 32 1 24 := ET (by kernel_rfl)
theorem ajM : Tryz.prog.underlying 93 = some (.slice 32) := by kernel_rfl
theorem anD : aH Tryz.prog 20 = true := by kernel_rfl
theorem ara : aH Tryz.prog 36 = true := by kernel_rfl
theorem anE : aH Tryz.prog 70 = true := by kernel_rfl
theorem arb : aH Tryz.prog 71 = true := by kernel_rfl
theorem afw : El Tryz.prog 27 45 3 32 := ET (by kernel_rfl)
theorem VN : aH Tryz.prog 142 = true := by kernel_rfl
theorem alh : aH Tryz.prog 110 = true := by kernel_rfl
theorem ali : aH Tryz.prog 111 = true := by kernel_rfl
theorem ap2 : aH Tryz.prog 152 = true := by kernel_rfl
theorem ap3 : aH Tryz.prog 132 = true := by kernel_rfl
theorem afx : aH Tryz.prog 131 = true := by kernel_rfl
theorem Kv : aH Tryz.prog 133 = true := by kernel_rfl
theorem alj : aH Tryz.prog 104 = true := by kernel_rfl
theorem ard : aH Tryz.prog 73 = true := by kernel_rfl
theorem arf : aH Tryz.prog 74 = true := by kernel_rfl
theorem ap4 : aH Tryz.prog 112 = true := by kernel_rfl
theorem aaD : aH Tryz.prog 175 = true := by kernel_rfl
theorem alk : aH Tryz.prog 135 = true := by kernel_rfl
theorem ap5 : aH Tryz.prog 153 = true := by kernel_rfl
theorem ap6 : aH Tryz.prog 154 = true := by kernel_rfl
theorem alm : aH Tryz.prog 134 = true := by kernel_rfl
theorem aln : aH Tryz.prog 105 = true := by kernel_rfl
theorem ap7 : aH Tryz.prog 155 = true := by kernel_rfl
theorem ap8 : aH Tryz.prog 156 = true := by kernel_rfl
theorem ap9 : aH Tryz.prog 157 = true := by kernel_rfl
theorem aqa : aH Tryz.prog 158 = true := by kernel_rfl
theorem afy : aH Tryz.prog 108 = true := by kernel_rfl
theorem aqb : aH Tryz.prog 136 = true := by kernel_rfl
theorem aqc : aH Tryz.prog 137 = true := by kernel_rfl
theorem aqd : aH Tryz.prog 138 = true := by kernel_rfl
theorem aqe : aH Tryz.prog 139 = true := by kernel_rfl
theorem ajN : aH Tryz.prog 75 = true := by kernel_rfl
theorem afz : aH Tryz.prog 160 = true := by kernel_rfl
theorem alo : aH Tryz.prog 159 = true := by kernel_rfl
theorem afA : aH Tryz.prog 140 = true := by kernel_rfl
theorem alp : aH Tryz.prog 161 = true := by kernel_rfl
theorem aqf : aH Tryz.prog 141 = true := by kernel_rfl
theorem alq : aH Tryz.prog 106 = true := by kernel_rfl
theorem aqg : aH Tryz.prog 107 = true := by kernel_rfl
theorem aqh : aH Tryz.prog 109 = true := by kernel_rfl
theorem arh : aH Tryz.prog 77 = true := by kernel_rfl
theorem ari : aH Tryz.prog 76 = true := by kernel_rfl
theorem anF : aH Tryz.prog 53 = true := by kernel_rfl
theorem arj : aH Tryz.prog 78 = true := by kernel_rfl
theorem anG : aH Tryz.prog 50 = true := by kernel_rfl
theorem aqi : aH Tryz.prog 143 = true := by kernel_rfl
theorem alr : aH Tryz.prog 113 = true := by kernel_rfl
theorem ark : aH Tryz.prog 79 = true := by kernel_rfl
theorem aqj : (Tryz.prog.info? 73).bind (·.zero) = some (.agg #[.slice none 0 0, .slice none 0 0, .slice none 0 0, .slice none 0 0, .slice none 0 0]) := by kernel_rfl
theorem aoE : dN Tryz.prog 73 0 0 := dM (by kernel_rfl)
theorem arl : aH Tryz.prog 21 = true := by kernel_rfl
theorem arn : aH Tryz.prog 47 = true := by kernel_rfl
theorem aro : aH Tryz.prog 48 = true := by kernel_rfl
theorem aoF : dN Tryz.prog 73 1 1 := dM (by kernel_rfl)
theorem anH : aH Tryz.prog 49 = true := by kernel_rfl
theorem aoG : dN Tryz.prog 73 2 2 := dM (by kernel_rfl)
theorem arp : aH Tryz.prog 51 = true := by kernel_rfl
theorem aoH : dN Tryz.prog 73 3 3 := dM (by kernel_rfl)
theorem aoI : dN Tryz.prog 73 4 4 := dM (by kernel_rfl)
theorem aqk : Ty Tryz.prog 73 true 5 := ng (by kernel_rfl)
theorem anI : aH Tryz.prog 32 = true := by kernel_rfl
theorem amI : XC Tryz.prog 73 4 4 false 1 = true := by kernel_rfl
theorem arR : mW Tryz.prog 52 [(0, 1), (1, 1), (2, 1), (3, 1), (4, 1), (5, 1), (6, 1), (7, 9)] (.agg #[.string s0, .int .i64 0, .int .i64 0, .bool false, .string s0, .slice none 0 0, .slice none 0 0, .slice none 0 0, .slice none 0 0, .int .i64 0, .int .i64 0, .int .i64 0, .int .i64 0, .int .i64 0, .int .i64 0, .int .i64 0]) := qg (by kernel_rfl) akV (by kernel_rfl)
theorem arq : Tryz.prog.underlying 62 = some (.array 9 3) := by kernel_rfl
theorem aoJ : dN Tryz.prog 56 4 4 := dM (by kernel_rfl)
theorem ty4 : Ty Tryz.prog 4 false 1 := ng (by kernel_rfl)
theorem amJ : El Tryz.prog 23 28 1 24 := ET (by kernel_rfl)
theorem aeC : aH Tryz.prog 13 = true := by kernel_rfl
theorem als : (Tryz.prog.info? 62).bind (·.zero) = some (.agg #[.int .i64 0, .int .i64 0, .int .i64 0, .int .i64 0, .int .i64 0, .int .i64 0, .int .i64 0, .int .i64 0, .int .i64 0]) := by kernel_rfl
theorem ars : PO Tryz.prog 62 1 (.agg #[.int .i64 0, .int .i64 0, .int .i64 0, .int .i64 0, .int .i64 0, .int .i64 0, .int .i64 0, .int .i64 0, .int .i64 0]) := Vx (by kernel_rfl) als (by kernel_rfl)
theorem aru : aH Tryz.prog 26 = true := by kernel_rfl
theorem ajO : aH Tryz.prog 27 = true := by kernel_rfl
theorem anJ : aH Tryz.prog 16 = true := by kernel_rfl
theorem anK : aH Tryz.prog 19 = true := by kernel_rfl
theorem aeD : aH Tryz.prog 12 = true := by kernel_rfl
theorem aeE : aH Tryz.prog 18 = true := by kernel_rfl
theorem anL : aH Tryz.prog 10 = true := by kernel_rfl
theorem anM : aH Tryz.prog 11 = true := by kernel_rfl
theorem arv : aH Tryz.prog 14 = true := by kernel_rfl
theorem anN : aH Tryz.prog 15 = true := by kernel_rfl
theorem arw : aH Tryz.prog 17 = true := by kernel_rfl
theorem arS : Ty Tryz.prog 62 true 9 := ng (by kernel_rfl)
instance kn : Kn Tryz.prog where
 und := [(9, .string), (3, .int .i64), (113, .int .u64)]
 Zi := ⟨qZ, afq, apF, trivial⟩
 ty := [(52, true, 16), (32, false, 1), (46, false, 1), (47, false, 1), (48, false, 1), (9, false, 1), (80, true, 2), (56, true, 29), (28, false, 1), (45, true, 3), (43, false, 1), (3, false, 1), (23, false, 1), (22, false, 1), (193, true, 5), (50, true, 9), (174, true, 2), (197, true, 7), (228, true, 2), (224, true, 4), (233, true, 3), (70, true, 3), (73, true, 5), (4, false, 1), (62, true, 9)]
 hty := ⟨arH, amv, arI, ao4, ao5, ty9, VI, iK, DR, iy, ajA, fJ, arK, arM, aqV, Zo, Ug, ano, anv, Uh, XM, apX, aqk, ty4, arS, trivial⟩
 fld := [((56, 10), 10), ((56, 8), 8), ((56, 9), 9), ((52, 5), 5), ((52, 6), 6), ((52, 7), 7), ((50, 0), 0), ((50, 1), 1), ((56, 1), 1), ((56, 2), 2), ((56, 5), 5), ((52, 0), 0), ((52, 4), 4), ((56, 12), 27), ((54, 0), 0), ((80, 0), 0), ((45, 1), 1), ((45, 0), 0), ((45, 2), 2), ((56, 0), 0), ((56, 3), 3), ((52, 1), 1), ((80, 1), 1), ((50, 2), 2), ((50, 5), 5), ((50, 7), 7), ((50, 6), 6), ((174, 0), 0), ((174, 1), 1), ((50, 4), 4), ((50, 3), 3), ((50, 8), 8), ((228, 0), 0), ((228, 1), 1), ((56, 6), 6), ((224, 3), 3), ((224, 0), 0), ((224, 1), 1), ((224, 2), 2), ((70, 1), 1), ((88, 0), 0), ((233, 0), 0), ((70, 0), 0), ((70, 2), 2), ((73, 0), 0), ((73, 1), 1), ((73, 2), 2), ((73, 3), 3), ((73, 4), 4), ((56, 4), 4)]
 hfld := ⟨amu, an5, an6, an7, an8, an9, aoa, aob, aoc, aod, aoe, aof, aog, amw, aoh, aoi, aoj, aok, aol, aom, aon, aoo, aoq, aor, aos, aot, aou, amx, amy, aov, aow, aox, amA, amB, aoz, amC, amD, amE, amF, aoA, aoB, amG, aoC, aoD, aoE, aoF, aoG, aoH, aoI, aoJ, trivial⟩
 part := [((70, 0), 0, false, 1), ((73, 4), 4, false, 1)]
 hpart := ⟨amH, amI, trivial⟩
 zero := [(52, .agg #[.string s0, .int .i64 0, .int .i64 0, .bool false, .string s0, .slice none 0 0, .slice none 0 0, .slice none 0 0, .slice none 0 0, .int .i64 0, .int .i64 0, .int .i64 0, .int .i64 0, .int .i64 0, .int .i64 0, .int .i64 0]), (45, .agg #[.int .i64 0, .string s0, .int .i64 0]), (3, .int .i64 0), (28, .slice none 0 0), (32, .slice none 0 0), (4, .bool false), (56, .agg #[.int .i64 0, .string s0, .string s0, .int .i64 0, .bool false, .string s0, .int .i64 0, .int .i64 0, .slice none 0 0, .slice none 0 0, .string s0, .int .i64 0, .int .i64 0, .bool false, .string s0, .slice none 0 0, .slice none 0 0, .slice none 0 0, .slice none 0 0, .int .i64 0, .int .i64 0, .int .i64 0, .int .i64 0, .int .i64 0, .int .i64 0, .int .i64 0, .int .i64 0, .string s0, .int .i64 0]), (187, .agg #[.int .i64 0]), (193, .agg #[.int .i64 0, .int .i64 0, .int .i64 0, .int .i64 0, .int .i64 0]), (9, .string s0), (50, .agg #[.slice none 0 0, .slice none 0 0, .int .i64 0, .int .i64 0, .int .i64 0, .int .i64 0, .int .i64 0, .int .i64 0, .int .i64 0]), (80, .agg #[.string s0, .int .i64 0]), (174, .agg #[.int .i64 0, .int .i64 0]), (197, .agg #[.int .i64 0, .int .i64 0, .int .i64 0, .int .i64 0, .int .i64 0, .int .i64 0, .int .i64 0]), (199, .agg #[.slice none 0 0, .slice none 0 0]), (200, .agg #[.slice none 0 0, .slice none 0 0]), (146, .agg #[]), (70, .agg #[.slice none 0 0, .slice none 0 0, .slice none 0 0]), (85, .agg #[]), (228, .agg #[.int .i64 0, .string s0]), (224, .agg #[.int .i64 0, .int .i64 0, .int .i64 0, .slice none 0 0]), (88, .agg #[.slice none 0 0]), (233, .agg #[.int .i64 0, .int .i64 0, .int .i64 0]), (73, .agg #[.slice none 0 0, .slice none 0 0, .slice none 0 0, .slice none 0 0, .slice none 0 0]), (62, .agg #[.int .i64 0, .int .i64 0, .int .i64 0, .int .i64 0, .int .i64 0, .int .i64 0, .int .i64 0, .int .i64 0, .int .i64 0])]
 hzero := ⟨⟨akV, by kernel_rfl⟩, ⟨uG, by kernel_rfl⟩, ⟨zero3, by kernel_rfl⟩, ⟨VJ, by kernel_rfl⟩, ⟨zero32, by kernel_rfl⟩, ⟨ajD, by kernel_rfl⟩, ⟨BD, by kernel_rfl⟩, ⟨ai2, by kernel_rfl⟩, ⟨ai3, by kernel_rfl⟩, ⟨zero9, by kernel_rfl⟩, ⟨ak4, by kernel_rfl⟩, ⟨N7, by kernel_rfl⟩, ⟨ai4, by kernel_rfl⟩, ⟨ai5, by kernel_rfl⟩, ⟨ai6, by kernel_rfl⟩, ⟨ai7, by kernel_rfl⟩, ⟨ai8, by kernel_rfl⟩, ⟨apG, by kernel_rfl⟩, ⟨alc, by kernel_rfl⟩, ⟨abQ, by kernel_rfl⟩, ⟨abR, by kernel_rfl⟩, ⟨ale, by kernel_rfl⟩, ⟨abS, by kernel_rfl⟩, ⟨aqj, by kernel_rfl⟩, ⟨als, by kernel_rfl⟩, trivial⟩
 st := [(45, [(0, 1), (1, 1), (2, 1)], .agg #[.int .i64 0, .string s0, .int .i64 0]), (56, [(0, 1), (1, 1), (2, 1), (3, 1), (4, 1), (5, 1), (6, 1), (7, 1), (8, 1), (9, 1), (10, 16), (26, 1), (27, 2)], .agg #[.int .i64 0, .string s0, .string s0, .int .i64 0, .bool false, .string s0, .int .i64 0, .int .i64 0, .slice none 0 0, .slice none 0 0, .string s0, .int .i64 0, .int .i64 0, .bool false, .string s0, .slice none 0 0, .slice none 0 0, .slice none 0 0, .slice none 0 0, .int .i64 0, .int .i64 0, .int .i64 0, .int .i64 0, .int .i64 0, .int .i64 0, .int .i64 0, .int .i64 0, .string s0, .int .i64 0]), (187, [(0, 1)], .agg #[.int .i64 0]), (50, [(0, 1), (1, 1), (2, 1), (3, 1), (4, 1), (5, 1), (6, 1), (7, 1), (8, 1)], .agg #[.slice none 0 0, .slice none 0 0, .int .i64 0, .int .i64 0, .int .i64 0, .int .i64 0, .int .i64 0, .int .i64 0, .int .i64 0]), (80, [(0, 1), (1, 1)], .agg #[.string s0, .int .i64 0]), (146, [], .agg #[]), (85, [], .agg #[]), (228, [(0, 1), (1, 1)], .agg #[.int .i64 0, .string s0]), (224, [(0, 1), (1, 1), (2, 1), (3, 1)], .agg #[.int .i64 0, .int .i64 0, .int .i64 0, .slice none 0 0]), (88, [(0, 1)], .agg #[.slice none 0 0]), (233, [(0, 1), (1, 1), (2, 1)], .agg #[.int .i64 0, .int .i64 0, .int .i64 0]), (52, [(0, 1), (1, 1), (2, 1), (3, 1), (4, 1), (5, 1), (6, 1), (7, 9)], .agg #[.string s0, .int .i64 0, .int .i64 0, .bool false, .string s0, .slice none 0 0, .slice none 0 0, .slice none 0 0, .slice none 0 0, .int .i64 0, .int .i64 0, .int .i64 0, .int .i64 0, .int .i64 0, .int .i64 0, .int .i64 0])]
 hst := ⟨arJ, arL, aqU, arN, arO, aqW, arP, aq3, aq4, arQ, aq7, arR, trivial⟩
 arr := [(193, 1, .agg #[.int .i64 0, .int .i64 0, .int .i64 0, .int .i64 0, .int .i64 0]), (197, 1, .agg #[.int .i64 0, .int .i64 0, .int .i64 0, .int .i64 0, .int .i64 0, .int .i64 0, .int .i64 0]), (199, 1, .agg #[.slice none 0 0, .slice none 0 0]), (200, 1, .agg #[.slice none 0 0, .slice none 0 0]), (62, 1, .agg #[.int .i64 0, .int .i64 0, .int .i64 0, .int .i64 0, .int .i64 0, .int .i64 0, .int .i64 0, .int .i64 0, .int .i64 0])]
 harr := ⟨apl, apw, apx, apz, ars, trivial⟩
end Go.Proofs.YtelpgcaiadpjpaaGreat
end
section
namespace Go.Proofs.YtelpgcaiadpjpaaGreat
open Go.RowKit
set_option maxRecDepth 20000
set_option maxHeartbeats 4000000
def ahw (aI : ah) (v23 : Int) : St := ⟨bY 125 [(3, .ptr 0 0), (4, .d (eI v23))], [.box (dc (Ea aI.Content))], 0⟩
def ahx (aI : ah) (v28 : Int) : St := ⟨bY 125 [(3, .ptr 0 0), (5, .d (eI v28))], [.box (dc (Ea aI.Content))], 0⟩
def ahy (aI : ah) (v33 : Int) : St := ⟨bY 125 [(3, .ptr 0 0), (6, .d (eI v33))], [.box (dc (Ea aI.Content))], 0⟩
def Jq (aI : ah) (k34 : (Int → Option Bool)) : Int → Option Bool := fun v33 => (bif decide (v33 < (aI.Content.Levels.Users.length : Int)) then (aY aI.Content.Levels.Users v33).bind fun RJ => (bif decide ((RJ.User.size : Int) > 2000) then some true else k34 (IntKind.i64.wrap (v33 + 1))) else some false)
def QI (aI : ah) : Int → Option Bool := bM (Jq aI) fuel
def Jr (aI : ah) (k29 : (Int → Option Bool)) : Int → Option Bool := fun v28 => (bif decide (v28 < (aI.Content.Gt.length : Int)) then (aY aI.Content.Gt v28).bind fun x31 => (bif decide ((x31.size : Int) > 2000) then some true else k29 (IntKind.i64.wrap (v28 + 1))) else QI aI 0)
def QJ (aI : ah) : Int → Option Bool := bM (Jr aI) fuel
def Js (aI : ah) (k24 : (Int → Option Bool)) : Int → Option Bool := fun v23 => (bif decide (v23 < (aI.Content.Allow.length : Int)) then (aY aI.Content.Allow v23).bind fun o8 => (bif decide ((o8.size : Int) > 2000) then some true else k24 (IntKind.i64.wrap (v23 + 1))) else QJ aI 0)
def YD (aI : ah) : Int → Option Bool := bM (Js aI) fuel
def N8 (aI : ah) : Option Bool := (bif decide ((aI.iF.length : Int) > 40) then some true else some (decide ((aI.eF.length : Int) > 40))).bind fun x1 => (bif x1 then some true else some (decide ((aI.Content.Allow.length : Int) > 40))).bind fun x3 => (bif x3 then some true else some (decide ((aI.Content.Gt.length : Int) > 40))).bind fun x5 => (bif x5 then some true else some (decide ((aI.Content.Levels.Users.length : Int) > 40))).bind fun x7 => (bif x7 then some true else some (decide ((aI.Content.Levels.Kinds.length : Int) > 40))).bind fun x9 => (bif x9 then some true else (bif decide ((aI.Room.size : Int) > 2000) then some true else some (decide ((aI.bf.size : Int) > 2000))).bind fun x12 => (bif x12 then some true else some (decide ((aI.Key.size : Int) > 2000))).bind fun x14 => (bif x14 then some true else some (decide ((aI.Content.Text.size : Int) > 2000))).bind fun x16 => (bif x16 then some true else some (decide ((aI.Content.Via.size : Int) > 2000))).bind fun x18 => (bif x18 then some true else some (decide ((aI.Sig.Server.size : Int) > 2000))).bind fun x20 => (bif x20 then some true else YD aI 0))
theorem ahz (aI r) (h : N8 aI = some r) : Runs Tryz.prog 28 [.d (ak aI)] [] (.d (eB r)) [] := by
 refine Runs.aT Tryz.func28 rfl ?_; unfold N8 at h; refine SP.rg <| .a 2 <| .aj <| SP.rg <| .a 4 <| .aj <| SP.aG <| SP.rg <| .a 2 <| .p (aV eI aI.iF bG rfl) <| .a 1 <| ?_; obtain ⟨x1, hx1, h⟩ := aC h; refine .merge 6 [13, 14, 15, 16, 17] 18 (.d (eB x1)) ?_ ?_
 · rcases dn hx1 with ⟨hb2, h⟩ | ⟨hb2, h⟩
   · refine .c (congrArg some hb2) <| .a 5 <| .aj ?_; obtain rfl := aB h; kernel_rfl
   refine .c (congrArg some hb2) <| .a 2 <| .p (aV eI aI.eF bG rfl) <| .a 2 <| .aj ?_; obtain rfl := aB h; kernel_rfl
 refine .a 1 <| ?_; obtain ⟨x3, hx3, h⟩ := aC h; refine .merge 5 [20, 21, 22, 23] 24 (.d (eB x3)) ?_ ?_
 · replace h := hx3; cases x1 with
   | true =>
     replace h := bI rfl h; refine .a 5 <| .aj ?_; obtain rfl := aB h; kernel_rfl
   | false =>
     replace h := bC rfl h; refine .a 2 <| .p (aV eS aI.Content.Allow XK rfl) <| .a 2 <| .aj ?_; obtain rfl := aB h; kernel_rfl
 refine .a 1 <| ?_; obtain ⟨x5, hx5, h⟩ := aC h; refine .merge 5 [26, 27, 28, 29] 30 (.d (eB x5)) ?_ ?_
 · replace h := hx5; cases x3 with
   | true =>
     replace h := bI rfl h; refine .a 5 <| .aj ?_; obtain rfl := aB h; kernel_rfl
   | false =>
     replace h := bC rfl h; refine .a 2 <| .p (aV eS aI.Content.Gt XK rfl) <| .a 2 <| .aj ?_; obtain rfl := aB h; kernel_rfl
 refine .a 1 <| ?_; obtain ⟨x7, hx7, h⟩ := aC h; refine .merge 6 [32, 33, 34, 35, 36] 37 (.d (eB x7)) ?_ ?_
 · replace h := hx7; cases x5 with
   | true =>
     replace h := bI rfl h; refine .a 6 <| .aj ?_; obtain rfl := aB h; kernel_rfl
   | false =>
     replace h := bC rfl h; refine .a 3 <| .p (aV dK aI.Content.Levels.Users zi rfl) <| .a 2 <| .aj ?_; obtain rfl := aB h; kernel_rfl
 refine .a 1 <| ?_; obtain ⟨x9, fK, h⟩ := aC h; refine .merge 6 [39, 40, 41, 42, 43] 44 (.d (eB x9)) ?_ ?_
 · replace h := fK; cases x7 with
   | true =>
     replace h := bI rfl h; refine .a 6 <| .aj ?_; obtain rfl := aB h; kernel_rfl
   | false =>
     replace h := bC rfl h; refine .a 3 <| .p (aV dw aI.Content.Levels.Kinds zk rfl) <| .a 2 <| .aj ?_; obtain rfl := aB h; kernel_rfl
 refine .aj <| SP.cnd h (fun h => ?_) fun h => ?_
 · refine SP.rg <| .a 1 <| .aj ?_; rw [← aB h]; exact .ret (aP [])
 refine SP.skip <| SP.aG <| SP.rg <| .a 4 <| ?_; obtain ⟨x12, iH, h⟩ := aC h; refine .merge 6 [49, 50, 51, 52, 53] 54 (.d (eB x12)) ?_ ?_
 · rcases dn iH with ⟨uI, h⟩ | ⟨uI, h⟩
   · refine .c (congrArg some uI) <| .a 5 <| .aj ?_; obtain rfl := aB h; kernel_rfl
   refine .c (congrArg some uI) <| .a 5 <| .aj ?_; obtain rfl := aB h; kernel_rfl
 refine .a 1 <| ?_; obtain ⟨x14, kL, h⟩ := aC h; refine .merge 5 [56, 57, 58, 59] 60 (.d (eB x14)) ?_ ?_
 · replace h := kL; cases x12 with
   | true =>
     replace h := bI rfl h; refine .a 5 <| .aj ?_; obtain rfl := aB h; kernel_rfl
   | false =>
     replace h := bC rfl h; refine .a 5 <| .aj ?_; obtain rfl := aB h; kernel_rfl
 refine .a 1 <| ?_; obtain ⟨x16, hx16, h⟩ := aC h; refine .merge 5 [62, 63, 64, 65] 66 (.d (eB x16)) ?_ ?_
 · replace h := hx16; cases x14 with
   | true =>
     replace h := bI rfl h; refine .a 5 <| .aj ?_; obtain rfl := aB h; kernel_rfl
   | false =>
     replace h := bC rfl h; refine .a 5 <| .aj ?_; obtain rfl := aB h; kernel_rfl
 refine .a 1 <| ?_; obtain ⟨x18, kQ, h⟩ := aC h; refine .merge 5 [68, 69, 70, 71] 72 (.d (eB x18)) ?_ ?_
 · replace h := kQ; cases x16 with
   | true =>
     replace h := bI rfl h; refine .a 5 <| .aj ?_; obtain rfl := aB h; kernel_rfl
   | false =>
     replace h := bC rfl h; refine .a 5 <| .aj ?_; obtain rfl := aB h; kernel_rfl
 refine .a 1 <| ?_; obtain ⟨x20, qH, h⟩ := aC h; refine .merge 6 [74, 75, 76, 77, 78] 79 (.d (eB x20)) ?_ ?_
 · replace h := qH; cases x18 with
   | true =>
     replace h := bI rfl h; refine .a 6 <| .aj ?_; obtain rfl := aB h; kernel_rfl
   | false =>
     replace h := bC rfl h; refine .a 6 <| .aj ?_; obtain rfl := aB h; kernel_rfl
 refine .aj <| SP.cnd h (fun h => ?_) fun h => ?_
 · refine SP.rg <| .a 1 <| .aj ?_; rw [← aB h]; exact .ret (aP [])
 refine SP.skip <| SP.aG <| SP.rg <| .a 1 <| .aj <| SP.block ?_; refine SP.bM (ahw aI) _ _ _ (aF (mk 125 24) [(1, true)]) h ?_; clear h; intro J40 k24 amK v23 h; unfold Js at h; refine SP.aG <| SP.rg <| .a 3 <| .p (aV eS aI.Content.Allow XK rfl) <| .a 1 <| .aj <| SP.cnd h (fun h => ?_) fun h => ?_
 · refine SP.skip <| SP.aG <| SP.block ?_; obtain ⟨o8, AL, h⟩ := aC h; refine SP.rg <| .a 3 <| .p (aK (k := .i64) eS AL XK ty9 (by kernel_rfl) rfl) <| .a 3 <| .aj <| SP.cnd h (fun h => ?_) fun h => ?_
   · refine SP.rg <| .a 1 <| .aj ?_; rw [← aB h]; exact .ret (aP [])
   refine SP.skip <| SP.bQ <| .a 3 <| .nil ?_; exact amK _ _ (aF (mk 125 24) [(0, true)]) h
 refine SP.exit <| SP.aG <| SP.rg <| .a 1 <| .aj <| SP.block ?_; refine SP.bM (ahx aI) _ _ _ (aF (mk 125 40) [(0, true)]) h ?_; clear h; intro J39 k29 amL v28 h; unfold Jr at h; refine SP.aG <| SP.rg <| .a 3 <| .p (aV eS aI.Content.Gt XK rfl) <| .a 1 <| .aj <| SP.cnd h (fun h => ?_) fun h => ?_
 · refine SP.skip <| SP.aG <| SP.block ?_; obtain ⟨x31, hx31, h⟩ := aC h; refine SP.rg <| .a 3 <| .p (aK (k := .i64) eS hx31 XK ty9 (by kernel_rfl) rfl) <| .a 3 <| .aj <| SP.cnd h (fun h => ?_) fun h => ?_
   · refine SP.rg <| .a 1 <| .aj ?_; rw [← aB h]; exact .ret (aP [])
   refine SP.skip <| SP.bQ <| .a 3 <| .nil ?_; exact amL _ _ (aF (mk 125 40) [(0, true)]) h
 refine SP.exit <| SP.aG <| SP.rg <| .a 1 <| .aj <| SP.block ?_; refine SP.bM (ahy aI) _ _ _ (aF (mk 125 72) [(0, true)]) h ?_; clear h; intro J38 k34 amM v33 h; unfold Jq at h; refine SP.aG <| SP.rg <| .a 4 <| .p (aV dK aI.Content.Levels.Users zi rfl) <| .a 1 <| .aj <| SP.cnd h (fun h => ?_) fun h => ?_
 · refine SP.skip <| SP.aG <| SP.block ?_; obtain ⟨RJ, afB, h⟩ := aC h; refine SP.rg <| .a 4 <| .p (aK (k := .i64) dK afB zi VI (by kernel_rfl) rfl) <| .a 4 <| .aj <| SP.cnd h (fun h => ?_) fun h => ?_
   · refine SP.rg <| .a 1 <| .aj ?_; rw [← aB h]; exact .ret (aP [])
   refine SP.skip <| SP.bQ <| .a 3 <| .nil ?_; exact amM _ _ (aF (mk 125 72) [(0, true)]) h
 refine SP.exit <| SP.rg <| .a 1 <| .aj ?_; rw [← aB h]; exact .ret (aP [])
def afC (au : (List ah)) (v2 : Int) : St := ⟨bY 21 [(0, .d ((eL ak) au)), (5, .d (eI v2))], [], 0⟩
def Gv (au : (List ah)) (k3 : (Int → Option Bool)) : Int → Option Bool := fun v2 => (bif decide (v2 < (au.length : Int)) then (aY au v2).bind fun x5 => (N8 x5).bind fun x6 => (bif x6 then some true else k3 (IntKind.i64.wrap (v2 + 1))) else some false)
def VO (au : (List ah)) : Int → Option Bool := bM (Gv au) fuel
def BF (au : (List ah)) (eY : Int) : Option Bool := (bif decide ((au.length : Int) > eY) then some true else VO au 0)
theorem VP (au eY r) (h : BF au eY = some r) : Runs Tryz.prog 10 [.d ((eL ak) au), .d (eI eY)] [] (.d (eB r)) [] := by
 refine Runs.aT Tryz.func10 rfl ?_; unfold BF at h; refine SP.rg <| .a 1 <| .aj <| SP.aG <| SP.rg <| .a 1 <| .p (aV ak au fE rfl) <| .a 2 <| .aj <| SP.cnd h (fun h => ?_) fun h => ?_
 · refine SP.rg <| .a 1 <| .aj ?_; rw [← aB h]; exact .ret (aP [])
 refine SP.skip <| SP.aG <| SP.rg <| .a 1 <| .aj <| SP.block ?_; refine SP.bM (afC au) _ _ _ (aF (mk 21 33) []) h ?_; clear h; intro J8 k3 hk3 v2 h; unfold Gv at h; refine SP.aG <| SP.rg <| .a 2 <| .p (aV ak au fE rfl) <| .a 1 <| .aj <| SP.cnd h (fun h => ?_) fun h => ?_
 · refine SP.skip <| SP.aG <| SP.block ?_; obtain ⟨x5, hx5, x6, hx6, h⟩ := aX h; refine SP.rg <| .a 2 <| .p (aK (k := .i64) ak hx5 fE iK (by kernel_rfl) rfl) <| .a 1 <| .call (ahz x5 x6 hx6) aqD <| .aj <| SP.cnd h (fun h => ?_) fun h => ?_
   · refine SP.rg <| .a 1 <| .aj ?_; rw [← aB h]; exact .ret (aP [])
   refine SP.skip <| SP.bQ <| .a 3 <| .nil ?_; exact hk3 _ _ (aF (mk 21 33) []) h
 refine SP.exit <| SP.rg <| .a 1 <| .aj ?_; rw [← aB h]; exact .ret (aP [])
def afD (dX : (List (List ay))) (v2 : Int) : St := ⟨bY 39 [(0, .d ((eL (eL aA)) dX)), (3, .d (eI v2))], [], 0⟩
def afE (dX : (List (List ay))) (v2 : Int) (v7 : Int) : St := ⟨bY 39 [(0, .d ((eL (eL aA)) dX)), (3, .d (eI v2)), (4, .d (eI v7))], [], 0⟩
def Gw (dX : (List (List ay))) (v2 : Int) (k3 : (Int → Option Bool)) (k8 : (Int → Option Bool)) : Int → Option Bool := fun v7 => (aY dX v2).bind fun x9 => (bif decide (v7 < (x9.length : Int)) then (aY dX v2).bind fun x11 => (aY x11 v7).bind fun x12 => (bif decide ((x12.Key.size : Int) > 100) then some true else k8 (IntKind.i64.wrap (v7 + 1))) else k3 (IntKind.i64.wrap (v2 + 1)))
def VQ (dX : (List (List ay))) (v2 : Int) (k3 : (Int → Option Bool)) : Int → Option Bool := bM (Gw dX v2 k3) fuel
def Gx (dX : (List (List ay))) (k3 : (Int → Option Bool)) : Int → Option Bool := fun v2 => (bif decide (v2 < (dX.length : Int)) then (aY dX v2).bind fun x5 => (bif decide ((x5.length : Int) > 20) then some true else VQ dX v2 k3 0) else some false)
def VR (dX : (List (List ay))) : Int → Option Bool := bM (Gx dX) fuel
def Kw (dX : (List (List ay))) : Option Bool := (bif decide ((dX.length : Int) > 4) then some true else VR dX 0)
theorem afF (dX r) (h : Kw dX = some r) : Runs Tryz.prog 29 [.d ((eL (eL aA)) dX)] [] (.d (eB r)) [] := by
 refine Runs.aT Tryz.func29 rfl ?_; unfold Kw at h; refine SP.rg <| .a 1 <| .aj <| SP.aG <| SP.rg <| .a 1 <| .p (aV (eL aA) dX kV rfl) <| .a 1 <| .aj <| SP.cnd h (fun h => ?_) fun h => ?_
 · refine SP.rg <| .a 1 <| .aj ?_; rw [← aB h]; exact .ret (aP [])
 refine SP.skip <| SP.aG <| SP.rg <| .a 1 <| .aj <| SP.block ?_; refine SP.bM (afD dX) _ _ _ (aF (mk 39 9) []) h ?_; clear h; intro J15 k3 hk3 v2 h; unfold Gx at h; refine SP.aG <| SP.rg <| .a 2 <| .p (aV (eL aA) dX kV rfl) <| .a 1 <| .aj <| SP.cnd h (fun h => ?_) fun h => ?_
 · refine SP.skip <| SP.aG <| SP.block <| SP.aG ?_; obtain ⟨x5, hx5, h⟩ := aC h; refine SP.rg <| .a 2 <| .p (aK (k := .i64) (eL aA) hx5 kV DR (by kernel_rfl) rfl) <| .a 1 <| .p (aV aA x5 fF rfl) <| .a 1 <| .aj <| SP.cnd h (fun h => ?_) fun h => ?_
   · refine SP.rg <| .a 1 <| .aj ?_; rw [← aB h]; exact .ret (aP [])
   refine SP.skip <| SP.rg <| .a 1 <| .aj <| SP.block ?_; refine SP.bM (afE dX v2) _ _ _ (aF (mk 39 25) []) h ?_; clear h; intro J14 k8 hk8 v7 h; unfold Gw at h; refine SP.aG ?_; obtain ⟨x9, fK, h⟩ := aC h; refine SP.rg <| .a 3 <| .p (aK (k := .i64) (eL aA) fK kV DR (by kernel_rfl) rfl) <| .a 1 <| .p (aV aA x9 fF rfl) <| .a 1 <| .aj <| SP.cnd h (fun h => ?_) fun h => ?_
   · refine SP.skip <| SP.aG <| SP.block ?_; obtain ⟨x11, fC, x12, iH, h⟩ := aX h; refine SP.rg <| .a 2 <| .p (aK (k := .i64) (eL aA) fC kV DR (by kernel_rfl) rfl) <| .a 2 <| .p (aK (k := .i64) aA iH fF iy (by kernel_rfl) rfl) <| .a 4 <| .aj <| SP.cnd h (fun h => ?_) fun h => ?_
     · refine SP.rg <| .a 1 <| .aj ?_; rw [← aB h]; exact .ret (aP [])
     refine SP.skip <| SP.bQ <| .a 3 <| .nil ?_; exact hk8 _ _ (aF (mk 39 25) []) h
   refine SP.exit <| SP.bQ <| .a 3 <| .nil ?_; exact hk3 _ _ (aF (mk 39 9) []) h
 refine SP.exit <| SP.rg <| .a 1 <| .aj ?_; rw [← aB h]; exact .ret (aP [])
def F7 (o9 : Int) (sJ : ByteArray) (afG : Int) (Ui : ByteArray) : Option Bool := (bif decide (o9 < afG) then some true else (bif (o9 == afG) then some (Op.bytesLess (sJ.toList) (Ui.toList)) else some false).bind fun x3 => some x3).bind fun x1 => some x1
theorem VT (o9 sJ afG Ui r) (h : F7 o9 sJ afG Ui = some r) : Runs Tryz.prog 38 [.d (eI o9), .d (eS sJ), .d (eI afG), .d (eS Ui)] [] (.d (eB r)) [] := by
 refine Runs.aT Tryz.func38 rfl ?_; unfold F7 at h; refine SP.rg <| .a 1 <| .aj <| SP.rg <| .a 3 <| ?_; obtain ⟨x1, hx1, h⟩ := aC h; refine .merge 10 [12, 13, 14, 15, 16, 17, 18, 19, 20] 21 (.d (eB x1)) ?_ ?_
 · rcases dn hx1 with ⟨hb2, h⟩ | ⟨hb2, h⟩
   · refine .c (congrArg some hb2) <| .a 9 <| .aj ?_; obtain rfl := aB h; kernel_rfl
   refine .c (congrArg some hb2) <| .a 3 <| ?_; obtain ⟨x3, hx3, h⟩ := aC h; refine .merge 5 [16, 17, 18, 19] 20 (.d (eB x3)) ?_ ?_
   · rcases dn hx3 with ⟨hb4, h⟩ | ⟨hb4, h⟩
     · refine .c (congrArg some hb4) <| .a 4 <| .aj ?_; obtain rfl := aB h; kernel_rfl
     refine .c (congrArg some hb4) <| .a 4 <| .aj ?_; obtain rfl := aB h; kernel_rfl
   refine .a 1 <| .aj ?_; obtain rfl := aB h; kernel_rfl
 refine .a 1 <| .aj ?_; rw [← aB h]; exact .ret (aP [])
def N9 (o9 : Int) : Option Bool := (bif decide (o9 ≥ 1) then some (decide (o9 ≤ 10)) else some false).bind fun x1 => some x1
theorem ahA (o9 r) (h : N9 o9 = some r) : Runs Tryz.prog 24 [.d (eI o9)] [] (.d (eB r)) [] := by
 refine Runs.aT Tryz.func24 rfl ?_; unfold N9 at h; refine SP.rg <| .a 1 <| .aj <| SP.rg <| .a 2 <| ?_; obtain ⟨x1, hx1, h⟩ := aC h; refine .merge 4 [5, 6, 7] 8 (.d (eB x1)) ?_ ?_
 · rcases dn hx1 with ⟨hb2, h⟩ | ⟨hb2, h⟩
   · refine .c (congrArg some hb2) <| .a 3 <| .aj ?_; obtain rfl := aB h; kernel_rfl
   refine .c (congrArg some hb2) <| .a 3 <| .aj ?_; obtain rfl := aB h; kernel_rfl
 refine .a 1 <| .aj ?_; rw [← aB h]; exact .ret (aP [])
def afH (aJ : (List ay)) (v1 : Int) : St := ⟨bY 59 [(0, .d ((eL aA) aJ)), (3, .d (eI v1))], [], 0⟩
def afI (aJ : (List ay)) (v10 : Int) : St := ⟨bY 59 [(0, .d ((eL aA) aJ)), (4, .d (eI v10))], [], 0⟩
def Gy (aJ : (List ay)) (k11 : (Int → Option Int)) : Int → Option Int := fun v10 => (bif decide (v10 < (aJ.length : Int)) then (aY aJ v10).bind fun fQ => (N9 fQ.Kind).bind fun x14 => (bif (!x14) then some true else (aY aJ v10).bind fun x17 => some (decide (x17.Id < 0))).bind fun x15 => (bif x15 then some 1 else k11 (IntKind.i64.wrap (v10 + 1))) else (bif decide ((aJ.length : Int) > 2000) then some 7 else some 0))
def Oa (aJ : (List ay)) : Int → Option Int := bM (Gy aJ) fuel
def Gz (aJ : (List ay)) (k2 : (Int → Option Int)) : Int → Option Int := fun v1 => (bif decide (v1 < (aJ.length : Int)) then (aY aJ (IntKind.i64.wrap (v1 - 1))).bind fun x4 => (aY aJ (IntKind.i64.wrap (v1 - 1))).bind fun x5 => (aY aJ v1).bind fun x6 => (aY aJ v1).bind fun x7 => (F7 x4.Kind x5.Key x6.Kind x7.Key).bind fun x8 => (bif (!x8) then some 8 else k2 (IntKind.i64.wrap (v1 + 1))) else Oa aJ 0)
def VU (aJ : (List ay)) : Int → Option Int := bM (Gz aJ) fuel
def Ky (aJ : (List ay)) : Option Int := VU aJ 1
theorem afJ (aJ r) (h : Ky aJ = some r) : Runs Tryz.prog 30 [.d ((eL aA) aJ)] [] (.d (eI r)) [] := by
 refine Runs.aT Tryz.func30 rfl ?_; unfold Ky at h; refine SP.rg <| .a 1 <| .aj <| SP.aG <| SP.rg <| .a 1 <| .aj <| SP.block ?_; refine SP.bM (afH aJ) _ _ _ (aF (mk 59 9) []) h ?_; clear h; intro J21 k2 hk2 v1 h; unfold Gz at h; refine SP.aG <| SP.rg <| .a 2 <| .p (aV aA aJ fF rfl) <| .a 1 <| .aj <| SP.cnd h (fun h => ?_) fun h => ?_
 · refine SP.skip <| SP.aG <| SP.block ?_; obtain ⟨x4, hx4, x5, hx5, x6, hx6, h⟩ := jk h; obtain ⟨x7, hx7, x8, gJ, h⟩ := aX h; refine SP.qp (by kernel_rfl) (by kernel_rfl) (by kernel_rfl) (.a 3 <| .p (aK (k := .i64) aA hx4 fF iy (by kernel_rfl) rfl) <| .a 5 <| .p (aK (k := .i64) aA hx5 fF iy (by kernel_rfl) rfl) <| .a 4 <| .p (aK (k := .i64) aA hx6 fF iy (by kernel_rfl) rfl) <| .a 4 <| .p (aK (k := .i64) aA hx7 fF iy (by kernel_rfl) rfl) <| .a 2 <| .call (VT x4.Kind x5.Key x6.Kind x7.Key x8 gJ) anh <| .a 1 <| .nil _) <| SP.cnd h (fun h => ?_) fun h => ?_
   · refine SP.rg <| .a 1 <| .aj ?_; rw [← aB h]; exact .ret (aP [])
   refine SP.skip <| SP.bQ <| .a 3 <| .nil ?_; exact hk2 _ _ (aF (mk 59 9) []) h
 refine SP.exit <| SP.aG <| SP.rg <| .a 1 <| .aj <| SP.block ?_; refine SP.bM (afI aJ) _ _ _ (aF (mk 59 17) []) h ?_; clear h; intro J20 k11 afK v10 h; unfold Gy at h; refine SP.aG <| SP.rg <| .a 2 <| .p (aV aA aJ fF rfl) <| .a 1 <| .aj <| SP.cnd h (fun h => ?_) fun h => ?_
 · refine SP.skip <| SP.aG <| SP.block ?_; obtain ⟨fQ, mY, x14, kL, h⟩ := aX h; refine SP.rg <| .a 2 <| .p (aK (k := .i64) aA mY fF iy (by kernel_rfl) rfl) <| .a 2 <| .call (ahA fQ.Kind x14 kL) aqE <| .a 1 <| ?_; obtain ⟨x15, jB, h⟩ := aC h; refine .merge 8 [48, 49, 50, 51, 52, 53, 54] 55 (.d (eB x15)) ?_ ?_
   · rcases dn jB with ⟨hb16, h⟩ | ⟨hb16, h⟩
     · refine .c (congrArg some hb16) <| .a 7 <| .aj ?_; obtain rfl := aB h; kernel_rfl
     obtain ⟨x17, ru, h⟩ := aC h; refine .c (congrArg some hb16) <| .a 2 <| .p (aK (k := .i64) aA ru fF iy (by kernel_rfl) rfl) <| .a 4 <| .aj ?_; obtain rfl := aB h; kernel_rfl
   refine .aj <| SP.cnd h (fun h => ?_) fun h => ?_
   · refine SP.rg <| .a 1 <| .aj ?_; rw [← aB h]; exact .ret (aP [])
   refine SP.skip <| SP.bQ <| .a 3 <| .nil ?_; exact afK _ _ (aF (mk 59 17) []) h
 refine SP.exit <| SP.aG <| SP.rg <| .a 1 <| .p (aV aA aJ fF rfl) <| .a 1 <| .aj <| SP.cnd h (fun h => ?_) fun h => ?_
 · refine SP.rg <| .a 1 <| .aj ?_; rw [← aB h]; exact .ret (aP [])
 refine SP.skip <| SP.rg <| .a 1 <| .aj ?_; rw [← aB h]; exact .ret (aP [])
def afL (dX : (List (List ay))) (v3 : Int) : St := ⟨bY 18 [(0, .d ((eL (eL aA)) dX)), (3, .d (eI v3))], [], 0⟩
def GH (dX : (List (List ay))) (k4 : (Int → Option Bool)) : Int → Option Bool := fun v3 => (bif decide (v3 < (dX.length : Int)) then (aY dX v3).bind fun x6 => (Ky x6).bind fun x7 => (bif (x7 != 0) then some false else k4 (IntKind.i64.wrap (v3 + 1))) else some true)
def VW (dX : (List (List ay))) : Int → Option Bool := bM (GH dX) fuel
def BG (dX : (List (List ay))) : Option Bool := (Kw dX).bind fun x1 => (bif x1 then some false else VW dX 0)
theorem VX (dX r) (h : BG dX = some r) : Runs Tryz.prog 11 [.d ((eL (eL aA)) dX)] [] (.d (eB r)) [] := by
 refine Runs.aT Tryz.func11 rfl ?_; unfold BG at h; refine SP.rg <| .a 1 <| .aj <| SP.aG ?_; obtain ⟨x1, hx1, h⟩ := aC h; refine SP.rg <| .a 1 <| .call (afF dX x1 hx1) aqF <| .aj <| SP.cnd h (fun h => ?_) fun h => ?_
 · refine SP.rg <| .a 1 <| .aj ?_; rw [← aB h]; exact .ret (aP [])
 refine SP.skip <| SP.aG <| SP.rg <| .a 1 <| .aj <| SP.block ?_; refine SP.bM (afL dX) _ _ _ (aF (mk 18 9) []) h ?_; clear h; intro J9 k4 hk4 v3 h; unfold GH at h; refine SP.aG <| SP.rg <| .a 2 <| .p (aV (eL aA) dX kV rfl) <| .a 1 <| .aj <| SP.cnd h (fun h => ?_) fun h => ?_
 · refine SP.skip <| SP.aG <| SP.block ?_; obtain ⟨x6, hx6, x7, hx7, h⟩ := aX h; refine SP.rg <| .a 2 <| .p (aK (k := .i64) (eL aA) hx6 kV DR (by kernel_rfl) rfl) <| .a 1 <| .call (afJ x6 x7 hx7) aqG <| .a 1 <| .aj <| SP.cnd h (fun h => ?_) fun h => ?_
   · refine SP.rg <| .a 1 <| .aj ?_; rw [← aB h]; exact .ret (aP [])
   refine SP.skip <| SP.bQ <| .a 3 <| .nil ?_; exact hk4 _ _ (aF (mk 18 9) []) h
 refine SP.exit <| SP.rg <| .a 1 <| .aj ?_; rw [← aB h]; exact .ret (aP [])
def EY (aJ : (List ay)) : Option (List ay) := some aJ
theorem Zp (aJ r) (h : EY aJ = some r) : Runs Tryz.prog 56 [.d ((eL aA) aJ)] [] (.d (.fn (.func 80) [] [(.ref ((eL aA) r).cells 0)])) [] := by
 refine Runs.aT Tryz.func56 rfl ?_; unfold EY at h; refine SP.rg <| .a 2 <| .aj <| SP.rg <| .conv _ (oV (cs := dc ((eL aA) aJ)) 0 (by kernel_rfl) (by kernel_rfl)) <| .p (x := .d (.fn (.func 80) [] [(.ref ((eL aA) aJ).cells 0)])) (qQ [(.ref ((eL aA) aJ).cells 0)] rfl rfl) <| .a 1 <| .aj ?_; rw [← aB h]; exact .ret (aP [])
def LK (au : (List ay)) (zl : D) (BH : D) (v1 : Int) : St := ⟨bY 36 [(0, .d ((eL aA) au)), (1, .d zl), (2, .d BH), (8, .d (eI v1))], [], 0⟩
def kR (au : (List ay)) (vW : (ay → Option Bool)) (zn : (ay → Option Bool)) (k2 : (Int → Option (Int × Bool))) : Int → Option (Int × Bool) := fun v1 => (bif decide (v1 < (au.length : Int)) then (aY au v1).bind fun x5 => (vW x5).bind fun x6 => some x6 else some false).bind fun x3 => (bif x3 then k2 (IntKind.i64.wrap (v1 + 1)) else (bif decide (v1 < (au.length : Int)) then (aY au v1).bind fun x10 => (zn x10).bind fun x11 => some x11 else some false).bind fun x8 => some (v1, x8))
def zV (au : (List ay)) (vW : (ay → Option Bool)) (zn : (ay → Option Bool)) : Int → Option (Int × Bool) := bM (kR au vW zn) fuel
def qx (au : (List ay)) (vW : (ay → Option Bool)) (zn : (ay → Option Bool)) : Option (Int × Bool) := zV au vW zn 0
theorem LM (au : (List ay)) (vW : (ay → Option Bool)) (zl : D) (ajP : Fn1 Tryz.prog aA eB zl vW) (zn : (ay → Option Bool)) (BH : D) (alu : Fn1 Tryz.prog aA eB BH zn) (r : (Int × Bool)) (h : qx au vW zn = some r) : Runs Tryz.prog 92 [.d ((eL aA) au), .d zl, .d BH] [] (.fG [.d (eI r.1), .d (eB r.2)]) [] := by
 refine Runs.aT Tryz.func92 rfl ?_; unfold qx at h; refine SP.rg <| .a 2 <| .aj <| SP.rg <| .a 1 <| .aj <| SP.aG <| SP.block ?_; refine SP.bM (LK au zl BH) _ _ _ (aF (mk 36 263) []) h ?_; clear h; intro J12 k2 hk2 v1 h; unfold kR at h; refine SP.aG <| SP.rg <| .a 2 <| .p (aV aA au nC rfl) <| .a 1 <| ?_; obtain ⟨x3, hx3, h⟩ := aC h; refine .merge 8 [13, 14, 15, 16, 17, 18, 19] 20 (.d (eB x3)) ?_ ?_
 · rcases dn hx3 with ⟨hb4, h⟩ | ⟨hb4, h⟩
   · obtain ⟨x5, hx5, x6, hx6, h⟩ := aX h; refine .c (congrArg some hb4) <| .a 3 <| .p (aK (k := .i64) aA hx5 nC iy (by kernel_rfl) rfl) <| .a 1 <| .p (Rw (d := zl) (ajP : Fn1 Tryz.prog aA eB zl vW) hx6 rfl) <| .a 1 <| .aj ?_; obtain rfl := aB h; kernel_rfl
   refine .c (congrArg some hb4) <| .a 7 <| .aj ?_; obtain rfl := aB h; kernel_rfl
 refine .aj <| SP.cnd h (fun h => ?_) fun h => ?_
 · refine SP.skip <| SP.block <| SP.bQ <| .a 3 <| .nil ?_; exact hk2 _ _ (aF (mk 36 263) []) h
 refine SP.exit <| SP.rg <| .a 3 <| .p (aV aA au nC rfl) <| .a 1 <| ?_; obtain ⟨x8, gJ, h⟩ := aC h; refine .merge 8 [28, 29, 30, 31, 32, 33, 34] 35 (.d (eB x8)) ?_ ?_
 · rcases dn gJ with ⟨F8, h⟩ | ⟨F8, h⟩
   · obtain ⟨x10, jq, x11, fC, h⟩ := aX h; refine .c (congrArg some F8) <| .a 3 <| .p (aK (k := .i64) aA jq nC iy (by kernel_rfl) rfl) <| .a 1 <| .p (Rw (d := BH) (alu : Fn1 Tryz.prog aA eB BH zn) fC rfl) <| .a 1 <| .aj ?_; obtain rfl := aB h; kernel_rfl
   refine .c (congrArg some F8) <| .a 7 <| .aj ?_; obtain rfl := aB h; kernel_rfl
 refine .a 2 <| .aj ?_; rw [← aB h]; exact .ret (aP [])
def pW (fU : ay) (eU : ay) : Option Bool := (bif decide (fU.Kind < eU.Kind) then some true else (bif (fU.Kind == eU.Kind) then some (Op.bytesLess (fU.Key.toList) (eU.Key.toList)) else some false).bind fun x3 => some x3).bind fun x1 => some x1
theorem GI (fU eU r) (h : pW fU eU = some r) : Runs Tryz.prog 94 [.d (aA fU), .d (aA eU)] [] (.d (eB r)) [] := by
 refine Runs.aT Tryz.func94 rfl ?_; unfold pW at h; refine SP.rg <| .a 3 <| .aj <| SP.rg <| .a 5 <| ?_; obtain ⟨x1, hx1, h⟩ := aC h; refine .merge 14 [10, 11, 12, 13, 14, 15, 16, 17, 18, 19, 20, 21, 22] 23 (.d (eB x1)) ?_ ?_
 · rcases dn hx1 with ⟨hb2, h⟩ | ⟨hb2, h⟩
   · refine .c (congrArg some hb2) <| .a 13 <| .aj ?_; obtain rfl := aB h; kernel_rfl
   refine .c (congrArg some hb2) <| .a 5 <| ?_; obtain ⟨x3, hx3, h⟩ := aC h; refine .merge 7 [16, 17, 18, 19, 20, 21] 22 (.d (eB x3)) ?_ ?_
   · rcases dn hx3 with ⟨hb4, h⟩ | ⟨hb4, h⟩
     · refine .c (congrArg some hb4) <| .a 6 <| .aj ?_; obtain rfl := aB h; kernel_rfl
     refine .c (congrArg some hb4) <| .a 6 <| .aj ?_; obtain rfl := aB h; kernel_rfl
   refine .a 1 <| .aj ?_; obtain rfl := aB h; kernel_rfl
 refine .a 1 <| .aj ?_; rw [← aB h]; exact .ret (aP [])
def rU (aI : ay) (c0 : ay) : Option Bool := (pW aI c0).bind fun x1 => some x1
theorem VY (aI c0 r) (h : rU aI c0 = some r) : Runs Tryz.prog 93 [.d (aA aI), .d (.ref (aA c0).cells 0)] [] (.d (eB r)) [] := by
 refine Runs.aT Tryz.func93 rfl ?_; unfold rU at h; refine SP.rg <| .a 2 <| .aj ?_; obtain ⟨x1, hx1, h⟩ := aC h; refine SP.rg <| .a 2 <| .call (GI aI c0 x1 hx1) ani <| .a 1 <| .aj ?_; rw [← aB h]; exact .ret (aP [])
def rV (aI : ay) (c0 : ay) : Option Bool := (pW c0 aI).bind fun x1 => some (!x1)
theorem VZ (aI c0 r) (h : rV aI c0 = some r) : Runs Tryz.prog 95 [.d (aA aI), .d (.ref (aA c0).cells 0)] [] (.d (eB r)) [] := by
 refine Runs.aT Tryz.func95 rfl ?_; unfold rV at h; refine SP.rg <| .a 2 <| .aj ?_; obtain ⟨x1, hx1, h⟩ := aC h; refine SP.rg <| .a 2 <| .call (GI c0 aI x1 hx1) ani <| .a 2 <| .aj ?_; rw [← aB h]; exact .ret (aP [])
def vG (aJ : (List ay)) (bV : Int) (bP : ByteArray) : Option (Int × Bool) := (qx aJ (fun a0 => rU a0 (⟨bV, bP, 0⟩ : ay)) (fun a0 => rV a0 (⟨bV, bP, 0⟩ : ay))).bind fun x1 => some (x1.1, x1.2)
theorem Ob (aJ bV bP r) (h : vG aJ bV bP = some r) : Runs Tryz.prog 67 [.d ((eL aA) aJ), .d (eI bV), .d (eS bP)] [] (.fG [.d (eI r.1), .d (eB r.2)]) [] := by
 refine Runs.aT Tryz.func67 rfl ?_; unfold vG at h; refine SP.rg <| .a 2 <| .aj <| SP.rg <| .a 5 <| .aj ?_; obtain ⟨x1, hx1, h⟩ := aC h; refine SP.rg <| .a 1 <| .conv _ (oV (cs := dc (aA (⟨bV, bP, 0⟩ : ay))) 0 (by kernel_rfl) (by kernel_rfl)) <| .p (x := .d (.fn (.func 93) [] [(.ref (aA (⟨bV, bP, 0⟩ : ay)).cells 0)])) (qQ [(.ref (aA (⟨bV, bP, 0⟩ : ay)).cells 0)] rfl rfl) <| .p (x := .d (.fn (.func 95) [] [(.ref (aA (⟨bV, bP, 0⟩ : ay)).cells 0)])) (qQ [(.ref (aA (⟨bV, bP, 0⟩ : ay)).cells 0)] rfl rfl) <| .call (LM aJ (fun a0 => rU a0 (⟨bV, bP, 0⟩ : ay)) (.fn (.func 93) [] [(.ref (aA (⟨bV, bP, 0⟩ : ay)).cells 0)]) ⟨93, [(.ref (aA (⟨bV, bP, 0⟩ : ay)).cells 0)], rfl, aqI, fun a0 b hb => VY a0 (⟨bV, bP, 0⟩ : ay) b hb⟩ (fun a0 => rV a0 (⟨bV, bP, 0⟩ : ay)) (.fn (.func 95) [] [(.ref (aA (⟨bV, bP, 0⟩ : ay)).cells 0)]) ⟨95, [(.ref (aA (⟨bV, bP, 0⟩ : ay)).cells 0)], rfl, aqJ, fun a0 b hb => VZ a0 (⟨bV, bP, 0⟩ : ay) b hb⟩ x1 hx1) aqH <| .a 4 <| .aj ?_; rw [← aB h]; exact .ret (aP [])
def uJ (aJ : (List ay)) (bV : Int) (bP : ByteArray) : Option (Int × Bool) := (vG aJ bV bP).bind fun x1 => (bif x1.2 then (aY aJ x1.1).bind fun x3 => some (x3.Id, true) else some (0, false))
theorem GK (aJ bV bP r) (h : uJ aJ bV bP = some r) : Runs Tryz.prog 43 [.d ((eL aA) aJ), .d (eI bV), .d (eS bP)] [] (.fG [.d (eI r.1), .d (eB r.2)]) [] := by
 refine Runs.aT Tryz.func43 rfl ?_; unfold uJ at h; refine SP.rg <| .a 2 <| .aj <| SP.aG ?_; obtain ⟨x1, hx1, h⟩ := aC h; refine SP.rg <| .a 3 <| .call (Ob aJ bV bP x1 hx1) anj <| .a 5 <| .aj <| SP.rg <| .a 1 <| .aj <| SP.cnd h (fun h => ?_) fun h => ?_
 · obtain ⟨x3, hx3, h⟩ := aC h; refine SP.rg <| .a 2 <| .p (aK (k := .i64) aA hx3 fF iy (by kernel_rfl) rfl) <| .a 4 <| .aj ?_; rw [← aB h]; exact .ret (aP [])
 refine SP.skip <| SP.rg <| .a 2 <| .aj ?_; rw [← aB h]; exact .ret (aP [])
def aaE (au : (List (List ay))) (dH : ay) (v1 : Int) : St := ⟨bY 33 [(3, .ptr 0 0), (9, .d ((eL (eL aA)) au)), (10, .d (eI (au.length : Int))), (11, .d (eI v1))], [.box (dc (aA dH))], 0⟩
def AU (au : (List (List ay))) (dH : ay) (k2 : (Int → Option Bool)) : Int → Option Bool := fun v1 => (bif decide (v1 < (au.length : Int)) then (aY au v1).bind fun x4 => (uJ x4 dH.Kind dH.Key).bind fun x5 => (bif (!x5.2) then some true else some (x5.1 != dH.Id)).bind fun x6 => (bif x6 then some false else k2 (IntKind.i64.wrap (v1 + 1))) else some true)
def P6 (au : (List (List ay))) (dH : ay) : Int → Option Bool := bM (AU au dH) fuel
def BI (au : (List (List ay))) (dH : ay) : Option Bool := P6 au dH 0
theorem aaF (au dH r) (h : BI au dH = some r) : Runs Tryz.prog 57 [.d ((eL (eL aA)) au), .d (aA dH)] [] (.d (eB r)) [] := by
 refine Runs.aT Tryz.func57 rfl ?_; unfold BI at h; refine SP.rg <| .a 2 <| .aj <| SP.aG <| SP.rg <| .a 1 <| .p (aV (eL aA) au kV rfl) <| .a 1 <| .aj <| SP.block ?_; refine SP.bM (aaE au dH) _ _ _ (aF (mk 33 3592) [(0, true)]) h ?_; clear h; intro J9 k2 hk2 v1 h; unfold AU at h; refine SP.rg <| .a 1 <| .aj <| SP.aG <| SP.cnd h (fun h => ?_) fun h => ?_
 · refine SP.skip <| SP.aG <| SP.block ?_; obtain ⟨x4, hx4, h⟩ := aC h; refine SP.rg <| .p (aK (k := .i64) (eL aA) hx4 kV DR (by kernel_rfl) rfl) <| .a 2 <| .aj ?_; obtain ⟨x5, hx5, h⟩ := aC h; refine SP.rg <| .a 5 <| .call (GK x4 dH.Kind dH.Key x5 hx5) ajB <| .a 5 <| .aj <| SP.rg <| .a 2 <| ?_; obtain ⟨x6, hx6, h⟩ := aC h; refine .merge 6 [26, 27, 28, 29, 30] 31 (.d (eB x6)) ?_ ?_
   · rcases dn hx6 with ⟨hb7, h⟩ | ⟨hb7, h⟩
     · refine .c (congrArg some hb7) <| .a 5 <| .aj ?_; obtain rfl := aB h; kernel_rfl
     refine .c (congrArg some hb7) <| .a 5 <| .aj ?_; obtain rfl := aB h; kernel_rfl
   refine .aj <| SP.cnd h (fun h => ?_) fun h => ?_
   · refine SP.rg <| .a 1 <| .aj ?_; rw [← aB h]; exact .ret (aP [])
   refine SP.skip <| SP.bQ <| .a 2 <| .nil ?_; exact hk2 _ _ (aF (mk 33 3592) [(0, true)]) h
 refine SP.exit <| SP.rg <| .a 1 <| .aj ?_; rw [← aB h]; exact .ret (aP [])
def vk (aJ : (List Int)) : Option (List Int) := (eP 8 [] aJ).bind fun x1 => some x1
theorem QK (aJ r) (h : vk aJ = some r) : Runs Tryz.prog 81 [.d ((eL eI) aJ)] [] (.aQ 0) [.arr 3 1 (List.map eI r)] := by
 refine Runs.aT Tryz.func81 rfl ?_; unfold vk at h; refine SP.rg <| .e [.arr 3 1 (List.map eI [])] (aU 3 1 rfl) <| .aj <| SP.aG <| SP.TM (x := .tmp 3) (t' := 32) (d := 4) (es := List.map eI aJ) 1 rfl (.a 1 <| .nil _) (by kernel_rfl) (by kernel_rfl) (by kernel_rfl) bG (by kernel_rfl) ?_; intro b hn2; cases b
 · clear hn2; refine SP.MZ (by kernel_rfl) <| SP.skip ?_; obtain ⟨x1, hx1, h⟩ := aC h; refine SP.rg <| .e [.arr 3 1 (List.map eI []), .arr 3 1 (List.map eI [])] (gu eH zero3 (by kernel_rfl) (by kernel_rfl) (Nat.le_of_ble_eq_true (by kernel_rfl)) [] [] (by kernel_rfl) (by kernel_rfl) (by kernel_rfl) (by kernel_rfl) rfl) <| .a 1 <| .e [.arr 3 1 (List.map eI []), .dead, .arr 3 1 (List.map eI x1)] (dO (k := 1) eI hx1 eH (by kernel_rfl) (fun _ => rfl) (by decide) rfl) <| .a 1 <| .aj ?_; rw [← aB h]; exact .ret (aP [(2, true)])
 replace hn2 := aao hn2; replace h : some [] = some r := by rw [hn2] at h; exact h
 refine SP.TJ (by kernel_rfl) <| SP.rg <| .e [.arr 3 1 (List.map eI []), .arr 3 1 (List.map eI [])] (aU 3 1 rfl) <| .aj ?_; rw [← aB h]; exact .ret (aP [(1, true)])
def qU (au : (List Int)) : Option (List Int) := (vk au).bind fun x1 => (gG x1).bind fun x2 => (iO x2).bind fun x3 => some x3
theorem vH (au r) (h : qU au = some r) : Runs Tryz.prog 58 [.d ((eL eI) au)] [] (.aQ 0) [.arr 3 1 (List.map eI r)] := by
 refine Runs.aT Tryz.func58 rfl ?_; unfold qU at h; refine SP.rg <| .e [.arr 3 1 (List.map eI [])] (aU 3 1 rfl) <| .aj ?_; obtain ⟨x1, hx1, h⟩ := aC h; refine SP.rg <| .a 1 <| .e (x := .aQ 1) [.arr 3 1 (List.map eI []), .arr 3 1 (List.map eI x1)] (y8 (dL := [.d ((eL eI) au)]) (dR := [.d ((eL eI) au)]) (QK au x1 hx1) aqK (by kernel_rfl) ⟨.inl rfl, trivial⟩ rfl (by kernel_rfl) rfl) <| .a 1 <| .aj ?_; obtain ⟨x2, hx2, h⟩ := aC h; refine SP.rg <| .a 1 <| .e (x := .fG []) [.arr 3 1 (List.map eI []), .arr 3 1 (List.map eI x2)] (fO [.ent 1] (dL := [.aQ 1]) (dR := [.aQ 0]) (res' := .fG []) (rP x1 x2 hx2) aez (by kernel_rfl) (jf (by kernel_rfl) <| trivial) ⟨⟨0, rfl, rfl⟩, trivial⟩ rfl (by kernel_rfl) rfl) <| .aj ?_; obtain ⟨x3, hx3, h⟩ := aC h; refine SP.rg <| .a 1 <| .e (x := .aQ 2) [.arr 3 1 (List.map eI []), .dead, .arr 3 1 (List.map eI x3)] (fO [.ent 1] (dL := [.aQ 1]) (dR := [.aQ 0]) (res' := .aQ 2) (uD x2 x3 hx3) ajC (by kernel_rfl) (jf (by kernel_rfl) <| trivial) ⟨⟨0, rfl, rfl⟩, trivial⟩ rfl (by kernel_rfl) rfl) <| .a 1 <| .aj ?_; rw [← aB h]; exact .ret (aP [(2, true)])
noncomputable def vX : Array Tmp × Code × Code := amc Tryz.f39.body [1, 1, 1, 0, 1, 0, 0, 1, 1, 0, 0, 1, 1, 0]
def X4 (au : (List (List ay))) (v1 : (List ay)) (v2 : (List Int)) (v3 : Int) (v4 : (List (List ay))) (v5 : (List ay)) (v6 : (List Int)) : St := ⟨bY 38 [(1, .ptr 0 0), (4, .ptr 1 0), (5, .ptr 3 0), (9, .d ((eL (eL aA)) au)), (10, .d (eI (au.length : Int))), (11, .d (eI v3))], [.box (dc ((eL (eL aA)) v4)), .box (setAt (dc ((eL aA) v5)) 0 [.aQ 2]), .arr 45 3 (List.map aA v1), .box (setAt (dc ((eL eI) v6)) 0 [.aQ 4]), .arr 3 1 (List.map eI v2)], 0⟩
def jv (au : (List (List ay))) (v3 : Int) (x10 : (List ay)) (v4 : (List (List ay))) (v5 : (List ay)) (v1 : (List ay)) (v6 : (List Int)) (v2 : (List Int)) : St := ⟨bY 38 [(1, .ptr 0 0), (4, .ptr 1 0), (5, .ptr 3 0), (6, .ptr 5 0), (9, .d ((eL (eL aA)) au)), (10, .d (eI (au.length : Int))), (11, .d (eI v3)), (17, .d (.fn (.func 80) [] [(.ref ((eL aA) x10).cells 0)]))], [.box (dc ((eL (eL aA)) v4)), .box (setAt (dc ((eL aA) v5)) 0 [.aQ 2]), .arr 45 3 (List.map aA v1), .box (setAt (dc ((eL eI) v6)) 0 [.aQ 4]), .arr 3 1 (List.map eI v2), .box (dc (eI v3))], 0⟩
noncomputable def X5 (x10 : (List ay)) (abT : Array Value) (au : (List (List ay))) (v3 : Int) (v4 : (List (List ay))) (v5 : (List ay)) (v1 : (List ay)) (v6 : (List Int)) (v2 : (List Int)) (v12 : (List ay)) (v13 : (List Int)) (v14 : Int) (v15 : (List (List ay))) (v16 : (List ay)) (v17 : (List Int)) (v18 : Int) : St := ⟨bY 16 [(0, .mp 6), (5, .d ((eL aA) x10)), (6, .d (eI (x10.length : Int))), (7, .d (eI v14))], [.box (dc ((eL (eL aA)) v15)), .box (setAt (dc ((eL aA) v16)) 0 [.aQ 7]), .dead, .box (setAt (dc ((eL eI) v17)) 0 [.aQ 8]), .dead, .box (dc (eI v18)), .loop abT (jv au v3 x10 v4 v5 v1 v6 v2).slots vX .ready none, .arr 45 3 (List.map aA v12), .arr 3 1 (List.map eI v13)], 7⟩
def wR (x10 : (List ay)) (k7 : ((List ay) → (List Int) → Int → (List (List ay)) → (List ay) → (List Int) → Option ((List ay) × (List Int)))) (v3 : Int) (k19 : ((List ay) → (List Int) → Int → (List (List ay)) → (List ay) → (List Int) → Int → Option ((List ay) × (List Int)))) : (List ay) → (List Int) → Int → (List (List ay)) → (List ay) → (List Int) → Int → Option ((List ay) × (List Int)) := fun v12 v13 v14 v15 v16 v17 v18 => (bif decide (v14 < (x10.length : Int)) then (aY x10 v14).bind fun x21 => (BI v15 x21).bind fun iP => (bif (!iP) then (eP 8 v13 [x21.Id]).bind fun x24 => k19 v12 x24 (IntKind.i64.wrap (v14 + 1)) v15 v16 v17 v18 else (bif (v18 == 0) then (eP 32 v12 [x21]).bind fun o8 => k19 o8 v13 (IntKind.i64.wrap (v14 + 1)) v15 v16 v17 v18 else k19 v12 v13 (IntKind.i64.wrap (v14 + 1)) v15 v16 v17 v18)) else k7 v12 v13 (IntKind.i64.wrap (v3 + 1)) v15 v16 v17)
def MG (x10 : (List ay)) (k7 : ((List ay) → (List Int) → Int → (List (List ay)) → (List ay) → (List Int) → Option ((List ay) × (List Int)))) (v3 : Int) : (List ay) → (List Int) → Int → (List (List ay)) → (List ay) → (List Int) → Int → Option ((List ay) × (List Int)) := PN (wR x10 k7 v3) fuel
def wS (au : (List (List ay))) (k7 : ((List ay) → (List Int) → Int → (List (List ay)) → (List ay) → (List Int) → Option ((List ay) × (List Int)))) : (List ay) → (List Int) → Int → (List (List ay)) → (List ay) → (List Int) → Option ((List ay) × (List Int)) := fun v1 v2 v3 v4 v5 v6 => (bif decide (v3 < (au.length : Int)) then (aY au v3).bind fun x9 => (EY x9).bind fun x10 => MG x10 k7 v3 v1 v2 0 v4 v5 v6 v3 else (qU v2).bind fun x28 => some (v1, x28))
def MH (au : (List (List ay))) : (List ay) → (List Int) → Int → (List (List ay)) → (List ay) → (List Int) → Option ((List ay) × (List Int)) := zf (wS au) fuel
def uf (au : (List (List ay))) : Option ((List ay) × (List Int)) := MH au [] [] 0 au [] []
theorem MI (au r) (h : uf au = some r) : Runs Tryz.prog 39 [.d ((eL (eL aA)) au)] [] (.fG [.aQ 0, .aQ 1]) [.arr 45 3 (List.map aA r.1), .arr 3 1 (List.map eI r.2)] := by
 refine Runs.aT Tryz.func39 rfl ?_; unfold uf at h; refine SP.rg <| .a 1 <| .e [.box (dc ((eL (eL aA)) au)), .arr 45 3 (List.map aA [])] (aU 45 3 rfl) <| .e [.box (dc ((eL (eL aA)) au)), .arr 45 3 (List.map aA []), .arr 3 1 (List.map eI [])] (aU 3 1 rfl) <| .aj <| SP.rg <| .e [.box (dc ((eL (eL aA)) au)), .arr 45 3 (List.map aA []), .arr 3 1 (List.map eI []), .arr 45 3 (List.map aA []), .box (setAt (dc ((eL aA) [])) 0 [.aQ 3])] (VB 45 3 VJ rfl) <| .aj <| SP.rg <| .e [.box (dc ((eL (eL aA)) au)), .arr 45 3 (List.map aA []), .arr 3 1 (List.map eI []), .arr 45 3 (List.map aA []), .box (setAt (dc ((eL aA) [])) 0 [.aQ 3]), .arr 3 1 (List.map eI []), .box (setAt (dc ((eL eI) [])) 0 [.aQ 5])] (VB 3 1 zero32 rfl) <| .aj <| SP.aG <| SP.rg <| .a 1 <| .p (aV (eL aA) au kV rfl) <| .a 1 <| .aj <| SP.block ?_; refine SP.zf (X4 au) _ _ _ _ _ _ _ _ (aF (mk 38 3634) [(0, true), (4, true), (3, true), (6, true), (5, true)]) h ?_; clear h; intro J29 k7 hk7 v1 v2 v3 v4 v5 v6 h; unfold wS at h; refine SP.rg <| .a 1 <| .aj <| SP.aG <| SP.cnd h (fun h => ?_) fun h => ?_
 · refine SP.skip <| SP.aG <| SP.block ?_; obtain ⟨x9, fK, h⟩ := aC h; refine SP.rg <| .a 1 <| .p (aK (k := .i64) (eL aA) fK kV DR (by kernel_rfl) rfl) <| .a 4 <| .aj ?_; obtain ⟨x10, jq, h⟩ := aC h; refine SP.rg <| .a 1 <| .e (x := .d (.fn (.func 80) [] [(.ref ((eL aA) x10).cells 0)])) [.box (dc ((eL (eL aA)) v4)), .box (setAt (dc ((eL aA) v5)) 0 [.aQ 2]), .arr 45 3 (List.map aA v1), .box (setAt (dc ((eL eI) v6)) 0 [.aQ 4]), .arr 3 1 (List.map eI v2), .box (dc (eI v3))] (fO [] (dL := [.d ((eL aA) x9)]) (dR := [.d ((eL aA) x9)]) (res' := .d (.fn (.func 80) [] [(.ref ((eL aA) x10).cells 0)])) (Zp x9 x10 jq) aqL (by kernel_rfl) trivial ⟨.inl rfl, trivial⟩ rfl (by kernel_rfl) rfl) <| .aj <| SP.block <| SP.sub (S := jv au v3 x10 v4 v5 v1 v6 v2) (aF (mk 38 134770) [(0, true), (1, true), (2, true), (3, true), (4, true), (5, true)]) <| SP.ajt [(.ref ((eL aA) x10).cells 0)] (by kernel_rfl) Tryz.func80 aqM rfl rfl fun abT => SP.rg <| .a 1 <| .p (aV aA x10 fF rfl) <| .a 1 <| .aj <| SP.block ?_; refine SP.PN (X5 x10 abT au v3 v4 v5 v1 v6 v2) _ _ _ _ _ _ _ _ _ (aF (mk 16 225) [(0, true), (1, true), (2, false), (3, true), (4, false), (5, true), (6, true), (2, true), (4, true)]) h ?_; clear h; intro J27 k19 amN v12 v13 v14 v15 v16 v17 v18 h; unfold wR at h; refine SP.rg <| .a 1 <| .aj <| SP.aG <| SP.cnd h (fun h => ?_) fun h => ?_
   · refine SP.skip <| SP.aG <| SP.block ?_; obtain ⟨x21, vC, h⟩ := aC h; refine SP.rg <| .p (aK (k := .i64) aA vC fF iy (by kernel_rfl) rfl) <| .a 3 <| .aj <| SP.rg <| .a 2 <| ?_; refine LP.yield (tm := abT) (slots := (jv au v3 x10 v4 v5 v1 v6 v2).slots) (rc := vX) 6 [.d (aA x21)] rfl (by kernel_rfl) (by kernel_rfl) (by kernel_rfl) (by kernel_rfl) (by kernel_rfl) (by kernel_rfl) <| SP.bQ <| .a 2 <| .nil <| ⟨rfl, (jv au v3 x10 v4 v5 v1 v6 v2).slots, by kernel_rfl, ?_⟩
     refine SP.block ?_; obtain ⟨iP, ou, h⟩ := aC h; refine SP.rg <| .a 2 <| .call (aaF v15 x21 iP ou) aqN <| .a 1 <| .aj <| SP.cnd h (fun h => ?_) fun h => ?_
     · obtain ⟨x24, hx24, h⟩ := aC h; refine SP.bQ <| .a 3 <| .p (dB eH zero3 (by kernel_rfl) (by kernel_rfl) (Nat.le_of_ble_eq_true (by kernel_rfl)) [.d (eI x21.Id)] [eI x21.Id] (by kernel_rfl) (by kernel_rfl) (by kernel_rfl) (by kernel_rfl) rfl) <| .e [.box (dc ((eL (eL aA)) v15)), .box (setAt (dc ((eL aA) v16)) 0 [.aQ 7]), .dead, .box (setAt (dc ((eL eI) v17)) 0 [.aQ 8]), .dead, .box (dc (eI v18)), .loop abT (jv au v3 x10 v4 v5 v1 v6 v2).slots vX .busy none, .arr 45 3 (List.map aA v12), .dead, .box (dc (aA x21)), .box (dc (aA x21)), .arr 3 1 (List.map eI x24)] (dO (k := 8) eI hx24 eH (by kernel_rfl) (fun _ => rfl) (by decide) rfl) <| .a 1 <| .nil <| ⟨(jv au v3 x10 v4 v5 v1 v6 v2).slots, (.ready, none), by kernel_rfl, rfl, ?_⟩
       refine .a 1 <| .aj <| SP.MZ (by kernel_rfl) <| SP.skip <| SP.bQ <| .a 2 <| .nil ?_; exact amN _ _ _ _ _ _ _ _ (aF (mk 16 225) [(0, true), (1, true), (2, false), (3, true), (4, false), (5, true), (6, true), (7, true), (11, true)]) h
     refine SP.rg <| .a 2 <| .aj <| SP.cnd h (fun h => ?_) fun h => ?_
     · obtain ⟨o8, AL, h⟩ := aC h; refine SP.bQ <| .a 2 <| .p (dB uH uG (by kernel_rfl) (by kernel_rfl) (Nat.le_of_ble_eq_true (by kernel_rfl)) [.d (aA x21)] [aA x21] (by kernel_rfl) (by kernel_rfl) (by kernel_rfl) (by kernel_rfl) rfl) <| .e [.box (dc ((eL (eL aA)) v15)), .box (setAt (dc ((eL aA) v16)) 0 [.aQ 7]), .dead, .box (setAt (dc ((eL eI) v17)) 0 [.aQ 8]), .dead, .box (dc (eI v18)), .loop abT (jv au v3 x10 v4 v5 v1 v6 v2).slots vX .busy none, .dead, .arr 3 1 (List.map eI v13), .box (dc (aA x21)), .box (dc (aA x21)), .arr 45 3 (List.map aA o8)] (dO (k := 7) aA AL uH (by kernel_rfl) (fun _ => rfl) (by decide) rfl) <| .a 1 <| .nil <| ⟨(jv au v3 x10 v4 v5 v1 v6 v2).slots, (.ready, none), by kernel_rfl, rfl, ?_⟩
       refine .a 1 <| .aj <| SP.MZ (by kernel_rfl) <| SP.skip <| SP.bQ <| .a 2 <| .nil ?_; exact amN _ _ _ _ _ _ _ _ (aF (mk 16 225) [(0, true), (1, true), (2, false), (3, true), (4, false), (5, true), (6, true), (11, true), (8, true)]) h
     refine SP.skip <| ⟨(jv au v3 x10 v4 v5 v1 v6 v2).slots, (.ready, none), by kernel_rfl, rfl, ?_⟩
     refine .a 1 <| .aj <| SP.MZ (by kernel_rfl) <| SP.skip <| SP.bQ <| .a 2 <| .nil ?_; exact amN _ _ _ _ _ _ _ _ (aF (mk 16 225) [(0, true), (1, true), (2, false), (3, true), (4, false), (5, true), (6, true), (7, true), (8, true)]) h
   refine SP.exit <| ⟨.inl rfl, (jv au v3 x10 v4 v5 v1 v6 v2).slots, (.ready, none), .normal, by kernel_rfl, rfl, ?_⟩
   refine SP.bQ <| .a 2 <| .nil ?_; exact hk7 _ _ _ _ _ _ _ (aF (mk 38 3634) [(0, true), (1, true), (7, true), (3, true), (8, true)]) h
 refine SP.exit ?_; obtain ⟨x28, hx28, h⟩ := aC h; refine SP.aqx [0] (.a 2 <| .e [.box (dc ((eL (eL aA)) v4)), .box (setAt (dc ((eL aA) v5)) 0 [.aQ 2]), .arr 45 3 (List.map aA v1), .box (setAt (dc ((eL eI) v6)) 0 [.aQ 4]), .arr 3 1 (List.map eI v2), .arr 3 1 (List.map eI x28)] (uF (dL := [.aQ 4]) (dR := [.d (.sl (List.map eI v2))]) (vH v2 x28 hx28) (fun x hx => by obtain ⟨a, _, rfl⟩ := List.mem_map.1 hx; rfl) XL ⟨⟨3, 1, List.map eI v2, by kernel_rfl, rfl⟩, trivial⟩ rfl rfl) <| .a 2 <| .nil _) ?_; rw [← aB h]; exact .ret (aP [(2, true), (5, true)])
def abU (au : (List ah)) (v1 : Int) (v2 : (List (Int × Int))) : St := ⟨bY 23 [(0, .d ((eL ak) au)), (3, .mp 0), (4, .d (eI v1))], [.map (List.map (eM (Value.int .i64) eI) v2)], 0⟩
def IZ (au : (List ah)) (k3 : (Int → (List (Int × Int)) → Option (List (Int × Int)))) : Int → (List (Int × Int)) → Option (List (Int × Int)) := fun v1 v2 => (bif decide (v1 ≥ 0) then (aY au v1).bind fun x5 => k3 (IntKind.i64.wrap (v1 - 1)) (lV v2 x5.Id v1) else some v2)
def RN (au : (List ah)) : Int → (List (Int × Int)) → Option (List (Int × Int)) := bn (IZ au) fuel
def Am (au : (List ah)) : Option (List (Int × Int)) := RN au (IntKind.i64.wrap ((au.length : Int) - 1)) []
theorem RP (au r) (h : Am au = some r) : Runs Tryz.prog 86 [.d ((eL ak) au)] [] (.mp 0) [.map (List.map (eM (Value.int .i64) eI) r)] := by
 refine Runs.aT Tryz.func86 rfl ?_; unfold Am at h; refine SP.rg <| .a 1 <| .aj <| SP.rg <| .a 1 <| .p (aV ak au fE rfl) <| .e (x := .mp 0) [.map (List.map (eM (Value.int .i64) eI) [])] (ahu (kd := .i64) (n := (au.length : Int)) Kt rfl) <| .a 1 <| .aj <| SP.aG <| SP.rg <| .a 1 <| .p (aV ak au fE rfl) <| .a 2 <| .aj <| SP.block ?_; refine SP.bn (abU au) _ _ _ _ (aF (mk 23 25) [(0, true)]) h ?_; clear h; intro J6 k3 hk3 v1 v2 h; unfold IZ at h; refine SP.aG <| SP.rg <| .a 2 <| .aj <| SP.cnd h (fun h => ?_) fun h => ?_
 · refine SP.skip <| SP.aG <| SP.block ?_; obtain ⟨x5, hx5, h⟩ := aC h; refine SP.bQ <| .a 3 <| .p (aK (k := .i64) ak hx5 fE iK (by kernel_rfl) rfl) <| .a 3 <| .e [.map (List.map (eM (Value.int .i64) eI) (lV v2 x5.Id v1))] (XI (k := 0) (key := x5.Id) (val := v1) (m := v2) eI Kt Ue (by kernel_rfl) rfl) <| .nil <| SP.bQ <| .a 3 <| .nil ?_; exact hk3 _ _ _ (aF (mk 23 25) [(0, true)]) h
 refine SP.exit <| SP.rg <| .a 2 <| .aj ?_; rw [← aB h]; exact .ret (aP [(0, true)])
def nY (aI : ah) : Option (List Int) := some aI.eF
theorem Zq (aI r) (h : nY aI = some r) : Runs Tryz.prog 88 [.d (ak aI)] [] (.d ((eL eI) r)) [] := by
 refine Runs.aT Tryz.func88 rfl ?_; unfold nY at h; refine SP.rg <| .a 2 <| .aj <| SP.rg <| .a 3 <| .aj ?_; rw [← aB h]; exact .ret (aP [])
def abV (au : (List ah)) (qI : D) (v2 : (List Int)) (v3 : (List Int)) (v4 : (List (Int × Int))) (v5 : (List (Int × Bool))) (v6 : (List (Int × Bool))) : St := ⟨bY 70 [(0, .d ((eL ak) au)), (2, .d qI), (7, .mp 0), (8, .mp 1), (9, .mp 2), (10, .aQ 3), (11, .d ((eL eI) v3))], [.map (List.map (eM (Value.int .i64) eI) v4), .map (List.map (eM (Value.int .i64) eB) v5), .map (List.map (eM (Value.int .i64) eB) v6), .arr 3 1 (List.map eI v2)], 0⟩
def abW (au : (List ah)) (qI : D) (v3 : (List Int)) (v9 : (List Int)) (v10 : (List Int)) (v11 : Int) (v12 : (List (Int × Int))) (v13 : (List (Int × Bool))) (v14 : (List (Int × Bool))) : St := ⟨bY 70 [(0, .d ((eL ak) au)), (2, .d qI), (7, .mp 0), (8, .mp 1), (9, .mp 2), (10, .aQ 3), (12, .aQ 4), (26, .d ((eL eI) v3)), (27, .d (eI (v3.length : Int))), (28, .d (eI v11))], [.map (List.map (eM (Value.int .i64) eI) v12), .map (List.map (eM (Value.int .i64) eB) v13), .map (List.map (eM (Value.int .i64) eB) v14), .arr 3 1 (List.map eI v9), .arr 3 1 (List.map eI v10)], 0⟩
def abX (au : (List ah)) (qI : D) (v3 : (List Int)) (v11 : Int) (v17 : (List Int)) (v18 : (List Int)) (v19 : (List (Int × Int))) (v20 : (List (Int × Bool))) (v21 : (List (Int × Bool))) : St := ⟨bY 70 [(0, .d ((eL ak) au)), (2, .d qI), (7, .mp 0), (8, .mp 1), (9, .mp 2), (10, .aQ 3), (12, .aQ 4), (26, .d ((eL eI) v3)), (27, .d (eI (v3.length : Int))), (28, .d (eI v11))], [.map (List.map (eM (Value.int .i64) eI) v19), .map (List.map (eM (Value.int .i64) eB) v20), .map (List.map (eM (Value.int .i64) eB) v21), .arr 3 1 (List.map eI v17), .arr 3 1 (List.map eI v18)], 0⟩
def xJ (k15 : ((List Int) → (List Int) → Int → (List (Int × Int)) → (List (Int × Bool)) → (List (Int × Bool)) → Option (List Int))) (v11 : Int) (v17 : (List Int)) (v18 : (List Int)) (v19 : (List (Int × Int))) (v20 : (List (Int × Bool))) (v21 : (List (Int × Bool))) : Option (List Int) := k15 v17 v18 (IntKind.i64.wrap (v11 + 1)) v19 v20 v21
def Dc (v3 : (List Int)) (au : (List ah)) (ug : (ah → Option (List Int))) (k7 : ((List Int) → (List Int) → (List (Int × Int)) → (List (Int × Bool)) → (List (Int × Bool)) → Option (List Int))) (k15 : ((List Int) → (List Int) → Int → (List (Int × Int)) → (List (Int × Bool)) → (List (Int × Bool)) → Option (List Int))) : (List Int) → (List Int) → Int → (List (Int × Int)) → (List (Int × Bool)) → (List (Int × Bool)) → Option (List Int) := fun v9 v10 v11 v12 v13 v14 => (bif decide (v11 < (v3.length : Int)) then (aY v3 v11).bind fun x23 => (bif (!((gy v12 x23).isSome)) then some true else some ((gy v13 x23).getD false)).bind fun x24 => (bif x24 then some true else some ((gy v14 x23).getD false)).bind fun o8 => (bif o8 then xJ k15 v11 v9 v10 v12 v13 v14 else (eP 8 v9 [x23]).bind fun x29 => (aY au ((gy v12 x23).getD 0)).bind fun x30 => (ug x30).bind fun x31 => (eP 8 v10 x31).bind fun x32 => xJ k15 v11 x29 x32 v12 (lV v13 x23 true) (lV v14 x23 true)) else k7 v9 v10 v12 v13 v14)
def RQ (v3 : (List Int)) (au : (List ah)) (ug : (ah → Option (List Int))) (k7 : ((List Int) → (List Int) → (List (Int × Int)) → (List (Int × Bool)) → (List (Int × Bool)) → Option (List Int))) : (List Int) → (List Int) → Int → (List (Int × Int)) → (List (Int × Bool)) → (List (Int × Bool)) → Option (List Int) := zf (Dc v3 au ug k7) fuel
def I4 (au : (List ah)) (ug : (ah → Option (List Int))) (k7 : ((List Int) → (List Int) → (List (Int × Int)) → (List (Int × Bool)) → (List (Int × Bool)) → Option (List Int))) : (List Int) → (List Int) → (List (Int × Int)) → (List (Int × Bool)) → (List (Int × Bool)) → Option (List Int) := fun v2 v3 v4 v5 v6 => (bif decide ((v3.length : Int) > 0) then RQ v3 au ug k7 v2 [] 0 v4 v5 [] else (qU v2).bind fun x34 => some x34)
def RS (au : (List ah)) (ug : (ah → Option (List Int))) : (List Int) → (List Int) → (List (Int × Int)) → (List (Int × Bool)) → (List (Int × Bool)) → Option (List Int) := CX (I4 au ug) fuel
def Ap (au : (List ah)) (XP : (List Int)) (ug : (ah → Option (List Int))) : Option (List Int) := (Am au).bind fun x1 => RS au ug [] XP x1 [] []
theorem abY (au : (List ah)) (XP : (List Int)) (ug : (ah → Option (List Int))) (qI : D) (amO : Fn1 Tryz.prog ak (eL eI) qI ug) (r : (List Int)) (h : Ap au XP ug = some r) : Runs Tryz.prog 87 [.d ((eL ak) au), .d ((eL eI) XP), .d qI] [] (.aQ 0) [.arr 3 1 (List.map eI r)] := by
 refine Runs.aT Tryz.func87 rfl ?_; unfold Ap at h; refine SP.rg <| .e [.arr 3 1 (List.map eI [])] (aU 3 1 rfl) <| .aj ?_; obtain ⟨x1, hx1, h⟩ := aC h; refine SP.rg <| .a 1 <| .e (x := .mp 1) [.arr 3 1 (List.map eI []), .map (List.map (eM (Value.int .i64) eI) x1)] (fO [] (dL := [.d ((eL ak) au)]) (dR := [.d ((eL ak) au)]) (res' := .mp 1) (RP au x1 hx1) ank (by kernel_rfl) trivial ⟨.inl rfl, trivial⟩ rfl (by kernel_rfl) rfl) <| .a 1 <| .aj <| SP.rg <| .e (x := .mp 2) [.arr 3 1 (List.map eI []), .map (List.map (eM (Value.int .i64) eI) x1), .map (List.map (eM (Value.int .i64) eB) [])] (Ua rfl) <| .a 1 <| .aj <| SP.rg <| .e (x := .mp 3) [.arr 3 1 (List.map eI []), .map (List.map (eM (Value.int .i64) eI) x1), .map (List.map (eM (Value.int .i64) eB) []), .map (List.map (eM (Value.int .i64) eB) [])] (Ua rfl) <| .a 1 <| .aj <| SP.rg <| .e [.arr 3 1 (List.map eI []), .map (List.map (eM (Value.int .i64) eI) x1), .map (List.map (eM (Value.int .i64) eB) []), .map (List.map (eM (Value.int .i64) eB) []), .arr 3 1 (List.map eI [])] (aU 3 1 rfl) <| .aj <| SP.rg <| .a 2 <| .aj <| SP.aG <| SP.block ?_; refine SP.CX (abV au qI) _ _ _ _ _ _ _ (aF (mk 70 3973) [(1, true), (2, true), (3, true), (4, true)]) h ?_; clear h; intro J35 k7 hk7 v2 v3 v4 v5 v6 h; unfold I4 at h; refine SP.aG <| SP.rg <| .a 1 <| .p (aV eI v3 bG rfl) <| .a 1 <| .aj <| SP.cnd h (fun h => ?_) fun h => ?_
 · refine SP.skip <| SP.block <| SP.rg <| .a 1 <| .e [.map (List.map (eM (Value.int .i64) eI) v4), .map (List.map (eM (Value.int .i64) eB) v5), .map (List.map (eM (Value.int .i64) eB) []), .arr 3 1 (List.map eI v2)] (akN (k := 2) (es0 := List.map (eM (Value.int .i64) eB) v6) VK (by kernel_rfl) rfl) <| .aj <| SP.rg <| .e [.map (List.map (eM (Value.int .i64) eI) v4), .map (List.map (eM (Value.int .i64) eB) v5), .map (List.map (eM (Value.int .i64) eB) []), .arr 3 1 (List.map eI v2), .arr 3 1 (List.map eI [])] (aU 3 1 rfl) <| .aj <| SP.aG <| SP.rg <| .a 1 <| .p (aV eI v3 bG rfl) <| .a 1 <| .aj <| SP.block ?_; refine SP.zf (abW au qI v3) _ _ _ _ _ _ _ _ (aF (mk 70 469768069) [(0, true), (1, true), (2, true), (3, true), (4, true)]) h ?_; clear h; intro J33 k15 amP v9 v10 v11 v12 v13 v14 h; unfold Dc at h; refine SP.rg <| .a 1 <| .aj <| SP.aG <| SP.cnd h (fun h => ?_) fun h => ?_
   · refine SP.skip ?_; refine SP.join (fun s => ∃ (v17 : (List Int)) (v18 : (List Int)) (v19 : (List (Int × Int))) (v20 : (List (Int × Bool))) (v21 : (List (Int × Bool))), Sub s (abX au qI v3 v11 v17 v18 v19 v20 v21) ∧ xJ k15 v11 v17 v18 v19 v20 v21 = some r) ?_ ?_
     · clear h; rintro s ⟨v17, v18, v19, v20, v21, hs, h⟩; refine SP.sub hs ?_; clear hs; unfold xJ at h; refine SP.bQ <| .a 2 <| .nil ?_; exact amP _ _ _ _ _ _ _ (aF (mk 70 469768069) [(0, true), (1, true), (2, true), (3, true), (4, true)]) h
     intro K22; refine SP.block ?_; obtain ⟨x23, DT, h⟩ := aC h; refine SP.rg <| .p (aK (k := .i64) eI DT bG fJ (by kernel_rfl) rfl) <| .a 2 <| .aj <| SP.rg <| .a 2 <| .p (x := .fG [.d (eI ((gy v12 x23).getD 0)), .d (eB ((gy v12 x23).isSome))]) (afa (k := 0) (key := x23) (m := v12) eI 0 Kt Ue zero3 (by kernel_rfl) (by kernel_rfl) (by kernel_rfl) rfl) <| .a 5 <| .aj <| SP.aG <| SP.rg <| .a 2 <| ?_; obtain ⟨x24, hx24, h⟩ := aC h; refine .merge 5 [40, 41, 42, 43] 44 (.d (eB x24)) ?_ ?_
     · rcases dn hx24 with ⟨FH, h⟩ | ⟨FH, h⟩
       · refine .c (congrArg some FH) <| .a 4 <| .aj ?_; obtain rfl := aB h; kernel_rfl
       refine .c (congrArg some FH) <| .a 2 <| .p (x := .d (eB ((gy v13 x23).getD false))) (abN (k := 1) (key := x23) (m := v13) eB false VK Ue ajD (by kernel_rfl) (by kernel_rfl) (by kernel_rfl) rfl) <| .a 1 <| .aj ?_; obtain rfl := aB h; kernel_rfl
     refine .a 1 <| ?_; obtain ⟨o8, AL, h⟩ := aC h; refine .merge 4 [46, 47, 48] 49 (.d (eB o8)) ?_ ?_
     · replace h := AL; cases x24 with
       | true =>
         replace h := bI rfl h; refine .a 4 <| .aj ?_; obtain rfl := aB h; kernel_rfl
       | false =>
         replace h := bC rfl h; refine .a 2 <| .p (x := .d (eB ((gy v14 x23).getD false))) (abN (k := 2) (key := x23) (m := v14) eB false VK Ue ajD (by kernel_rfl) (by kernel_rfl) (by kernel_rfl) rfl) <| .a 1 <| .aj ?_; obtain rfl := aB h; kernel_rfl
     refine .aj <| SP.cnd h (fun h => ?_) fun h => ?_
     · exact SP.exit <| K22 _ ⟨v9, v10, v12, v13, v14, aF (mk 70 469768069) [(0, true), (1, true), (2, true), (3, true), (4, true)], h⟩
     refine SP.skip <| SP.rg <| .a 2 <| .e [.map (List.map (eM (Value.int .i64) eI) v12), .map (List.map (eM (Value.int .i64) eB) v13), .map (List.map (eM (Value.int .i64) eB) (lV v14 x23 true)), .arr 3 1 (List.map eI v9), .arr 3 1 (List.map eI v10)] (XI (k := 2) (key := x23) (val := true) (m := v14) eB VK Ue (by kernel_rfl) rfl) <| .aj <| SP.rg <| .a 2 <| .e [.map (List.map (eM (Value.int .i64) eI) v12), .map (List.map (eM (Value.int .i64) eB) (lV v13 x23 true)), .map (List.map (eM (Value.int .i64) eB) (lV v14 x23 true)), .arr 3 1 (List.map eI v9), .arr 3 1 (List.map eI v10)] (XI (k := 1) (key := x23) (val := true) (m := v13) eB VK Ue (by kernel_rfl) rfl) <| .aj ?_; obtain ⟨x29, hx29, h⟩ := aC h; refine SP.rg <| .a 2 <| .p (dB eH zero3 (by kernel_rfl) (by kernel_rfl) (Nat.le_of_ble_eq_true (by kernel_rfl)) [.d (eI x23)] [eI x23] (by kernel_rfl) (by kernel_rfl) (by kernel_rfl) (by kernel_rfl) rfl) <| .e [.map (List.map (eM (Value.int .i64) eI) v12), .map (List.map (eM (Value.int .i64) eB) (lV v13 x23 true)), .map (List.map (eM (Value.int .i64) eB) (lV v14 x23 true)), .dead, .arr 3 1 (List.map eI v10), .arr 3 1 (List.map eI x29)] (dO (k := 3) eI hx29 eH (by kernel_rfl) (fun _ => rfl) (by decide) rfl) <| .a 1 <| .aj ?_; obtain ⟨x30, ajQ, x31, hx31, x32, hx32, h⟩ := jk h; exact SP.bQ <| .a 4 <| .p (aK (k := .i64) ak ajQ fE iK (by kernel_rfl) rfl) <| .a 1 <| .p (Rw (d := qI) (amO : Fn1 Tryz.prog ak (eL eI) qI ug) hx31 rfl) <| .e [.map (List.map (eM (Value.int .i64) eI) v12), .map (List.map (eM (Value.int .i64) eB) (lV v13 x23 true)), .map (List.map (eM (Value.int .i64) eB) (lV v14 x23 true)), .dead, .dead, .arr 3 1 (List.map eI x29), .arr 3 1 (List.map eI x32)] (dO (k := 4) eI hx32 eH (by kernel_rfl) (fun _ => rfl) (by decide) rfl) <| .a 1 <| .nil <| K22 _ ⟨x29, x32, v12, (lV v13 x23 true), (lV v14 x23 true), aF (mk 70 469768069) [(0, true), (1, true), (2, true), (5, true), (6, true)], h⟩
   refine SP.exit <| SP.bQ <| .a 2 <| .nil ?_; exact hk7 _ v9 v10 v12 v13 v14 (alV _ ((jH (e := 3) (s := 1) 4 (xs := List.map eI v10) (by kernel_rfl))) (aF (mk 70 3973) [(0, true), (1, true), (2, true), (3, true)])) h
 refine SP.exit ?_; obtain ⟨x34, hx34, h⟩ := aC h; refine SP.rg <| .a 1 <| .e [.map (List.map (eM (Value.int .i64) eI) v4), .map (List.map (eM (Value.int .i64) eB) v5), .map (List.map (eM (Value.int .i64) eB) v6), .arr 3 1 (List.map eI v2), .arr 3 1 (List.map eI x34)] (uF (dL := [.aQ 3]) (dR := [.d (.sl (List.map eI v2))]) (vH v2 x34 hx34) (fun x hx => by obtain ⟨a, _, rfl⟩ := List.mem_map.1 hx; rfl) XL ⟨⟨3, 1, List.map eI v2, by kernel_rfl, rfl⟩, trivial⟩ rfl rfl) <| .a 1 <| .aj ?_; rw [← aB h]; exact .ret (aP [(4, true)])
def abZ (au : (List ah)) (aZ : (List Int)) (x1 : (List (Int × Int))) (v2 : (List Int)) (v3 : Int) : St := ⟨bY 37 [(0, .d ((eL ak) au)), (5, .mp 0), (6, .aQ 1), (13, .d ((eL eI) aZ)), (14, .d (eI (aZ.length : Int))), (15, .d (eI v3))], [.map (List.map (eM (Value.int .i64) eI) x1), .arr 3 1 (List.map eI v2)], 0⟩
def ab1 (au : (List ah)) (aZ : (List Int)) (v3 : Int) (x1 : (List (Int × Int))) (v6 : (List Int)) : St := ⟨bY 37 [(0, .d ((eL ak) au)), (5, .mp 0), (6, .aQ 1), (13, .d ((eL eI) aZ)), (14, .d (eI (aZ.length : Int))), (15, .d (eI v3))], [.map (List.map (eM (Value.int .i64) eI) x1), .arr 3 1 (List.map eI v6)], 0⟩
def xK (k4 : ((List Int) → Int → Option (List Int))) (v3 : Int) (v6 : (List Int)) : Option (List Int) := k4 v6 (IntKind.i64.wrap (v3 + 1))
def Df (aZ : (List Int)) (x1 : (List (Int × Int))) (au : (List ah)) (k4 : ((List Int) → Int → Option (List Int))) : (List Int) → Int → Option (List Int) := fun v2 v3 => (bif decide (v3 < (aZ.length : Int)) then (aY aZ v3).bind fun x8 => (bif (gy x1 x8).isSome then (aY au ((gy x1 x8).getD 0)).bind fun x10 => (eP 8 v2 x10.eF).bind fun x11 => xK k4 v3 x11 else xK k4 v3 v2) else (Ap au v2 (fun a0 => nY a0)).bind fun x12 => some x12)
def RU (aZ : (List Int)) (x1 : (List (Int × Int))) (au : (List ah)) : (List Int) → Int → Option (List Int) := bn (Df aZ x1 au) fuel
def qV (au : (List ah)) (aZ : (List Int)) : Option (List Int) := (Am au).bind fun x1 => RU aZ x1 au [] 0
theorem I5 (au aZ r) (h : qV au aZ = some r) : Runs Tryz.prog 64 [.d ((eL ak) au), .d ((eL eI) aZ)] [] (.aQ 0) [.arr 3 1 (List.map eI r)] := by
 refine Runs.aT Tryz.func64 rfl ?_; unfold qV at h; refine SP.rg <| .e [.arr 3 1 (List.map eI [])] (aU 3 1 rfl) <| .aj ?_; obtain ⟨x1, hx1, h⟩ := aC h; refine SP.rg <| .a 1 <| .e (x := .mp 1) [.arr 3 1 (List.map eI []), .map (List.map (eM (Value.int .i64) eI) x1)] (fO [] (dL := [.d ((eL ak) au)]) (dR := [.d ((eL ak) au)]) (res' := .mp 1) (RP au x1 hx1) ank (by kernel_rfl) trivial ⟨.inl rfl, trivial⟩ rfl (by kernel_rfl) rfl) <| .a 1 <| .aj <| SP.rg <| .e [.arr 3 1 (List.map eI []), .map (List.map (eM (Value.int .i64) eI) x1), .arr 3 1 (List.map eI [])] (aU 3 1 rfl) <| .aj <| SP.aG <| SP.rg <| .a 1 <| .p (aV eI aZ bG rfl) <| .a 1 <| .aj <| SP.block ?_; refine SP.bn (abZ au aZ x1) _ _ _ _ (aF (mk 37 57441) [(1, true), (2, true)]) h ?_; clear h; intro J13 k4 hk4 v2 v3 h; unfold Df at h; refine SP.rg <| .a 1 <| .aj <| SP.aG <| SP.cnd h (fun h => ?_) fun h => ?_
 · refine SP.skip ?_; refine SP.join (fun s => ∃ (v6 : (List Int)), Sub s (ab1 au aZ v3 x1 v6) ∧ xK k4 v3 v6 = some r) ?_ ?_
   · clear h; rintro s ⟨v6, hs, h⟩; refine SP.sub hs ?_; clear hs; unfold xK at h; refine SP.bQ <| .a 2 <| .nil ?_; exact hk4 _ _ _ (aF (mk 37 57441) [(0, true), (1, true)]) h
   intro K7; refine SP.block ?_; obtain ⟨x8, gJ, h⟩ := aC h; refine SP.rg <| .p (aK (k := .i64) eI gJ bG fJ (by kernel_rfl) rfl) <| .a 2 <| .aj <| SP.rg <| .a 2 <| .p (x := .fG [.d (eI ((gy x1 x8).getD 0)), .d (eB ((gy x1 x8).isSome))]) (afa (k := 0) (key := x8) (m := x1) eI 0 Kt Ue zero3 (by kernel_rfl) (by kernel_rfl) (by kernel_rfl) rfl) <| .a 5 <| .aj <| SP.rg <| .a 1 <| .aj <| SP.cnd h (fun h => ?_) fun h => ?_
   · obtain ⟨x10, jq, x11, fC, h⟩ := aX h; exact SP.bQ <| .a 3 <| .p (aK (k := .i64) ak jq fE iK (by kernel_rfl) rfl) <| .a 2 <| .e [.map (List.map (eM (Value.int .i64) eI) x1), .dead, .arr 3 1 (List.map eI x11)] (dO (k := 1) eI fC eH (by kernel_rfl) (fun _ => rfl) (by decide) rfl) <| .a 1 <| .nil <| K7 _ ⟨x11, aF (mk 37 57441) [(0, true), (2, true)], h⟩
   exact SP.skip <| K7 _ ⟨v2, aF (mk 37 57441) [(0, true), (1, true)], h⟩
 refine SP.exit ?_; obtain ⟨x12, iH, h⟩ := aC h; refine SP.rg <| .a 2 <| .e [.map (List.map (eM (Value.int .i64) eI) x1), .arr 3 1 (List.map eI v2), .arr 3 1 (List.map eI x12)] (uF (dL := [.d ((eL ak) au), .aQ 1, .d (.fn (.func 88) [] [])]) (dR := [.d ((eL ak) au), .d (.sl (List.map eI v2)), .d (.fn (.func 88) [] [])]) (abY au v2 (fun a0 => nY a0) (.fn (.func 88) [] []) ⟨88, [], rfl, aqP, fun a0 b hb => Zq a0 b hb⟩ x12 iH) (fun x hx => by obtain ⟨a, _, rfl⟩ := List.mem_map.1 hx; rfl) aqO ⟨rfl, ⟨3, 1, List.map eI v2, by kernel_rfl, rfl⟩, rfl, trivial⟩ rfl rfl) <| .a 1 <| .aj ?_; rw [← aB h]; exact .ret (aP [(2, true)])
def Va (au : (List ah)) (dA : (List ay)) (v2 : (List Int)) (v3 : Int) : St := ⟨bY 38 [(0, .d ((eL ak) au)), (5, .aQ 0), (12, .d ((eL aA) dA)), (13, .d (eI (dA.length : Int))), (14, .d (eI v3))], [.arr 3 1 (List.map eI v2)], 0⟩
def vw (dA : (List ay)) (au : (List ah)) (k4 : ((List Int) → Int → Option (List Int))) : (List Int) → Int → Option (List Int) := fun v2 v3 => (bif decide (v3 < (dA.length : Int)) then (aY dA v3).bind fun x6 => (eP 8 v2 [x6.Id]).bind fun x7 => k4 x7 (IntKind.i64.wrap (v3 + 1)) else (qV au v2).bind fun x8 => (eP 8 v2 x8).bind fun x9 => (gG x9).bind fun x10 => (iO x10).bind fun x11 => some x11)
def IK (dA : (List ay)) (au : (List ah)) : (List Int) → Int → Option (List Int) := bn (vw dA au) fuel
def uK (au : (List ah)) (dA : (List ay)) : Option (List Int) := (wP 8 0 0 (dA.length : Int)).bind fun x1 => IK dA au x1 0
theorem Vb (au dA r) (h : uK au dA = some r) : Runs Tryz.prog 82 [.d ((eL ak) au), .d ((eL aA) dA)] [] (.aQ 0) [.arr 3 1 (List.map eI r)] := by
 refine Runs.aT Tryz.func82 rfl ?_; unfold uK at h; refine SP.rg <| .e [.arr 3 1 (List.map eI [])] (aU 3 1 rfl) <| .aj ?_; obtain ⟨x1, hx1, h⟩ := aC h; refine SP.rg <| .a 1 <| .p (aV aA dA fF rfl) <| .e [.arr 3 1 (List.map eI []), .arr 3 1 (List.map eI x1)] (XD eI 0 hx1 eH zero3 (by kernel_rfl) (by kernel_rfl) (by kernel_rfl) (by decide) rfl) <| .a 1 <| .aj <| SP.aG <| SP.rg <| .a 1 <| .p (aV aA dA fF rfl) <| .a 1 <| .aj <| SP.block ?_; refine SP.bn (Va au dA) _ _ _ _ (aF (mk 38 28705) [(1, true)]) h ?_; clear h; intro J12 k4 hk4 v2 v3 h; unfold vw at h; refine SP.rg <| .a 1 <| .aj <| SP.aG <| SP.cnd h (fun h => ?_) fun h => ?_
 · refine SP.skip <| SP.aG <| SP.block ?_; obtain ⟨x6, hx6, h⟩ := aC h; refine SP.rg <| .p (aK (k := .i64) aA hx6 fF iy (by kernel_rfl) rfl) <| .a 3 <| .aj ?_; obtain ⟨x7, hx7, h⟩ := aC h; refine SP.bQ <| .a 3 <| .p (dB eH zero3 (by kernel_rfl) (by kernel_rfl) (Nat.le_of_ble_eq_true (by kernel_rfl)) [.d (eI x6.Id)] [eI x6.Id] (by kernel_rfl) (by kernel_rfl) (by kernel_rfl) (by kernel_rfl) rfl) <| .e [.dead, .box (dc (aA x6)), .arr 3 1 (List.map eI x7)] (dO (k := 0) eI hx7 eH (by kernel_rfl) (fun _ => rfl) (by decide) rfl) <| .a 1 <| .nil <| SP.bQ <| .a 2 <| .nil ?_; exact hk4 _ _ _ (aF (mk 38 28705) [(2, true)]) h
 refine SP.exit ?_; obtain ⟨x8, gJ, x9, fK, h⟩ := aX h; refine SP.qp (by kernel_rfl) (by kernel_rfl) (by kernel_rfl) (.a 2 <| .p (oG (k := 0) (e' := 3) (s := 1) eI v2 (by kernel_rfl) bG rfl) <| .a 1 <| .p (oG (k := 0) (e' := 3) (s := 1) eI v2 (by kernel_rfl) bG rfl) <| .p (aiX (e' := 3) (s := 1) (k := 0) (xs := List.map eI v2) (h := (v2.length : Int)) (by rw [List.length_map]) (by kernel_rfl) bG fJ rfl) <| .a 2 <| .p (Ub (dL := [.d ((eL ak) au), .aQ 0]) (dR := [.d ((eL ak) au), .d (.sl (List.map eI v2))]) (I5 au v2 x8 gJ) (fun x hx => by obtain ⟨a, _, rfl⟩ := List.mem_map.1 hx; rfl) ajE ⟨rfl, ⟨3, 1, List.map eI v2, by kernel_rfl, rfl⟩, trivial⟩ rfl rfl) <| .e [.dead, .arr 3 1 (List.map eI x9)] (aiY (k := 0) eI fK eH (by kernel_rfl) (fun _ => rfl) (by decide) rfl) <| .a 1 <| .nil _) ?_; obtain ⟨x10, jq, h⟩ := aC h; refine SP.rg <| .a 1 <| .e (x := .fG []) [.dead, .arr 3 1 (List.map eI x10)] (fO [.ent 1] (dL := [.aQ 1]) (dR := [.aQ 0]) (res' := .fG []) (rP x9 x10 jq) aez (by kernel_rfl) (jf (by kernel_rfl) <| trivial) ⟨⟨0, rfl, rfl⟩, trivial⟩ rfl (by kernel_rfl) rfl) <| .aj ?_; obtain ⟨x11, fC, h⟩ := aC h; refine SP.rg <| .a 1 <| .e (x := .aQ 2) [.dead, .dead, .arr 3 1 (List.map eI x11)] (fO [.ent 1] (dL := [.aQ 1]) (dR := [.aQ 0]) (res' := .aQ 2) (uD x10 x11 fC) ajC (by kernel_rfl) (jf (by kernel_rfl) <| trivial) ⟨⟨0, rfl, rfl⟩, trivial⟩ rfl (by kernel_rfl) rfl) <| .a 1 <| .aj ?_; rw [← aB h]; exact .ret (aP [(2, true)])
def QL (au : (List ah)) (aO : (List (List ay))) (v1 : Int) (v2 : (List (Int × Int))) : St := ⟨bY 55 [(0, .d ((eL ak) au)), (1, .d ((eL (eL aA)) aO)), (5, .mp 0), (14, .d ((eL (eL aA)) aO)), (15, .d (eI (aO.length : Int))), (16, .d (eI v1))], [.map (List.map (eM (Value.int .i64) eI) v2)], 0⟩
def QM (au : (List ah)) (aO : (List (List ay))) (v1 : Int) (x6 : (List Int)) (v7 : Int) (v8 : (List (Int × Int))) : St := ⟨bY 55 [(0, .d ((eL ak) au)), (1, .d ((eL (eL aA)) aO)), (5, .mp 0), (14, .d ((eL (eL aA)) aO)), (15, .d (eI (aO.length : Int))), (16, .d (eI v1)), (22, .d ((eL eI) x6)), (23, .d (eI (x6.length : Int))), (24, .d (eI v7))], [.map (List.map (eM (Value.int .i64) eI) v8)], 0⟩
def QN (aO : (List (List ay))) (v2 : (List (Int × Int))) (XQ : List Nat) (v14 : (List Int)) : St := ⟨bY 55 [(1, .d ((eL (eL aA)) aO)), (10, .aQ 0), (38, .ptr 1 0)], [.arr 3 1 (List.map eI v14), .iter (List.map (eM (Value.int .i64) eI) v2) XQ], 0⟩
def qW (x6 : (List Int)) (k3 : (Int → (List (Int × Int)) → Option (List Int))) (v1 : Int) (k9 : (Int → (List (Int × Int)) → Option (List Int))) : Int → (List (Int × Int)) → Option (List Int) := fun v7 v8 => (bif decide (v7 < (x6.length : Int)) then (aY x6 v7).bind fun x11 => k9 (IntKind.i64.wrap (v7 + 1)) (lV v8 x11 (IntKind.i64.wrap (((gy v8 x11).getD 0) + 1))) else k3 (IntKind.i64.wrap (v1 + 1)) v8)
def Ec (x6 : (List Int)) (k3 : (Int → (List (Int × Int)) → Option (List Int))) (v1 : Int) : Int → (List (Int × Int)) → Option (List Int) := bn (qW x6 k3 v1) fuel
def ig (aO : (List (List ay))) (v14 : (List Int)) (p16 : (Int × Int)) : Option (List Int) := (bif decide (p16.2 < (aO.length : Int)) then (eP 8 v14 [p16.1]).bind fun x20 => some x20 else some v14)
def kX  (v14 : (List Int)) : Option (List Int) := (gG v14).bind fun x18 => some x18
def qX (aO : (List (List ay))) (au : (List ah)) (k3 : (Int → (List (Int × Int)) → Option (List Int))) : Int → (List (Int × Int)) → Option (List Int) := fun v1 v2 => (bif decide (v1 < (aO.length : Int)) then (aY aO v1).bind fun x5 => (uK au x5).bind fun x6 => Ec x6 k3 v1 0 v2 else (wP 8 0 0 (v2.length : Int)).bind fun fQ => (List.foldlM (ig aO) fQ v2).bind kX)
def Ed (aO : (List (List ay))) (au : (List ah)) : Int → (List (Int × Int)) → Option (List Int) := bn (qX aO au) fuel
def qB (au : (List ah)) (aO : (List (List ay))) : Option (List Int) := Ed aO au 0 []
theorem QO (au aO r) (h : qB au aO = some r) : Runs Tryz.prog 59 [.d ((eL ak) au), .d ((eL (eL aA)) aO)] [] (.aQ 0) [.arr 3 1 (List.map eI r)] := by
 refine Runs.aT Tryz.func59 rfl ?_; unfold qB at h; refine SP.rg <| .e [.arr 3 1 (List.map eI [])] (aU 3 1 rfl) <| .aj <| SP.rg <| .e (x := .mp 1) [.arr 3 1 (List.map eI []), .map (List.map (eM (Value.int .i64) eI) [])] (Ua rfl) <| .a 1 <| .aj <| SP.aG <| SP.rg <| .a 1 <| .p (aV (eL aA) aO kV rfl) <| .a 1 <| .aj <| SP.block ?_; refine SP.bn (QL au aO) _ _ _ _ (aF (mk 55 114723) [(1, true)]) h ?_; clear h; intro J22 k3 hk3 v1 v2 h; unfold qX at h; refine SP.rg <| .a 1 <| .aj <| SP.aG <| SP.cnd h (fun h => ?_) fun h => ?_
 · refine SP.skip <| SP.aG <| SP.block ?_; obtain ⟨x5, hx5, h⟩ := aC h; refine SP.rg <| .p (aK (k := .i64) (eL aA) hx5 kV DR (by kernel_rfl) rfl) <| .a 2 <| .aj ?_; obtain ⟨x6, hx6, h⟩ := aC h; refine SP.rg <| .a 2 <| .call (Vb au x5 x6 hx6).view aqQ <| .p (aV eI x6 bG rfl) <| .a 1 <| .aj <| SP.block ?_; refine SP.bn (QM au aO v1 x6) _ _ _ _ (aF (mk 55 29474851) [(0, true)]) h ?_; clear h; intro J12 k9 hk9 v7 v8 h; unfold qW at h; refine SP.rg <| .a 1 <| .aj <| SP.aG <| SP.cnd h (fun h => ?_) fun h => ?_
   · refine SP.skip <| SP.aG <| SP.block ?_; obtain ⟨x11, fC, h⟩ := aC h; refine SP.rg <| .p (aK (k := .i64) eI fC bG fJ (by kernel_rfl) rfl) <| .a 2 <| .aj <| SP.bQ <| .a 2 <| .p (x := .d (eI ((gy v8 x11).getD 0))) (abN (k := 0) (key := x11) (m := v8) eI 0 Kt Ue zero3 (by kernel_rfl) (by kernel_rfl) (by kernel_rfl) rfl) <| .a 1 <| .e [.map (List.map (eM (Value.int .i64) eI) (lV v8 x11 (IntKind.i64.wrap (((gy v8 x11).getD 0) + 1))))] (XI (k := 0) (key := x11) (val := (IntKind.i64.wrap (((gy v8 x11).getD 0) + 1))) (m := v8) eI Kt Ue (by kernel_rfl) rfl) <| .nil <| SP.bQ <| .a 2 <| .nil ?_; exact hk9 _ _ _ (aF (mk 55 29474851) [(0, true)]) h
   refine SP.exit <| SP.bQ <| .a 2 <| .nil ?_; exact hk3 _ _ _ (aF (mk 55 114723) [(0, true)]) h
 refine SP.exit ?_; obtain ⟨fQ, mY, h⟩ := aC h; refine SP.rg <| .a 1 <| .p (x := .d (eI (v2.length : Int))) (an1 (k := 0) (es0 := List.map (eM (Value.int .i64) eI) v2) (List.length_map ..) Kt (by kernel_rfl) rfl) <| .e [.map (List.map (eM (Value.int .i64) eI) v2), .arr 3 1 (List.map eI fQ)] (XD eI 0 mY eH zero3 (by kernel_rfl) (by kernel_rfl) (by kernel_rfl) (by decide) rfl) <| .a 1 <| .aj <| SP.aG <| SP.rg <| .a 1 <| .e (x := .ptr 2 0) [.dead, .arr 3 1 (List.map eI fQ), .iter (List.map (eM (Value.int .i64) eI) v2) []] (aml (k := 0) (m := List.map (eM (Value.int .i64) eI) v2) Kt (by kernel_rfl) rfl) <| .aj <| SP.block <| SP.an4 (QN aO v2) v2 (ig aO) kX r fQ (aF (mk 55 274877907970) [(1, true), (2, true)]) ?_ ?_
 · intro vis hnd hin; exact afk (ams _ vis hnd hin) (fun x y hxy => by unfold kX; rw [Zh hxy]) h
 clear h; intro J XQ v14 hend hstep; refine SP.rg <| ?_; refine LP.next (ty := false) (ek := (Value.int .i64)) (ev := eI) 1 v2 XQ (by kernel_rfl) rfl (by kernel_rfl) (by kernel_rfl) ?_ ?_
 · intro hc; have h := hend hc; unfold kX at h; refine .a 1 <| .aj <| SP.aG <| SP.MZ (by kernel_rfl) <| SP.exit ?_; obtain ⟨x18, kQ, h⟩ := aC h; refine SP.rg <| .a 1 <| .e (x := .fG []) [.arr 3 1 (List.map eI x18), .iter (List.map (eM (Value.int .i64) eI) v2) XQ] (fO [.ent 0] (dL := [.aQ 0]) (dR := [.aQ 0]) (res' := .fG []) (rP v14 x18 kQ) aez (by kernel_rfl) (jf (by kernel_rfl) <| trivial) ⟨⟨0, rfl, rfl⟩, trivial⟩ rfl (by kernel_rfl) rfl) <| .aj <| SP.rg <| .a 2 <| .aj ?_; rw [← aB h]; exact .ret (aP [(0, true)])
 intro i17 p16 hp hi; obtain ⟨r, h, hJ⟩ := hstep i17 p16 hp hi; unfold ig at h; refine .a 1 <| .aj <| SP.aG <| SP.TJ (by kernel_rfl) <| SP.skip <| SP.block <| SP.rg <| .p (x := .fG [.d (eI p16.1), .d (eI p16.2)]) (amm (n := 1) (i := i17) (ek := (Value.int .i64)) (ev := eI) (m := v2) (vis := XQ) hp (by kernel_rfl) rfl) <| .a 4 <| .aj <| SP.rg <| .a 2 <| .p (aV (eL aA) aO kV rfl) <| .a 1 <| .aj <| SP.cnd h (fun h => ?_) fun h => ?_
 · obtain ⟨x20, qH, h⟩ := aC h; refine SP.bQ <| .a 2 <| .p (dB eH zero3 (by kernel_rfl) (by kernel_rfl) (Nat.le_of_ble_eq_true (by kernel_rfl)) [.d (eI p16.1)] [eI p16.1] (by kernel_rfl) (by kernel_rfl) (by kernel_rfl) (by kernel_rfl) rfl) <| .e [.dead, .iter (List.map (eM (Value.int .i64) eI) v2) (XQ ++ [i17]), .arr 3 1 (List.map eI x20)] (dO (k := 0) eI qH eH (by kernel_rfl) (fun _ => rfl) (by decide) rfl) <| .a 1 <| .nil ?_; obtain rfl := aB h; exact hJ _ (aF (mk 55 274877907970) [(2, true), (1, true)])
 refine SP.skip ?_; obtain rfl := aB h; exact hJ _ (aF (mk 55 274877907970) [(0, true), (1, true)])
def zW (au : (List ah)) (aO : (List (List ay))) : Option (List Int) := (uf aO).bind fun x1 => (qB au aO).bind fun x2 => (eP 8 x1.2 x2).bind fun x3 => (gG x3).bind fun x4 => (iO x4).bind fun x5 => some x5
theorem Zr (au aO r) (h : zW au aO = some r) : Runs Tryz.prog 40 [.d ((eL ak) au), .d ((eL (eL aA)) aO)] [] (.aQ 0) [.arr 3 1 (List.map eI r)] := by
 refine Runs.aT Tryz.func40 rfl ?_; unfold zW at h; refine SP.rg <| .e [.arr 3 1 (List.map eI [])] (aU 3 1 rfl) <| .aj ?_; obtain ⟨x1, hx1, h⟩ := aC h; refine SP.rg <| .a 1 <| .e (x := .fG [.aQ 1, .aQ 2]) [.arr 3 1 (List.map eI []), .arr 45 3 (List.map aA x1.1), .arr 3 1 (List.map eI x1.2)] (fO [] (dL := [.d ((eL (eL aA)) aO)]) (dR := [.d ((eL (eL aA)) aO)]) (res' := .fG [.aQ 1, .aQ 2]) (MI aO x1 hx1) anl (by kernel_rfl) trivial ⟨.inl rfl, trivial⟩ rfl (by kernel_rfl) rfl) <| .a 2 <| .conv _ (jH (e := 45) (s := 3) 1 (xs := List.map aA x1.1) (by kernel_rfl)) <| .a 3 <| .aj ?_; obtain ⟨x2, hx2, x3, hx3, h⟩ := aX h; refine SP.qp (by kernel_rfl) (by kernel_rfl) (by kernel_rfl) (.a 2 <| .p (oG (k := 2) (e' := 3) (s := 1) eI x1.2 (by kernel_rfl) bG rfl) <| .a 1 <| .p (oG (k := 2) (e' := 3) (s := 1) eI x1.2 (by kernel_rfl) bG rfl) <| .p (aiX (e' := 3) (s := 1) (k := 2) (xs := List.map eI x1.2) (h := (x1.2.length : Int)) (by rw [List.length_map]) (by kernel_rfl) bG fJ rfl) <| .a 2 <| .call (QO au aO x2 hx2).view aqR <| .e [.arr 3 1 (List.map eI []), .dead, .dead, .arr 3 1 (List.map eI x3)] (aiY (k := 2) eI hx3 eH (by kernel_rfl) (fun _ => rfl) (by decide) rfl) <| .a 1 <| .nil _) ?_; obtain ⟨x4, hx4, h⟩ := aC h; refine SP.rg <| .a 1 <| .e (x := .fG []) [.arr 3 1 (List.map eI []), .dead, .dead, .arr 3 1 (List.map eI x4)] (fO [.ent 3] (dL := [.aQ 3]) (dR := [.aQ 0]) (res' := .fG []) (rP x3 x4 hx4) aez (by kernel_rfl) (jf (by kernel_rfl) <| trivial) ⟨⟨0, rfl, rfl⟩, trivial⟩ rfl (by kernel_rfl) rfl) <| .aj ?_; obtain ⟨x5, hx5, h⟩ := aC h; refine SP.rg <| .a 1 <| .e (x := .aQ 4) [.arr 3 1 (List.map eI []), .dead, .dead, .dead, .arr 3 1 (List.map eI x5)] (fO [.ent 3] (dL := [.aQ 3]) (dR := [.aQ 0]) (res' := .aQ 4) (uD x4 x5 hx5) ajC (by kernel_rfl) (jf (by kernel_rfl) <| trivial) ⟨⟨0, rfl, rfl⟩, trivial⟩ rfl (by kernel_rfl) rfl) <| .a 1 <| .aj ?_; rw [← aB h]; exact .ret (aP [(4, true)])
def BJ (aJ : (List ah)) (Uj : D) (v1 : Int) : St := ⟨bY 19 [(0, .d ((eL ak) aJ)), (1, .d Uj), (7, .d (eI (aJ.length : Int))), (8, .d (eI v1))], [], 0⟩
def jJ (aJ : (List ah)) (Uk : (ah → Option Bool)) (k2 : (Int → Option Int)) : Int → Option Int := fun v1 => (bif decide (v1 < (aJ.length : Int)) then (aY aJ v1).bind fun x4 => (Uk x4).bind fun x5 => (bif x5 then some v1 else k2 (IntKind.i64.wrap (v1 + 1))) else some (-1))
def rC (aJ : (List ah)) (Uk : (ah → Option Bool)) : Int → Option Int := bM (jJ aJ Uk) fuel
def gK (aJ : (List ah)) (Uk : (ah → Option Bool)) : Option Int := rC aJ Uk 0
theorem lX (aJ : (List ah)) (Uk : (ah → Option Bool)) (Uj : D) (arx : Fn1 Tryz.prog ak eB Uj Uk) (r : Int) (h : gK aJ Uk = some r) : Runs Tryz.prog 124 [.d ((eL ak) aJ), .d Uj] [] (.d (eI r)) [] := by
 refine Runs.aT Tryz.func124 rfl ?_; unfold gK at h; refine SP.rg <| .a 1 <| .aj <| SP.aG <| SP.rg <| .a 1 <| .p (aV ak aJ fE rfl) <| .a 1 <| .aj <| SP.block ?_; refine SP.bM (BJ aJ Uj) _ _ _ (aF (mk 19 387) []) h ?_; clear h; intro J7 k2 hk2 v1 h; unfold jJ at h; refine SP.rg <| .a 1 <| .aj <| SP.aG <| SP.cnd h (fun h => ?_) fun h => ?_
 · refine SP.skip <| SP.aG <| SP.block <| SP.rg <| .a 2 <| .aj ?_; obtain ⟨x4, hx4, x5, hx5, h⟩ := aX h; refine SP.rg <| .a 3 <| .p (aK (k := .i64) ak hx4 fE iK (by kernel_rfl) rfl) <| .a 1 <| .p (Rw (d := Uj) (arx : Fn1 Tryz.prog ak eB Uj Uk) hx5 rfl) <| .aj <| SP.cnd h (fun h => ?_) fun h => ?_
   · refine SP.rg <| .a 2 <| .aj ?_; rw [← aB h]; exact .ret (aP [])
   refine SP.skip <| SP.bQ <| .a 2 <| .nil ?_; exact hk2 _ _ (aF (mk 19 387) []) h
 refine SP.exit <| SP.rg <| .a 1 <| .aj ?_; rw [← aB h]; exact .ret (aP [])
def zX (aI : ah) (c0 : Int) : Option Bool := some (aI.Id == c0)
theorem Zt (aI c0 r) (h : zX aI c0 = some r) : Runs Tryz.prog 125 [.d (ak aI), .d (.ref (eI c0).cells 0)] [] (.d (eB r)) [] := by
 refine Runs.aT Tryz.func125 rfl ?_; unfold zX at h; refine SP.rg <| .a 2 <| .aj <| SP.rg <| .a 5 <| .aj ?_; rw [← aB h]; exact .ret (aP [])
def Jt (au : (List ah)) (iT : Int) : Option Int := (gK au (fun a0 => zX a0 iT)).bind fun x1 => some x1
theorem ab2 (au iT r) (h : Jt au iT = some r) : Runs Tryz.prog 85 [.d ((eL ak) au), .d (eI iT)] [] (.d (eI r)) [] := by
 refine Runs.aT Tryz.func85 rfl ?_; unfold Jt at h; refine SP.rg <| .a 2 <| .aj ?_; obtain ⟨x1, hx1, h⟩ := aC h; refine SP.rg <| .a 1 <| .conv _ (oV (cs := dc (eI iT)) 0 (by kernel_rfl) (by kernel_rfl)) <| .p (x := .d (.fn (.func 125) [] [(.ref (eI iT).cells 0)])) (qQ [(.ref (eI iT).cells 0)] rfl rfl) <| .call (lX au (fun a0 => zX a0 iT) (.fn (.func 125) [] [(.ref (eI iT).cells 0)]) ⟨125, [(.ref (eI iT).cells 0)], rfl, ao6, fun a0 b hb => Zt a0 iT b hb⟩ x1 hx1) afr <| .a 1 <| .aj ?_; rw [← aB h]; exact .ret (aP [])
def nD (au : (List ah)) (iT : Int) : Option (ah × Bool) := (Jt au iT).bind fun x1 => (bif decide (x1 < 0) then some (dh, false) else (aY au x1).bind fun x3 => some (x3, true))
theorem nP (au iT r) (h : nD au iT = some r) : Runs Tryz.prog 62 [.d ((eL ak) au), .d (eI iT)] [] (.fG [.d (ak r.1), .d (eB r.2)]) [] := by
 refine Runs.aT Tryz.func62 rfl ?_; unfold nD at h; refine SP.rg <| .a 2 <| .aj ?_; obtain ⟨x1, hx1, h⟩ := aC h; refine SP.rg <| .a 2 <| .call (ab2 au iT x1 hx1) aqS <| .a 1 <| .aj <| SP.aG <| SP.rg <| .a 2 <| .aj <| SP.cnd h (fun h => ?_) fun h => ?_
 · refine SP.rg <| .a 3 <| .aj <| SP.ret ?_; rw [← aB h]; exact ⟨[.d (ak dh), .d (eB false)], [], ⟨⟨0, dc (ak dh), true, 29, by kernel_rfl, by kernel_rfl, by kernel_rfl, iK, Nat.le_of_ble_eq_true (by kernel_rfl), (by intro hh; cases hh), by kernel_rfl⟩, lu (by kernel_rfl), trivial⟩, by kernel_rfl, by kernel_rfl, by kernel_rfl⟩
 refine SP.skip ?_; obtain ⟨x3, hx3, h⟩ := aC h; refine SP.rg <| .a 2 <| .p (aK (k := .i64) ak hx3 fE iK (by kernel_rfl) rfl) <| .a 3 <| .aj <| SP.ret ?_; rw [← aB h]; exact ⟨[.d (ak x3), .d (eB true)], [], ⟨⟨0, dc (ak x3), true, 29, by kernel_rfl, by kernel_rfl, by kernel_rfl, iK, Nat.le_of_ble_eq_true (by kernel_rfl), (by intro hh; cases hh), by kernel_rfl⟩, lu (by kernel_rfl), trivial⟩, by kernel_rfl, by kernel_rfl, by kernel_rfl⟩
def ahB (aI : ah) (v1 : Bool) : St := ⟨bY 27 [(1, .ptr 0 0), (4, .d (eI aI.Kind)), (5, .d (eB v1))], [.box (dc (ak aI))], 0⟩
def Ee (aI : ah) (v1 : Bool) : Option Bool := (bif v1 then some true else (bif (aI.Kind == 2) then (bif (aI.Content.N == 0) then some true else some (aI.Content.N == 4)).bind fun x4 => (bif x4 then some (!(aI.Key.toList == aI.bf.toList)) else some false).bind fun x6 => some x6 else some false))
def Oc (aI : ah) : Option Bool := (bif (aI.Kind == 3) then Ee aI (aI.Kind == 3) else Ee aI (aI.Kind == 4))
theorem ahC (aI r) (h : Oc aI = some r) : Runs Tryz.prog 63 [.d (ak aI)] [] (.d (eB r)) [] := by
 refine Runs.aT Tryz.func63 rfl ?_; unfold Oc at h; refine SP.rg <| .a 2 <| .aj <| SP.aG <| SP.rg <| .a 2 <| .aj <| SP.block ?_; refine SP.join (fun s => ∃ (v1 : Bool), Sub s (ahB aI v1) ∧ Ee aI v1 = some r) ?_ ?_
 · clear h; rintro s ⟨v1, hs, h⟩; refine SP.sub hs ?_; clear hs; unfold Ee at h; refine SP.cnd h (fun h => ?_) fun h => ?_
   · refine SP.rg <| .a 1 <| .aj ?_; rw [← aB h]; exact .ret (aP [])
   refine SP.rg <| .a 2 <| .aj <| SP.cnd h (fun h => ?_) fun h => ?_
   · refine SP.rg <| .a 4 <| ?_; obtain ⟨x4, hx4, h⟩ := aC h; refine .merge 6 [14, 15, 16, 17, 18] 19 (.d (eB x4)) ?_ ?_
     · rcases dn hx4 with ⟨hb5, h⟩ | ⟨hb5, h⟩
       · refine .c (congrArg some hb5) <| .a 5 <| .aj ?_; obtain rfl := aB h; kernel_rfl
       refine .c (congrArg some hb5) <| .a 5 <| .aj ?_; obtain rfl := aB h; kernel_rfl
     refine .a 1 <| ?_; obtain ⟨x6, hx6, h⟩ := aC h; refine .merge 6 [21, 22, 23, 24, 25] 26 (.d (eB x6)) ?_ ?_
     · replace h := hx6; cases x4 with
       | true =>
         replace h := bI rfl h; refine .a 6 <| .aj ?_; obtain rfl := aB h; kernel_rfl
       | false =>
         replace h := bC rfl h; refine .a 6 <| .aj ?_; obtain rfl := aB h; kernel_rfl
     refine .a 1 <| .aj ?_; rw [← aB h]; exact .ret (aP [])
   refine SP.skip <| SP.rg <| .a 1 <| .aj ?_; rw [← aB h]; exact .ret (aP [])
 intro K8; refine SP.rg <| .a 2 <| .aj <| SP.cnd h (fun h => ?_) fun h => ?_
 · exact SP.skip <| K8 _ ⟨(aI.Kind == 3), aF (mk 27 50) [(0, true)], h⟩
 exact SP.bQ <| .a 2 <| .nil <| K8 _ ⟨(aI.Kind == 4), aF (mk 27 50) [(0, true)], h⟩
def QS (aJ : (List Int)) (BK : Int) (v1 : Int) : St := ⟨bY 19 [(0, .d ((eL eI) aJ)), (1, .d (eI BK)), (7, .d (eI (aJ.length : Int))), (8, .d (eI v1))], [], 0⟩
def qY (aJ : (List Int)) (BK : Int) (k2 : (Int → Option Int)) : Int → Option Int := fun v1 => (bif decide (v1 < (aJ.length : Int)) then (aY aJ v1).bind fun x4 => (bif (BK == x4) then some v1 else k2 (IntKind.i64.wrap (v1 + 1))) else some (-1))
def Ef (aJ : (List Int)) (BK : Int) : Int → Option Int := bM (qY aJ BK) fuel
def nN (aJ : (List Int)) (BK : Int) : Option Int := Ef aJ BK 0
theorem Eh (aJ BK r) (h : nN aJ BK = some r) : Runs Tryz.prog 126 [.d ((eL eI) aJ), .d (eI BK)] [] (.d (eI r)) [] := by
 refine Runs.aT Tryz.func126 rfl ?_; unfold nN at h; refine SP.rg <| .a 1 <| .aj <| SP.aG <| SP.rg <| .a 1 <| .p (aV eI aJ bG rfl) <| .a 1 <| .aj <| SP.block ?_; refine SP.bM (QS aJ BK) _ _ _ (aF (mk 19 387) []) h ?_; clear h; intro J6 k2 hk2 v1 h; unfold qY at h; refine SP.rg <| .a 1 <| .aj <| SP.aG <| SP.cnd h (fun h => ?_) fun h => ?_
 · refine SP.skip <| SP.aG <| SP.block <| SP.rg <| .a 2 <| .aj ?_; obtain ⟨x4, hx4, h⟩ := aC h; refine SP.rg <| .a 3 <| .p (aK (k := .i64) eI hx4 bG fJ (by kernel_rfl) rfl) <| .a 2 <| .aj <| SP.cnd h (fun h => ?_) fun h => ?_
   · refine SP.rg <| .a 2 <| .aj ?_; rw [← aB h]; exact .ret (aP [])
   refine SP.skip <| SP.bQ <| .a 2 <| .nil ?_; exact hk2 _ _ (aF (mk 19 387) []) h
 refine SP.exit <| SP.rg <| .a 1 <| .aj ?_; rw [← aB h]; exact .ret (aP [])
def jO (aJ : (List Int)) (BK : Int) : Option Bool := (nN aJ BK).bind fun x1 => some (decide (x1 ≥ 0))
theorem sZ (aJ BK r) (h : jO aJ BK = some r) : Runs Tryz.prog 89 [.d ((eL eI) aJ), .d (eI BK)] [] (.d (eB r)) [] := by
 refine Runs.aT Tryz.func89 rfl ?_; unfold jO at h; refine SP.rg <| .a 1 <| .aj ?_; obtain ⟨x1, hx1, h⟩ := aC h; refine SP.rg <| .a 2 <| .call (Eh aJ BK x1 hx1) akW <| .a 2 <| .aj ?_; rw [← aB h]; exact .ret (aP [])
def I7 (au : (List Int)) (eY : Int) : Option Bool := (jO au eY).bind fun x1 => some x1
theorem aaG (au eY r) (h : I7 au eY = some r) : Runs Tryz.prog 65 [.d ((eL eI) au), .d (eI eY)] [] (.d (eB r)) [] := by
 refine Runs.aT Tryz.func65 rfl ?_; unfold I7 at h; refine SP.rg <| .a 1 <| .aj ?_; obtain ⟨x1, hx1, h⟩ := aC h; refine SP.rg <| .a 2 <| .call (sZ au eY x1 hx1) ajF <| .a 1 <| .aj ?_; rw [← aB h]; exact .ret (aP [])
def afM (au : (List ah)) (fM : (List Int)) (v1 : (List Int)) (v2 : Int) : St := ⟨bY 54 [(0, .d ((eL ak) au)), (1, .d ((eL eI) fM)), (5, .aQ 0), (13, .d ((eL eI) fM)), (14, .d (eI (fM.length : Int))), (15, .d (eI v2))], [.arr 3 1 (List.map eI v1)], 0⟩
def afN (au : (List ah)) (fM : (List Int)) (v2 : Int) (v5 : (List Int)) : St := ⟨bY 54 [(0, .d ((eL ak) au)), (1, .d ((eL eI) fM)), (5, .aQ 0), (13, .d ((eL eI) fM)), (14, .d (eI (fM.length : Int))), (15, .d (eI v2))], [.arr 3 1 (List.map eI v5)], 0⟩
def afO (x14 : (List Int)) (fM : (List Int)) (v15 : (List Int)) (v16 : Int) : St := ⟨bY 54 [(5, .aQ 0), (10, .d ((eL eI) x14)), (38, .d ((eL eI) fM)), (39, .d (eI (fM.length : Int))), (40, .d (eI v16))], [.arr 3 1 (List.map eI v15)], 0⟩
def afP (x14 : (List Int)) (fM : (List Int)) (v16 : Int) (v19 : (List Int)) : St := ⟨bY 54 [(5, .aQ 0), (10, .d ((eL eI) x14)), (38, .d ((eL eI) fM)), (39, .d (eI (fM.length : Int))), (40, .d (eI v16))], [.arr 3 1 (List.map eI v19)], 0⟩
def BL (k3 : ((List Int) → Int → Option (List Int))) (v2 : Int) (v5 : (List Int)) : Option (List Int) := k3 v5 (IntKind.i64.wrap (v2 + 1))
def BM (k17 : ((List Int) → Int → Option (List Int))) (v16 : Int) (v19 : (List Int)) : Option (List Int) := k17 v19 (IntKind.i64.wrap (v16 + 1))
def GL (fM : (List Int)) (x14 : (List Int)) (k17 : ((List Int) → Int → Option (List Int))) : (List Int) → Int → Option (List Int) := fun v15 v16 => (bif decide (v16 < (fM.length : Int)) then (aY fM v16).bind fun x21 => (I7 x14 x21).bind fun iP => (bif iP then (eP 8 v15 [x21]).bind fun x24 => BM k17 v16 x24 else BM k17 v16 v15) else (qU v15).bind fun x25 => some x25)
def Oe (fM : (List Int)) (x14 : (List Int)) : (List Int) → Int → Option (List Int) := bn (GL fM x14) fuel
def GN (fM : (List Int)) (au : (List ah)) (k3 : ((List Int) → Int → Option (List Int))) : (List Int) → Int → Option (List Int) := fun v1 v2 => (bif decide (v2 < (fM.length : Int)) then (aY fM v2).bind fun x7 => (nD au x7).bind fun x8 => (bif x8.2 then (Oc x8.1).bind fun x11 => some x11 else some false).bind fun x9 => (bif x9 then (eP 8 v1 [x7]).bind fun fQ => BL k3 v2 fQ else BL k3 v2 v1) else (qV au v1).bind fun x14 => Oe fM x14 v1 0)
def V3 (fM : (List Int)) (au : (List ah)) : (List Int) → Int → Option (List Int) := bn (GN fM au) fuel
def Kz (au : (List ah)) (fM : (List Int)) : Option (List Int) := V3 fM au [] 0
theorem afQ (au fM r) (h : Kz au fM = some r) : Runs Tryz.prog 41 [.d ((eL ak) au), .d ((eL eI) fM)] [] (.aQ 0) [.arr 3 1 (List.map eI r)] := by
 refine Runs.aT Tryz.func41 rfl ?_; unfold Kz at h; refine SP.rg <| .e [.arr 3 1 (List.map eI [])] (aU 3 1 rfl) <| .aj <| SP.rg <| .e [.arr 3 1 (List.map eI []), .arr 3 1 (List.map eI [])] (aU 3 1 rfl) <| .aj <| SP.aG <| SP.rg <| .a 1 <| .p (aV eI fM bG rfl) <| .a 1 <| .aj <| SP.block ?_; refine SP.bn (afM au fM) _ _ _ _ (aF (mk 54 57379) [(1, true)]) h ?_; clear h; intro J27 k3 hk3 v1 v2 h; unfold GN at h; refine SP.rg <| .a 1 <| .aj <| SP.aG <| SP.cnd h (fun h => ?_) fun h => ?_
 · refine SP.skip ?_; refine SP.join (fun s => ∃ (v5 : (List Int)), Sub s (afN au fM v2 v5) ∧ BL k3 v2 v5 = some r) ?_ ?_
   · clear h; rintro s ⟨v5, hs, h⟩; refine SP.sub hs ?_; clear hs; unfold BL at h; refine SP.bQ <| .a 2 <| .nil ?_; exact hk3 _ _ _ (aF (mk 54 57379) [(0, true)]) h
   intro K6; refine SP.block ?_; obtain ⟨x7, hx7, h⟩ := aC h; refine SP.rg <| .p (aK (k := .i64) eI hx7 bG fJ (by kernel_rfl) rfl) <| .a 2 <| .aj ?_; obtain ⟨x8, gJ, h⟩ := aC h; refine SP.rg <| .a 2 <| .call (nP au x7 x8 gJ) Jp <| .a 6 <| .aj <| SP.rg <| .a 1 <| ?_; obtain ⟨x9, fK, h⟩ := aC h; refine .merge 4 [26, 27, 28] 29 (.d (eB x9)) ?_ ?_
   · rcases dn fK with ⟨jK, h⟩ | ⟨jK, h⟩
     · obtain ⟨x11, fC, h⟩ := aC h; refine .c (congrArg some jK) <| .a 1 <| .call (ahC x8.1 x11 fC) aqT <| .a 1 <| .aj ?_; obtain rfl := aB h; kernel_rfl
     refine .c (congrArg some jK) <| .a 3 <| .aj ?_; obtain rfl := aB h; kernel_rfl
   refine .aj <| SP.cnd h (fun h => ?_) fun h => ?_
   · obtain ⟨fQ, mY, h⟩ := aC h; exact SP.bQ <| .a 2 <| .p (dB eH zero3 (by kernel_rfl) (by kernel_rfl) (Nat.le_of_ble_eq_true (by kernel_rfl)) [.d (eI x7)] [eI x7] (by kernel_rfl) (by kernel_rfl) (by kernel_rfl) (by kernel_rfl) rfl) <| .e [.dead, .box (dc (ak x8.1)), .arr 3 1 (List.map eI fQ)] (dO (k := 0) eI mY eH (by kernel_rfl) (fun _ => rfl) (by decide) rfl) <| .a 1 <| .nil <| K6 _ ⟨fQ, aF (mk 54 57379) [(2, true)], h⟩
   exact SP.skip <| K6 _ ⟨v1, aF (mk 54 57379) [(0, true)], h⟩
 refine SP.exit ?_; obtain ⟨x14, kL, h⟩ := aC h; refine SP.rg <| .a 2 <| .p (Ub (dL := [.d ((eL ak) au), .aQ 0]) (dR := [.d ((eL ak) au), .d (.sl (List.map eI v1))]) (I5 au v1 x14 kL) (fun x hx => by obtain ⟨a, _, rfl⟩ := List.mem_map.1 hx; rfl) ajE ⟨rfl, ⟨3, 1, List.map eI v1, by kernel_rfl, rfl⟩, trivial⟩ rfl rfl) <| .a 1 <| .aj <| SP.aG <| SP.rg <| .a 1 <| .p (aV eI fM bG rfl) <| .a 1 <| .aj <| SP.block ?_; refine SP.bn (afO x14 fM) _ _ _ _ (aF (mk 54 1924145349664) [(0, true)]) h ?_; clear h; intro J26 k17 amQ v15 v16 h; unfold GL at h; refine SP.rg <| .a 1 <| .aj <| SP.aG <| SP.cnd h (fun h => ?_) fun h => ?_
 · refine SP.skip ?_; refine SP.join (fun s => ∃ (v19 : (List Int)), Sub s (afP x14 fM v16 v19) ∧ BM k17 v16 v19 = some r) ?_ ?_
   · clear h; rintro s ⟨v19, hs, h⟩; refine SP.sub hs ?_; clear hs; unfold BM at h; refine SP.bQ <| .a 2 <| .nil ?_; exact amQ _ _ _ (aF (mk 54 1924145349664) [(0, true)]) h
   intro K20; refine SP.block ?_; obtain ⟨x21, vC, h⟩ := aC h; refine SP.rg <| .p (aK (k := .i64) eI vC bG fJ (by kernel_rfl) rfl) <| .a 2 <| .aj ?_; obtain ⟨iP, ou, h⟩ := aC h; refine SP.rg <| .a 2 <| .call (aaG x14 x21 iP ou) anm <| .aj <| SP.cnd h (fun h => ?_) fun h => ?_
   · obtain ⟨x24, hx24, h⟩ := aC h; exact SP.bQ <| .a 2 <| .p (dB eH zero3 (by kernel_rfl) (by kernel_rfl) (Nat.le_of_ble_eq_true (by kernel_rfl)) [.d (eI x21)] [eI x21] (by kernel_rfl) (by kernel_rfl) (by kernel_rfl) (by kernel_rfl) rfl) <| .e [.dead, .arr 3 1 (List.map eI x24)] (dO (k := 0) eI hx24 eH (by kernel_rfl) (fun _ => rfl) (by decide) rfl) <| .a 1 <| .nil <| K20 _ ⟨x24, aF (mk 54 1924145349664) [(1, true)], h⟩
   exact SP.skip <| K20 _ ⟨v15, aF (mk 54 1924145349664) [(0, true)], h⟩
 refine SP.exit ?_; obtain ⟨x25, hx25, h⟩ := aC h; refine SP.rg <| .a 1 <| .e [.arr 3 1 (List.map eI v15), .arr 3 1 (List.map eI x25)] (uF (dL := [.aQ 0]) (dR := [.d (.sl (List.map eI v15))]) (vH v15 x25 hx25) (fun x hx => by obtain ⟨a, _, rfl⟩ := List.mem_map.1 hx; rfl) XL ⟨⟨3, 1, List.map eI v15, by kernel_rfl, rfl⟩, trivial⟩ rfl rfl) <| .a 1 <| .aj ?_; rw [← aB h]; exact .ret (aP [(1, true)])
def lQ (aJ : (List ay)) : Option (List ay) := (eP 32 [] aJ).bind fun x1 => some x1
theorem FI (aJ r) (h : lQ aJ = some r) : Runs Tryz.prog 90 [.d ((eL aA) aJ)] [] (.aQ 0) [.arr 45 3 (List.map aA r)] := by
 refine Runs.aT Tryz.func90 rfl ?_; unfold lQ at h; refine SP.rg <| .e [.arr 45 3 (List.map aA [])] (aU 45 3 rfl) <| .aj <| SP.aG <| SP.TM (x := .tmp 3) (t' := 28) (d := 4) (es := List.map aA aJ) 1 rfl (.a 1 <| .nil _) (by kernel_rfl) (by kernel_rfl) (by kernel_rfl) fF (by kernel_rfl) ?_; intro b hn2; cases b
 · clear hn2; refine SP.MZ (by kernel_rfl) <| SP.skip ?_; obtain ⟨x1, hx1, h⟩ := aC h; refine SP.rg <| .e [.arr 45 3 (List.map aA []), .arr 45 3 (List.map aA [])] (gu uH uG (by kernel_rfl) (by kernel_rfl) (Nat.le_of_ble_eq_true (by kernel_rfl)) [] [] (by kernel_rfl) (by kernel_rfl) (by kernel_rfl) (by kernel_rfl) rfl) <| .a 1 <| .e [.arr 45 3 (List.map aA []), .dead, .arr 45 3 (List.map aA x1)] (dO (k := 1) aA hx1 uH (by kernel_rfl) (fun _ => rfl) (by decide) rfl) <| .a 1 <| .aj ?_; rw [← aB h]; exact .ret (aP [(2, true)])
 replace hn2 := aao hn2; replace h : some [] = some r := by rw [hn2] at h; exact h
 refine SP.TJ (by kernel_rfl) <| SP.rg <| .e [.arr 45 3 (List.map aA []), .arr 45 3 (List.map aA [])] (aU 45 3 rfl) <| .aj ?_; rw [← aB h]; exact .ret (aP [(1, true)])
def vI (o9 : Int) : Option Bool := (bif decide (o9 ≥ 1) then some (decide (o9 ≤ 10)) else some false).bind fun x1 => some x1
theorem FK (o9 r) (h : vI o9 = some r) : Runs Tryz.prog 149 [.d (eI o9)] [] (.d (eB r)) [] := by
 refine Runs.aT Tryz.func149 rfl ?_; unfold vI at h; refine SP.rg <| .a 1 <| .aj <| SP.rg <| .a 2 <| ?_; obtain ⟨x1, hx1, h⟩ := aC h; refine .merge 4 [5, 6, 7] 8 (.d (eB x1)) ?_ ?_
 · rcases dn hx1 with ⟨hb2, h⟩ | ⟨hb2, h⟩
   · refine .c (congrArg some hb2) <| .a 3 <| .aj ?_; obtain rfl := aB h; kernel_rfl
   refine .c (congrArg some hb2) <| .a 3 <| .aj ?_; obtain rfl := aB h; kernel_rfl
 refine .a 1 <| .aj ?_; rw [← aB h]; exact .ret (aP [])
def ahD (au : (List ah)) (aZ : (List Int)) (v2 : (List ah)) (v3 : Int) : St := ⟨bY 32 [(0, .d ((eL ak) au)), (5, .aQ 0), (13, .d ((eL eI) aZ)), (14, .d (eI (aZ.length : Int))), (15, .d (eI v3))], [.arr 56 29 (List.map ak v2)], 0⟩
def ahE (au : (List ah)) (aZ : (List Int)) (v3 : Int) (v6 : (List ah)) : St := ⟨bY 32 [(0, .d ((eL ak) au)), (5, .aQ 0), (13, .d ((eL eI) aZ)), (14, .d (eI (aZ.length : Int))), (15, .d (eI v3))], [.arr 56 29 (List.map ak v6)], 0⟩
def Ei (k4 : ((List ah) → Int → Option (List ah))) (v3 : Int) (v6 : (List ah)) : Option (List ah) := k4 v6 (IntKind.i64.wrap (v3 + 1))
def Ju (aZ : (List Int)) (au : (List ah)) (k4 : ((List ah) → Int → Option (List ah))) : (List ah) → Int → Option (List ah) := fun v2 v3 => (bif decide (v3 < (aZ.length : Int)) then (aY aZ v3).bind fun x8 => (nD au x8).bind fun x9 => (bif x9.2 then (eP 376 v2 [x9.1]).bind fun x11 => Ei k4 v3 x11 else Ei k4 v3 v2) else some v2)
def YE (aZ : (List Int)) (au : (List ah)) : (List ah) → Int → Option (List ah) := bn (Ju aZ au) fuel
def Og (au : (List ah)) (aZ : (List Int)) : Option (List ah) := (wP 376 dh 0 (aZ.length : Int)).bind fun x1 => YE aZ au x1 0
theorem ahF (au aZ r) (h : Og au aZ = some r) : Runs Tryz.prog 172 [.d ((eL ak) au), .d ((eL eI) aZ)] [] (.aQ 0) [.arr 56 29 (List.map ak r)] := by
 refine Runs.aT Tryz.func172 rfl ?_; unfold Og at h; refine SP.rg <| .e [.arr 56 29 (List.map ak [])] (aU 56 29 rfl) <| .aj ?_; obtain ⟨x1, hx1, h⟩ := aC h; refine SP.rg <| .a 1 <| .p (aV eI aZ bG rfl) <| .e [.arr 56 29 (List.map ak []), .arr 56 29 (List.map ak x1)] (XD ak dh hx1 FD BD (by kernel_rfl) (by kernel_rfl) (by kernel_rfl) (by decide) rfl) <| .a 1 <| .aj <| SP.aG <| SP.rg <| .a 1 <| .p (aV eI aZ bG rfl) <| .a 1 <| .aj <| SP.block ?_; refine SP.bn (ahD au aZ) _ _ _ _ (aF (mk 32 57377) [(1, true)]) h ?_; clear h; intro J12 k4 hk4 v2 v3 h; unfold Ju at h; refine SP.rg <| .a 1 <| .aj <| SP.aG <| SP.cnd h (fun h => ?_) fun h => ?_
 · refine SP.skip ?_; refine SP.join (fun s => ∃ (v6 : (List ah)), Sub s (ahE au aZ v3 v6) ∧ Ei k4 v3 v6 = some r) ?_ ?_
   · clear h; rintro s ⟨v6, hs, h⟩; refine SP.sub hs ?_; clear hs; unfold Ei at h; refine SP.bQ <| .a 2 <| .nil ?_; exact hk4 _ _ _ (aF (mk 32 57377) [(0, true)]) h
   intro K7; refine SP.block ?_; obtain ⟨x8, gJ, h⟩ := aC h; refine SP.rg <| .p (aK (k := .i64) eI gJ bG fJ (by kernel_rfl) rfl) <| .a 2 <| .aj ?_; obtain ⟨x9, fK, h⟩ := aC h; refine SP.rg <| .a 2 <| .call (nP au x8 x9 fK) Jp <| .a 6 <| .aj <| SP.rg <| .a 1 <| .aj <| SP.cnd h (fun h => ?_) fun h => ?_
   · obtain ⟨x11, fC, h⟩ := aC h; exact SP.bQ <| .a 2 <| .p (dB FD BD (by kernel_rfl) (by kernel_rfl) (Nat.le_of_ble_eq_true (by kernel_rfl)) [.d (ak x9.1)] [ak x9.1] (by kernel_rfl) (by kernel_rfl) (by kernel_rfl) (by kernel_rfl) rfl) <| .e [.dead, .box (dc (ak x9.1)), .arr 56 29 (List.map ak x11)] (dO (k := 0) ak fC FD (by kernel_rfl) (fun _ => rfl) (by decide) rfl) <| .a 1 <| .nil <| K7 _ ⟨x11, aF (mk 32 57377) [(2, true)], h⟩
   exact SP.skip <| K7 _ ⟨v2, aF (mk 32 57377) [(0, true)], h⟩
 refine SP.exit <| SP.rg <| .a 2 <| .aj ?_; rw [← aB h]; exact .ret (aP [(0, true)])
def aaH (aJ : (List ay)) (x4 : (List ay)) (v5 : Int) : St := ⟨bY 39 [(0, .d ((eL aA) aJ)), (9, .d (eI v5)), (11, .aQ 0)], [.arr 45 3 (List.map aA x4)], 0⟩
def vY (aJ : (List ay)) (x4 : (List ay)) (v5 : Int) : Option (List ay) := (qo aJ v5 ((aJ).length)).bind fun x6 => (eP 32 x4 x6).bind fun x7 => some x7
def kS (aJ : (List ay)) (bV : Int) (bP : ByteArray) (mG : Int) : Option (List ay) := (vG aJ bV bP).bind fun x1 => (qo aJ 0 x1.1).bind fun x2 => (eP 32 [] x2).bind fun x3 => (eP 32 x3 [(⟨bV, bP, mG⟩ : ay)]).bind fun x4 => (bif x1.2 then vY aJ x4 (IntKind.i64.wrap (x1.1 + 1)) else vY aJ x4 x1.1)
theorem pq (aJ bV bP mG r) (h : kS aJ bV bP mG = some r) : Runs Tryz.prog 46 [.d ((eL aA) aJ), .d (eI bV), .d (eS bP), .d (eI mG)] [] (.aQ 0) [.arr 45 3 (List.map aA r)] := by
 refine Runs.aT Tryz.func46 rfl ?_; unfold kS at h; refine SP.rg <| .e [.arr 45 3 (List.map aA [])] (aU 45 3 rfl) <| .aj ?_; obtain ⟨x1, hx1, h⟩ := aC h; refine SP.rg <| .a 3 <| .call (Ob aJ bV bP x1 hx1) anj <| .a 5 <| .aj ?_; obtain ⟨x2, hx2, x3, hx3, h⟩ := aX h; refine SP.rg <| .e [.arr 45 3 (List.map aA []), .arr 45 3 (List.map aA [])] (gu uH uG (by kernel_rfl) (by kernel_rfl) (Nat.le_of_ble_eq_true (by kernel_rfl)) [] [] (by kernel_rfl) (by kernel_rfl) (by kernel_rfl) (by kernel_rfl) rfl) <| .a 2 <| .p (Ai aA hx2 (fun _ => rfl) (by intro hh; cases hh) fF iy (fun _ => rfl) rfl) <| .e [.arr 45 3 (List.map aA []), .dead, .arr 45 3 (List.map aA x3)] (dO (k := 1) aA hx3 uH (by kernel_rfl) (fun _ => rfl) (by decide) rfl) <| .a 1 <| .aj ?_; obtain ⟨x4, hx4, h⟩ := aC h; refine SP.rg <| .a 5 <| .p (dB uH uG (by kernel_rfl) (by kernel_rfl) (Nat.le_of_ble_eq_true (by kernel_rfl)) [.d (aA (⟨bV, bP, mG⟩ : ay))] [aA (⟨bV, bP, mG⟩ : ay)] (by kernel_rfl) (by kernel_rfl) (by kernel_rfl) (by kernel_rfl) rfl) <| .e [.arr 45 3 (List.map aA []), .dead, .dead, .arr 45 3 (List.map aA x4)] (dO (k := 2) aA hx4 uH (by kernel_rfl) (fun _ => rfl) (by decide) rfl) <| .a 1 <| .aj ?_; refine SP.join (fun s => ∃ (v5 : Int), Sub s (aaH aJ x4 v5) ∧ vY aJ x4 v5 = some r) ?_ ?_
 · clear h; rintro s ⟨v5, hs, h⟩; refine SP.sub hs ?_; clear hs; unfold vY at h; obtain ⟨x6, hx6, x7, hx7, h⟩ := aX h; refine SP.rg <| .a 3 <| .p (Ai aA hx6 (by intro hh; cases hh) (fun _ => rfl) fF iy (fun _ => rfl) rfl) <| .e [.dead, .arr 45 3 (List.map aA x7)] (dO (k := 0) aA hx7 uH (by kernel_rfl) (fun _ => rfl) (by decide) rfl) <| .a 1 <| .aj ?_; rw [← aB h]; exact .ret (aP [(1, true)])
 intro K8; refine SP.rg <| .a 1 <| .aj <| SP.cnd h (fun h => ?_) fun h => ?_
 · exact SP.bQ <| .a 3 <| .nil <| K8 _ ⟨(IntKind.i64.wrap (x1.1 + 1)), aF (mk 39 2561) [(3, true)], h⟩
 exact SP.skip <| K8 _ ⟨x1.1, aF (mk 39 2561) [(3, true)], h⟩
def aaI (v5 : (List ay)) : St := ⟨bY 39 [(3, .aQ 0)], [.arr 45 3 (List.map aA v5)], 0⟩
def pz (v5 : (List ay)) : Option (List ay) := some v5
def xM (aI : ah) : Option (List ay) := (bif (aI.Kind == 1) then some [] else (kS [] 1 s0 0).bind fun x2 => (kS x2 3 s0 0).bind fun x3 => (kS x3 2 aI.bf 0).bind fun x4 => (bif (aI.Kind == 2) then (kS x4 2 aI.Key 0).bind fun x8 => (bif (aI.Content.N == 3) then some true else some (aI.Content.N == 1)).bind fun x9 => (bif x9 then some true else some (aI.Content.N == 2)).bind fun x11 => (bif x11 then (kS x8 4 s0 0).bind fun x14 => pz x14 else pz x8) else pz x4))
theorem P7 (aI r) (h : xM aI = some r) : Runs Tryz.prog 173 [.d (ak aI)] [] (.aQ 0) [.arr 45 3 (List.map aA r)] := by
 refine Runs.aT Tryz.func173 rfl ?_; unfold xM at h; refine SP.rg <| .a 1 <| .e [.box (dc (ak aI)), .arr 45 3 (List.map aA [])] (aU 45 3 rfl) <| .aj <| SP.aG <| SP.rg <| .a 3 <| .aj <| SP.cnd h (fun h => ?_) fun h => ?_
 · refine SP.rg <| .e [.box (dc (ak aI)), .arr 45 3 (List.map aA []), .arr 45 3 (List.map aA [])] (aU 45 3 rfl) <| .aj ?_; rw [← aB h]; exact .ret (aP [(2, true)])
 refine SP.skip <| SP.rg <| .e [.box (dc (ak aI)), .arr 45 3 (List.map aA []), .arr 45 3 (List.map aA [])] (aU 45 3 rfl) <| .aj ?_; obtain ⟨x2, hx2, h⟩ := aC h; refine SP.rg <| .a 1 <| .e [.box (dc (ak aI)), .arr 45 3 (List.map aA []), .arr 45 3 (List.map aA []), .arr 45 3 (List.map aA x2)] (uF (dL := [.aQ 2, .d (eI 1), .d (eS s0), .d (eI 0)]) (dR := [.d (.sl (List.map aA [])), .d (eI 1), .d (eS s0), .d (eI 0)]) (pq [] 1 s0 0 x2 hx2) (fun x hx => by obtain ⟨a, _, rfl⟩ := List.mem_map.1 hx; rfl) Uf ⟨⟨45, 3, List.map aA [], by kernel_rfl, rfl⟩, rfl, rfl, rfl, trivial⟩ rfl rfl) <| .a 1 <| .aj ?_; obtain ⟨x3, hx3, h⟩ := aC h; refine SP.rg <| .a 1 <| .e [.box (dc (ak aI)), .arr 45 3 (List.map aA []), .arr 45 3 (List.map aA []), .arr 45 3 (List.map aA x2), .arr 45 3 (List.map aA x3)] (uF (dL := [.aQ 3, .d (eI 3), .d (eS s0), .d (eI 0)]) (dR := [.d (.sl (List.map aA x2)), .d (eI 3), .d (eS s0), .d (eI 0)]) (pq x2 3 s0 0 x3 hx3) (fun x hx => by obtain ⟨a, _, rfl⟩ := List.mem_map.1 hx; rfl) Uf ⟨⟨45, 3, List.map aA x2, by kernel_rfl, rfl⟩, rfl, rfl, rfl, trivial⟩ rfl rfl) <| .a 1 <| .aj ?_; obtain ⟨x4, hx4, h⟩ := aC h; refine SP.rg <| .a 3 <| .e [.box (dc (ak aI)), .arr 45 3 (List.map aA []), .arr 45 3 (List.map aA []), .arr 45 3 (List.map aA x2), .arr 45 3 (List.map aA x3), .arr 45 3 (List.map aA x4)] (uF (dL := [.aQ 4, .d (eI 2), .d (eS aI.bf), .d (eI 0)]) (dR := [.d (.sl (List.map aA x3)), .d (eI 2), .d (eS aI.bf), .d (eI 0)]) (pq x3 2 aI.bf 0 x4 hx4) (fun x hx => by obtain ⟨a, _, rfl⟩ := List.mem_map.1 hx; rfl) Uf ⟨⟨45, 3, List.map aA x3, by kernel_rfl, rfl⟩, rfl, rfl, rfl, trivial⟩ rfl rfl) <| .a 1 <| .aj ?_; refine SP.join (fun s => ∃ (v5 : (List ay)), Sub s (aaI v5) ∧ pz v5 = some r) ?_ ?_
 · clear h; rintro s ⟨v5, hs, h⟩; refine SP.sub hs ?_; clear hs; unfold pz at h; refine SP.rg <| .a 2 <| .aj ?_; rw [← aB h]; exact .ret (aP [(0, true)])
 intro K6; refine SP.rg <| .a 3 <| .aj <| SP.cnd h (fun h => ?_) fun h => ?_
 · obtain ⟨x8, gJ, h⟩ := aC h; refine SP.rg <| .a 3 <| .e [.box (dc (ak aI)), .arr 45 3 (List.map aA []), .arr 45 3 (List.map aA []), .arr 45 3 (List.map aA x2), .arr 45 3 (List.map aA x3), .arr 45 3 (List.map aA x4), .arr 45 3 (List.map aA x8)] (uF (dL := [.aQ 5, .d (eI 2), .d (eS aI.Key), .d (eI 0)]) (dR := [.d (.sl (List.map aA x4)), .d (eI 2), .d (eS aI.Key), .d (eI 0)]) (pq x4 2 aI.Key 0 x8 gJ) (fun x hx => by obtain ⟨a, _, rfl⟩ := List.mem_map.1 hx; rfl) Uf ⟨⟨45, 3, List.map aA x4, by kernel_rfl, rfl⟩, rfl, rfl, rfl, trivial⟩ rfl rfl) <| .a 1 <| .aj <| SP.rg <| .a 4 <| .aj <| SP.rg <| .a 2 <| ?_; obtain ⟨x9, fK, h⟩ := aC h; refine .merge 4 [28, 29, 30] 31 (.d (eB x9)) ?_ ?_
   · rcases dn fK with ⟨jK, h⟩ | ⟨jK, h⟩
     · refine .c (congrArg some jK) <| .a 3 <| .aj ?_; obtain rfl := aB h; kernel_rfl
     refine .c (congrArg some jK) <| .a 3 <| .aj ?_; obtain rfl := aB h; kernel_rfl
   refine .a 1 <| ?_; obtain ⟨x11, fC, h⟩ := aC h; refine .merge 3 [33, 34] 35 (.d (eB x11)) ?_ ?_
   · replace h := fC; cases x9 with
     | true =>
       replace h := bI rfl h; refine .a 3 <| .aj ?_; obtain rfl := aB h; kernel_rfl
     | false =>
       replace h := bC rfl h; refine .a 3 <| .aj ?_; obtain rfl := aB h; kernel_rfl
   refine .aj <| SP.cnd h (fun h => ?_) fun h => ?_
   · obtain ⟨x14, kL, h⟩ := aC h; exact SP.bQ <| .a 1 <| .e [.box (dc (ak aI)), .arr 45 3 (List.map aA []), .arr 45 3 (List.map aA []), .arr 45 3 (List.map aA x2), .arr 45 3 (List.map aA x3), .arr 45 3 (List.map aA x4), .arr 45 3 (List.map aA x8), .arr 45 3 (List.map aA x14)] (uF (dL := [.aQ 6, .d (eI 4), .d (eS s0), .d (eI 0)]) (dR := [.d (.sl (List.map aA x8)), .d (eI 4), .d (eS s0), .d (eI 0)]) (pq x8 4 s0 0 x14 kL) (fun x hx => by obtain ⟨a, _, rfl⟩ := List.mem_map.1 hx; rfl) Uf ⟨⟨45, 3, List.map aA x8, by kernel_rfl, rfl⟩, rfl, rfl, rfl, trivial⟩ rfl rfl) <| .a 1 <| .nil <| K6 _ ⟨x14, aF (mk 39 8) [(7, true)], h⟩
   exact SP.skip <| K6 _ ⟨x8, aF (mk 39 8) [(6, true)], h⟩
 exact SP.skip <| K6 _ ⟨x4, aF (mk 39 8) [(5, true)], h⟩
def vJ (aI : ah) (c0 : ay) : Option Bool := (bif (aI.Kind == c0.Kind) then some (aI.Key.toList == c0.Key.toList) else some false).bind fun x1 => some x1
theorem Zu (aI c0 r) (h : vJ aI c0 = some r) : Runs Tryz.prog 186 [.d (ak aI), .d (.ref (aA c0).cells 0)] [] (.d (eB r)) [] := by
 refine Runs.aT Tryz.func186 rfl ?_; unfold vJ at h; refine SP.rg <| .a 2 <| .aj <| SP.rg <| .a 5 <| ?_; obtain ⟨x1, hx1, h⟩ := aC h; refine .merge 7 [9, 10, 11, 12, 13, 14] 15 (.d (eB x1)) ?_ ?_
 · rcases dn hx1 with ⟨hb2, h⟩ | ⟨hb2, h⟩
   · refine .c (congrArg some hb2) <| .a 6 <| .aj ?_; obtain rfl := aB h; kernel_rfl
   refine .c (congrArg some hb2) <| .a 6 <| .aj ?_; obtain rfl := aB h; kernel_rfl
 refine .a 1 <| .aj ?_; rw [← aB h]; exact .ret (aP [])
def Ej (au : (List ah)) (sJ : ay) : Option (ah × Bool) := (gK au (fun a0 => vJ a0 sJ)).bind fun x1 => (bif decide (x1 < 0) then some (dh, false) else (aY au x1).bind fun x3 => some (x3, true))
theorem ab3 (au sJ r) (h : Ej au sJ = some r) : Runs Tryz.prog 174 [.d ((eL ak) au), .d (aA sJ)] [] (.fG [.d (ak r.1), .d (eB r.2)]) [] := by
 refine Runs.aT Tryz.func174 rfl ?_; unfold Ej at h; refine SP.rg <| .a 3 <| .aj ?_; obtain ⟨x1, hx1, h⟩ := aC h; refine SP.rg <| .a 1 <| .conv _ (oV (cs := dc (aA sJ)) 0 (by kernel_rfl) (by kernel_rfl)) <| .p (x := .d (.fn (.func 186) [] [(.ref (aA sJ).cells 0)])) (qQ [(.ref (aA sJ).cells 0)] rfl rfl) <| .call (lX au (fun a0 => vJ a0 sJ) (.fn (.func 186) [] [(.ref (aA sJ).cells 0)]) ⟨186, [(.ref (aA sJ).cells 0)], rfl, ao7, fun a0 b hb => Zu a0 sJ b hb⟩ x1 hx1) afr <| .a 1 <| .aj <| SP.aG <| SP.rg <| .a 2 <| .aj <| SP.cnd h (fun h => ?_) fun h => ?_
 · refine SP.rg <| .a 3 <| .aj <| SP.ret ?_; rw [← aB h]; exact ⟨[.d (ak dh), .d (eB false)], [], ⟨⟨1, dc (ak dh), true, 29, by kernel_rfl, by kernel_rfl, by kernel_rfl, iK, Nat.le_of_ble_eq_true (by kernel_rfl), (by intro hh; cases hh), by kernel_rfl⟩, lu (by kernel_rfl), trivial⟩, by kernel_rfl, by kernel_rfl, by kernel_rfl⟩
 refine SP.skip ?_; obtain ⟨x3, hx3, h⟩ := aC h; refine SP.rg <| .a 2 <| .p (aK (k := .i64) ak hx3 fE iK (by kernel_rfl) rfl) <| .a 3 <| .aj <| SP.ret ?_; rw [← aB h]; exact ⟨[.d (ak x3), .d (eB true)], [], ⟨⟨1, dc (ak x3), true, 29, by kernel_rfl, by kernel_rfl, by kernel_rfl, iK, Nat.le_of_ble_eq_true (by kernel_rfl), (by intro hh; cases hh), by kernel_rfl⟩, lu (by kernel_rfl), trivial⟩, by kernel_rfl, by kernel_rfl, by kernel_rfl⟩
def aaJ (au : (List ah)) (dA : (List ay)) (x1 : (List ah)) (x3 : (List ay)) (v4 : (List ah)) (v5 : Int) : St := ⟨bY 56 [(0, .d ((eL ak) au)), (1, .d ((eL aA) dA)), (7, .d ((eL ak) x1)), (8, .aQ 0), (21, .d ((eL aA) x3)), (22, .d (eI (x3.length : Int))), (23, .d (eI v5))], [.arr 56 29 (List.map ak v4)], 0⟩
def aaK (au : (List ah)) (dA : (List ay)) (x1 : (List ah)) (x3 : (List ay)) (v5 : Int) (v8 : (List ah)) : St := ⟨bY 56 [(0, .d ((eL ak) au)), (1, .d ((eL aA) dA)), (7, .d ((eL ak) x1)), (8, .aQ 0), (21, .d ((eL aA) x3)), (22, .d (eI (x3.length : Int))), (23, .d (eI v5))], [.arr 56 29 (List.map ak v8)], 0⟩
def aaL (au : (List ah)) (dA : (List ay)) (x1 : (List ah)) (x3 : (List ay)) (v5 : Int) (v12 : Bool) (v13 : (List ah)) (v14 : ah) : St := ⟨bY 56 [(0, .d ((eL ak) au)), (1, .d ((eL aA) dA)), (7, .d ((eL ak) x1)), (8, .aQ 0), (11, .ptr 1 0), (12, .d (eB v12)), (21, .d ((eL aA) x3)), (22, .d (eI (x3.length : Int))), (23, .d (eI v5))], [.arr 56 29 (List.map ak v13), .box (dc (ak v14))], 0⟩
def vZ (k6 : ((List ah) → Int → Option (List ah))) (v5 : Int) (v8 : (List ah)) : Option (List ah) := k6 v8 (IntKind.i64.wrap (v5 + 1))
def wo (k6 : ((List ah) → Int → Option (List ah))) (v5 : Int) (v12 : Bool) (v13 : (List ah)) (v14 : ah) : Option (List ah) := (bif v12 then (eP 376 v13 [v14]).bind fun x16 => vZ k6 v5 x16 else vZ k6 v5 v13)
def AX (x3 : (List ay)) (x1 : (List ah)) (dA : (List ay)) (au : (List ah)) (k6 : ((List ah) → Int → Option (List ah))) : (List ah) → Int → Option (List ah) := fun v4 v5 => (bif decide (v5 < (x3.length : Int)) then (aY x3 v5).bind fun x10 => (Ej x1 x10).bind fun x11 => (uJ dA x10.Kind x10.Key).bind fun x18 => (bif x18.2 then (nD au x18.1).bind fun x20 => wo k6 v5 x20.2 v4 x20.1 else wo k6 v5 x11.2 v4 x11.1) else some v4)
def P8 (x3 : (List ay)) (x1 : (List ah)) (dA : (List ay)) (au : (List ah)) : (List ah) → Int → Option (List ah) := bn (AX x3 x1 dA au) fuel
def BN (au : (List ah)) (dA : (List ay)) (zo : ah) : Option (List ah) := (Og au zo.eF).bind fun x1 => (wP 376 dh 0 5).bind fun x2 => (xM zo).bind fun x3 => P8 x3 x1 dA au x2 0
theorem aaM (au dA zo r) (h : BN au dA zo = some r) : Runs Tryz.prog 151 [.d ((eL ak) au), .d ((eL aA) dA), .d (ak zo)] [] (.aQ 0) [.arr 56 29 (List.map ak r)] := by
 refine Runs.aT Tryz.func151 rfl ?_; unfold BN at h; refine SP.rg <| .a 1 <| .e [.box (dc (ak zo)), .arr 56 29 (List.map ak [])] (aU 56 29 rfl) <| .aj ?_; obtain ⟨x1, hx1, h⟩ := aC h; refine SP.rg <| .a 3 <| .call (ahF au zo.eF x1 hx1).view ao8 <| .a 1 <| .aj ?_; obtain ⟨x2, hx2, h⟩ := aC h; refine SP.rg <| .e [.box (dc (ak zo)), .arr 56 29 (List.map ak []), .arr 56 29 (List.map ak x2)] (XD ak dh hx2 FD BD (by kernel_rfl) (by kernel_rfl) (by kernel_rfl) (by decide) rfl) <| .a 1 <| .aj <| SP.aG ?_; obtain ⟨x3, hx3, h⟩ := aC h; refine SP.rg <| .a 1 <| .call (P7 zo x3 hx3).view akX <| .p (aV aA x3 nC rfl) <| .a 1 <| .aj <| SP.block ?_; refine SP.bn (aaJ au dA x1 x3) _ _ _ _ (aF (mk 56 14680451) [(2, true)]) h ?_; clear h; intro J21 k6 hk6 v4 v5 h; unfold AX at h; refine SP.rg <| .a 1 <| .aj <| SP.aG <| SP.cnd h (fun h => ?_) fun h => ?_
 · refine SP.skip ?_; refine SP.join (fun s => ∃ (v8 : (List ah)), Sub s (aaK au dA x1 x3 v5 v8) ∧ vZ k6 v5 v8 = some r) ?_ ?_
   · clear h; rintro s ⟨v8, hs, h⟩; refine SP.sub hs ?_; clear hs; unfold vZ at h; refine SP.bQ <| .a 2 <| .nil ?_; exact hk6 _ _ _ (aF (mk 56 14680451) [(0, true)]) h
   intro K9; refine SP.block ?_; obtain ⟨x10, jq, h⟩ := aC h; refine SP.rg <| .p (aK (k := .i64) aA jq nC iy (by kernel_rfl) rfl) <| .a 3 <| .aj ?_; obtain ⟨x11, fC, h⟩ := aC h; refine SP.rg <| .a 2 <| .call (ab3 x1 x10 x11 fC) ao9 <| .a 6 <| .aj ?_; refine SP.join (fun s => ∃ (v12 : Bool) (v13 : (List ah)) (v14 : ah), Sub s (aaL au dA x1 x3 v5 v12 v13 v14) ∧ wo k6 v5 v12 v13 v14 = some r) ?_ ?_
   · clear h; rintro s ⟨v12, v13, v14, hs, h⟩; refine SP.sub hs ?_; clear hs; unfold wo at h; refine SP.rg <| .a 1 <| .aj <| SP.cnd h (fun h => ?_) fun h => ?_
     · obtain ⟨x16, hx16, h⟩ := aC h; exact SP.bQ <| .a 2 <| .p (dB FD BD (by kernel_rfl) (by kernel_rfl) (Nat.le_of_ble_eq_true (by kernel_rfl)) [.d (ak v14)] [ak v14] (by kernel_rfl) (by kernel_rfl) (by kernel_rfl) (by kernel_rfl) rfl) <| .e [.dead, .box (dc (ak v14)), .arr 56 29 (List.map ak x16)] (dO (k := 0) ak hx16 FD (by kernel_rfl) (fun _ => rfl) (by decide) rfl) <| .a 1 <| .nil <| K9 _ ⟨x16, aF (mk 56 14680451) [(2, true)], h⟩
     exact SP.skip <| K9 _ ⟨v13, aF (mk 56 14680451) [(0, true)], h⟩
   intro K17; obtain ⟨x18, kQ, h⟩ := aC h; refine SP.rg <| .a 5 <| .call (GK dA x10.Kind x10.Key x18 kQ) ajB <| .a 5 <| .aj <| SP.rg <| .a 1 <| .aj <| SP.cnd h (fun h => ?_) fun h => ?_
   · obtain ⟨x20, qH, h⟩ := aC h; exact SP.bQ <| .a 2 <| .call (nP au x18.1 x20 qH) Jp <| .a 5 <| .nil <| K17 _ ⟨x20.2, v4, x20.1, aF (mk 56 14686595) [(0, true), (2, true)], h⟩
   exact SP.skip <| K17 _ ⟨x11.2, v4, x11.1, aF (mk 56 14686595) [(0, true), (2, true)], h⟩
 refine SP.exit <| SP.rg <| .a 2 <| .aj ?_; rw [← aB h]; exact .ret (aP [(0, true)])
def aaN (au : (List ah)) (v1 : Int) (v2 : ah) : St := ⟨bY 18 [(2, .ptr 0 0), (6, .d ((eL ak) au)), (7, .d (eI (au.length : Int))), (8, .d (eI v1))], [.box (dc (ak v2))], 0⟩
def AY (au : (List ah)) (k3 : (Int → ah → Option (ah × Bool))) : Int → ah → Option (ah × Bool) := fun v1 v2 => (bif decide (v1 < (au.length : Int)) then (aY au v1).bind fun x5 => (bif (x5.Kind == 1) then some (x5, true) else k3 (IntKind.i64.wrap (v1 + 1)) v2) else some (dh, false))
def P9 (au : (List ah)) : Int → ah → Option (ah × Bool) := bn (AY au) fuel
def xO (au : (List ah)) : Option (ah × Bool) := P9 au 0 dh
theorem Qa (au r) (h : xO au = some r) : Runs Tryz.prog 165 [.d ((eL ak) au)] [] (.fG [.d (ak r.1), .d (eB r.2)]) [] := by
 refine Runs.aT Tryz.func165 rfl ?_; unfold xO at h; refine SP.rg <| .a 2 <| .aj <| SP.aG <| SP.rg <| .a 1 <| .p (aV ak au fE rfl) <| .a 1 <| .aj <| SP.block ?_; refine SP.bn (aaN au) _ _ _ _ (aF (mk 18 452) [(0, true)]) h ?_; clear h; intro J7 k3 hk3 v1 v2 h; unfold AY at h; refine SP.rg <| .a 1 <| .aj <| SP.aG <| SP.cnd h (fun h => ?_) fun h => ?_
 · refine SP.skip <| SP.aG <| SP.block ?_; obtain ⟨x5, hx5, h⟩ := aC h; refine SP.rg <| .p (aK (k := .i64) ak hx5 fE iK (by kernel_rfl) rfl) <| .a 3 <| .aj <| SP.rg <| .a 3 <| .aj <| SP.cnd h (fun h => ?_) fun h => ?_
   · refine SP.rg <| .a 3 <| .aj <| SP.ret ?_; rw [← aB h]; exact ⟨[.d (ak x5), .d (eB true)], [], ⟨⟨0, dc (ak x5), true, 29, by kernel_rfl, by kernel_rfl, by kernel_rfl, iK, Nat.le_of_ble_eq_true (by kernel_rfl), (by intro hh; cases hh), by kernel_rfl⟩, lu (by kernel_rfl), trivial⟩, by kernel_rfl, by kernel_rfl, by kernel_rfl⟩
   refine SP.skip <| SP.bQ <| .a 2 <| .nil ?_; exact hk3 _ _ _ (aF (mk 18 452) [(0, true)]) h
 refine SP.exit <| SP.rg <| .a 3 <| .aj <| SP.ret ?_; rw [← aB h]; exact ⟨[.d (ak dh), .d (eB false)], [], ⟨⟨0, dc (ak dh), true, 29, by kernel_rfl, by kernel_rfl, by kernel_rfl, iK, Nat.le_of_ble_eq_true (by kernel_rfl), (by intro hh; cases hh), by kernel_rfl⟩, lu (by kernel_rfl), trivial⟩, by kernel_rfl, by kernel_rfl, by kernel_rfl⟩
def pF (aJ : ByteArray) (zY : ByteArray) : Option (ByteArray × ByteArray × Bool) := (nV aJ zY).bind fun x1 => (bif decide (x1 ≥ 0) then (Bo aJ 0 x1).bind fun x3 => (Bo aJ (IntKind.i64.wrap (x1 + (zY.size : Int))) ((aJ).size)).bind fun x4 => some (x3, x4, true) else some (aJ, s0, false))
theorem KA (aJ zY r) (h : pF aJ zY = some r) : Runs Tryz.prog 201 [.d (eS aJ), .d (eS zY)] [] (.fG [.d (eS r.1), .d (eS r.2.1), .d (eB r.2.2)]) [] := by
 refine Runs.aT Tryz.func201 rfl ?_; unfold pF at h; refine SP.rg <| .a 3 <| .aj <| SP.aG ?_; obtain ⟨x1, hx1, h⟩ := aC h; refine SP.rg <| .a 2 <| .call (IG aJ zY x1 hx1) apb <| .a 1 <| .aj <| SP.rg <| .a 2 <| .aj <| SP.cnd h (fun h => ?_) fun h => ?_
 · obtain ⟨x3, hx3, x4, hx4, h⟩ := aX h; refine SP.qp (by kernel_rfl) (by kernel_rfl) (by kernel_rfl) (.a 2 <| .p (Ny hx3 (fun _ => rfl) (by intro hh; cases hh) qZ rfl) <| .a 5 <| .p (Ny hx4 (by intro hh; cases hh) (fun _ => rfl) qZ rfl) <| .a 3 <| .nil _) ?_; rw [← aB h]; exact .ret (aP [])
 refine SP.skip <| SP.rg <| .a 4 <| .aj ?_; rw [← aB h]; exact .ret (aP [])
def strings_Cut (aJ : ByteArray) (zY : ByteArray) : Option (ByteArray × ByteArray × Bool) := (pF aJ zY).bind fun x1 => some (x1.1, x1.2.1, x1.2.2)
theorem ab4 (aJ zY r) (h : strings_Cut aJ zY = some r) : Runs Tryz.prog 188 [.d (eS aJ), .d (eS zY)] [] (.fG [.d (eS r.1), .d (eS r.2.1), .d (eB r.2.2)]) [] := by
 refine Runs.aT Tryz.func188 rfl ?_; unfold strings_Cut at h; refine SP.rg <| .a 3 <| .aj ?_; obtain ⟨x1, hx1, h⟩ := aC h; refine SP.rg <| .a 2 <| .call (KA aJ zY x1 hx1) apc <| .a 6 <| .aj ?_; rw [← aB h]; exact .ret (aP [])
def wu (pG : Int) : Option Bool := (bif decide (pG ≥ 97) then some (decide (pG ≤ 122)) else some false).bind fun x1 => (bif x1 then some true else (bif decide (pG ≥ 48) then some (decide (pG ≤ 57)) else some false).bind fun x5 => some x5).bind fun x3 => some x3
theorem EZ (pG r) (h : wu pG = some r) : Runs Tryz.prog 205 [.d (eU8 pG)] [] (.d (eB r)) [] := by
 refine Runs.aT Tryz.func205 rfl ?_; unfold wu at h; refine SP.rg <| .a 1 <| .aj <| SP.rg <| .a 2 <| ?_; obtain ⟨x1, hx1, h⟩ := aC h; refine .merge 4 [5, 6, 7] 8 (.d (eB x1)) ?_ ?_
 · rcases dn hx1 with ⟨hb2, h⟩ | ⟨hb2, h⟩
   · refine .c (congrArg some hb2) <| .a 3 <| .aj ?_; obtain rfl := aB h; kernel_rfl
   refine .c (congrArg some hb2) <| .a 3 <| .aj ?_; obtain rfl := aB h; kernel_rfl
 refine .a 1 <| ?_; obtain ⟨x3, hx3, h⟩ := aC h; refine .merge 7 [10, 11, 12, 13, 14, 15] 16 (.d (eB x3)) ?_ ?_
 · replace h := hx3; cases x1 with
   | true =>
     replace h := bI rfl h; refine .a 7 <| .aj ?_; obtain rfl := aB h; kernel_rfl
   | false =>
     replace h := bC rfl h; refine .a 2 <| ?_; obtain ⟨x5, hx5, h⟩ := aC h; refine .merge 4 [12, 13, 14] 15 (.d (eB x5)) ?_ ?_
     · rcases dn hx5 with ⟨hb6, h⟩ | ⟨hb6, h⟩
       · refine .c (congrArg some hb6) <| .a 3 <| .aj ?_; obtain rfl := aB h; kernel_rfl
       refine .c (congrArg some hb6) <| .a 3 <| .aj ?_; obtain rfl := aB h; kernel_rfl
     refine .a 1 <| .aj ?_; obtain rfl := aB h; kernel_rfl
 refine .a 1 <| .aj ?_; rw [← aB h]; exact .ret (aP [])
def Aq (pG : Int) : Option Bool := (bif (pG == 95) then some true else some (pG == 46)).bind fun x1 => (bif x1 then some true else some (pG == 45)).bind fun x3 => (bif x3 then some true else some (pG == 61)).bind fun x5 => some x5
theorem ab5 (pG r) (h : Aq pG = some r) : Runs Tryz.prog 203 [.d (eU8 pG)] [] (.d (eB r)) [] := by
 refine Runs.aT Tryz.func203 rfl ?_; unfold Aq at h; refine SP.rg <| .a 1 <| .aj <| SP.rg <| .a 2 <| ?_; obtain ⟨x1, hx1, h⟩ := aC h; refine .merge 4 [5, 6, 7] 8 (.d (eB x1)) ?_ ?_
 · rcases dn hx1 with ⟨hb2, h⟩ | ⟨hb2, h⟩
   · refine .c (congrArg some hb2) <| .a 3 <| .aj ?_; obtain rfl := aB h; kernel_rfl
   refine .c (congrArg some hb2) <| .a 3 <| .aj ?_; obtain rfl := aB h; kernel_rfl
 refine .a 1 <| ?_; obtain ⟨x3, hx3, h⟩ := aC h; refine .merge 3 [10, 11] 12 (.d (eB x3)) ?_ ?_
 · replace h := hx3; cases x1 with
   | true =>
     replace h := bI rfl h; refine .a 3 <| .aj ?_; obtain rfl := aB h; kernel_rfl
   | false =>
     replace h := bC rfl h; refine .a 3 <| .aj ?_; obtain rfl := aB h; kernel_rfl
 refine .a 1 <| ?_; obtain ⟨x5, hx5, h⟩ := aC h; refine .merge 3 [14, 15] 16 (.d (eB x5)) ?_ ?_
 · replace h := hx5; cases x3 with
   | true =>
     replace h := bI rfl h; refine .a 3 <| .aj ?_; obtain rfl := aB h; kernel_rfl
   | false =>
     replace h := bC rfl h; refine .a 3 <| .aj ?_; obtain rfl := aB h; kernel_rfl
 refine .a 1 <| .aj ?_; rw [← aB h]; exact .ret (aP [])
def Oh (aJ : ByteArray) (v4 : Int) : St := ⟨bY 33 [(0, .d (eS aJ)), (1, .d (.fn (.func 203) [] [])), (15, .d (eI (aJ.size : Int))), (16, .d (eI v4))], [], 0⟩
def pJ (aJ : ByteArray) (k5 : (Int → Option Bool)) : Int → Option Bool := fun v4 => (bif decide (v4 < (aJ.size : Int)) then (mF aJ v4).bind fun x7 => (wu x7).bind fun x8 => (bif (!x8) then (mF aJ v4).bind fun x11 => ((fun a0 => Aq a0) x11).bind fun x12 => some (!x12) else some false).bind fun x9 => (bif x9 then some false else k5 (IntKind.i64.wrap (v4 + 1))) else some true)
def uM (aJ : ByteArray) : Int → Option Bool := bM (pJ aJ) fuel
def oH (aJ : ByteArray) : Option Bool := (bif decide ((aJ.size : Int) < 1) then some true else some (decide ((aJ.size : Int) > 32))).bind fun x1 => (bif x1 then some false else uM aJ 0)
theorem Oi (aJ r) (h : oH aJ = some r) : Runs Tryz.prog 202 [.d (eS aJ), .d (.fn (.func 203) [] [])] [] (.d (eB r)) [] := by
 refine Runs.aT Tryz.func202 rfl ?_; unfold oH at h; refine SP.rg <| .a 1 <| .aj <| SP.aG <| SP.rg <| .a 3 <| ?_; obtain ⟨x1, hx1, h⟩ := aC h; refine .merge 5 [9, 10, 11, 12] 13 (.d (eB x1)) ?_ ?_
 · rcases dn hx1 with ⟨hb2, h⟩ | ⟨hb2, h⟩
   · refine .c (congrArg some hb2) <| .a 4 <| .aj ?_; obtain rfl := aB h; kernel_rfl
   refine .c (congrArg some hb2) <| .a 4 <| .aj ?_; obtain rfl := aB h; kernel_rfl
 refine .aj <| SP.cnd h (fun h => ?_) fun h => ?_
 · refine SP.rg <| .a 1 <| .aj ?_; rw [← aB h]; exact .ret (aP [])
 refine SP.skip <| SP.aG <| SP.rg <| .a 3 <| .aj <| SP.block ?_; refine SP.bM (Oh aJ) _ _ _ (aF (mk 33 98307) []) h ?_; clear h; intro J14 k5 hk5 v4 h; unfold pJ at h; refine SP.rg <| .a 1 <| .aj <| SP.aG <| SP.cnd h (fun h => ?_) fun h => ?_
 · refine SP.skip <| SP.aG <| SP.block <| SP.rg <| .a 2 <| .aj ?_; obtain ⟨x7, hx7, x8, gJ, h⟩ := aX h; refine SP.rg <| .a 2 <| .p (kJ (k := .i64) hx7 qZ rfl) <| .call (EZ x7 x8 gJ) aaC <| .a 1 <| ?_; obtain ⟨x9, fK, h⟩ := aC h; refine .merge 8 [24, 25, 26, 27, 28, 29, 30] 31 (.d (eB x9)) ?_ ?_
   · rcases dn fK with ⟨jK, h⟩ | ⟨jK, h⟩
     · obtain ⟨x11, fC, x12, iH, h⟩ := aX h; refine .c (congrArg some jK) <| .a 3 <| .p (kJ (k := .i64) fC qZ rfl) <| .p (Rw (d := (.fn (.func 203) [] [])) (⟨203, [], rfl, ape, fun a0 b hb => ab5 a0 b hb⟩ : Fn1 Tryz.prog eU8 eB (.fn (.func 203) [] []) (fun a0 => Aq a0)) iH rfl) <| .a 2 <| .aj ?_; obtain rfl := aB h; kernel_rfl
     refine .c (congrArg some jK) <| .a 7 <| .aj ?_; obtain rfl := aB h; kernel_rfl
   refine .aj <| SP.cnd h (fun h => ?_) fun h => ?_
   · refine SP.rg <| .a 1 <| .aj ?_; rw [← aB h]; exact .ret (aP [])
   refine SP.skip <| SP.bQ <| .a 2 <| .nil ?_; exact hk5 _ _ (aF (mk 33 98307) []) h
 refine SP.exit <| SP.rg <| .a 1 <| .aj ?_; rw [← aB h]; exact .ret (aP [])
def KC (aJ : ByteArray) : Option Bool := (oH aJ).bind fun x1 => some x1
theorem afR (aJ r) (h : KC aJ = some r) : Runs Tryz.prog 189 [.d (eS aJ)] [] (.d (eB r)) [] := by
 refine Runs.aT Tryz.func189 rfl ?_; unfold KC at h; refine SP.rg <| .a 1 <| .aj ?_; obtain ⟨x1, hx1, h⟩ := aC h; refine SP.rg <| .a 1 <| .e (x := .d (eB x1)) [] (fO [] (dL := [.d (eS aJ), .d (.fn (.func 203) [] [])]) (dR := [.d (eS aJ), .d (.fn (.func 203) [] [])]) (res' := .d (eB x1)) (Oi aJ x1 hx1) akZ (by kernel_rfl) trivial ⟨.inl rfl, .inl rfl, trivial⟩ rfl (by kernel_rfl) rfl) <| .a 1 <| .aj ?_; rw [← aB h]; exact .ret (aP [])
def xP (pG : Int) : Option Bool := (bif (pG == 46) then some true else some (pG == 45)).bind fun x1 => some x1
theorem aaO (pG r) (h : xP pG = some r) : Runs Tryz.prog 204 [.d (eU8 pG)] [] (.d (eB r)) [] := by
 refine Runs.aT Tryz.func204 rfl ?_; unfold xP at h; refine SP.rg <| .a 1 <| .aj <| SP.rg <| .a 2 <| ?_; obtain ⟨x1, hx1, h⟩ := aC h; refine .merge 4 [5, 6, 7] 8 (.d (eB x1)) ?_ ?_
 · rcases dn hx1 with ⟨hb2, h⟩ | ⟨hb2, h⟩
   · refine .c (congrArg some hb2) <| .a 3 <| .aj ?_; obtain rfl := aB h; kernel_rfl
   refine .c (congrArg some hb2) <| .a 3 <| .aj ?_; obtain rfl := aB h; kernel_rfl
 refine .a 1 <| .aj ?_; rw [← aB h]; exact .ret (aP [])
def Nb (aJ : ByteArray) (v4 : Int) : St := ⟨bY 33 [(0, .d (eS aJ)), (1, .d (.fn (.func 204) [] [])), (15, .d (eI (aJ.size : Int))), (16, .d (eI v4))], [], 0⟩
def oN (aJ : ByteArray) (k5 : (Int → Option Bool)) : Int → Option Bool := fun v4 => (bif decide (v4 < (aJ.size : Int)) then (mF aJ v4).bind fun x7 => (wu x7).bind fun x8 => (bif (!x8) then (mF aJ v4).bind fun x11 => ((fun a0 => xP a0) x11).bind fun x12 => some (!x12) else some false).bind fun x9 => (bif x9 then some false else k5 (IntKind.i64.wrap (v4 + 1))) else some true)
def tq (aJ : ByteArray) : Int → Option Bool := bM (oN aJ) fuel
def nR (aJ : ByteArray) : Option Bool := (bif decide ((aJ.size : Int) < 1) then some true else some (decide ((aJ.size : Int) > 32))).bind fun x1 => (bif x1 then some false else tq aJ 0)
theorem Nc (aJ r) (h : nR aJ = some r) : Runs Tryz.prog 202 [.d (eS aJ), .d (.fn (.func 204) [] [])] [] (.d (eB r)) [] := by
 refine Runs.aT Tryz.func202 rfl ?_; unfold nR at h; refine SP.rg <| .a 1 <| .aj <| SP.aG <| SP.rg <| .a 3 <| ?_; obtain ⟨x1, hx1, h⟩ := aC h; refine .merge 5 [9, 10, 11, 12] 13 (.d (eB x1)) ?_ ?_
 · rcases dn hx1 with ⟨hb2, h⟩ | ⟨hb2, h⟩
   · refine .c (congrArg some hb2) <| .a 4 <| .aj ?_; obtain rfl := aB h; kernel_rfl
   refine .c (congrArg some hb2) <| .a 4 <| .aj ?_; obtain rfl := aB h; kernel_rfl
 refine .aj <| SP.cnd h (fun h => ?_) fun h => ?_
 · refine SP.rg <| .a 1 <| .aj ?_; rw [← aB h]; exact .ret (aP [])
 refine SP.skip <| SP.aG <| SP.rg <| .a 3 <| .aj <| SP.block ?_; refine SP.bM (Nb aJ) _ _ _ (aF (mk 33 98307) []) h ?_; clear h; intro J14 k5 hk5 v4 h; unfold oN at h; refine SP.rg <| .a 1 <| .aj <| SP.aG <| SP.cnd h (fun h => ?_) fun h => ?_
 · refine SP.skip <| SP.aG <| SP.block <| SP.rg <| .a 2 <| .aj ?_; obtain ⟨x7, hx7, x8, gJ, h⟩ := aX h; refine SP.rg <| .a 2 <| .p (kJ (k := .i64) hx7 qZ rfl) <| .call (EZ x7 x8 gJ) aaC <| .a 1 <| ?_; obtain ⟨x9, fK, h⟩ := aC h; refine .merge 8 [24, 25, 26, 27, 28, 29, 30] 31 (.d (eB x9)) ?_ ?_
   · rcases dn fK with ⟨jK, h⟩ | ⟨jK, h⟩
     · obtain ⟨x11, fC, x12, iH, h⟩ := aX h; refine .c (congrArg some jK) <| .a 3 <| .p (kJ (k := .i64) fC qZ rfl) <| .p (Rw (d := (.fn (.func 204) [] [])) (⟨204, [], rfl, apg, fun a0 b hb => aaO a0 b hb⟩ : Fn1 Tryz.prog eU8 eB (.fn (.func 204) [] []) (fun a0 => xP a0)) iH rfl) <| .a 2 <| .aj ?_; obtain rfl := aB h; kernel_rfl
     refine .c (congrArg some jK) <| .a 7 <| .aj ?_; obtain rfl := aB h; kernel_rfl
   refine .aj <| SP.cnd h (fun h => ?_) fun h => ?_
   · refine SP.rg <| .a 1 <| .aj ?_; rw [← aB h]; exact .ret (aP [])
   refine SP.skip <| SP.bQ <| .a 2 <| .nil ?_; exact hk5 _ _ (aF (mk 33 98307) []) h
 refine SP.exit <| SP.rg <| .a 1 <| .aj ?_; rw [← aB h]; exact .ret (aP [])
def GR (aJ : ByteArray) : Option Bool := (nR aJ).bind fun x1 => (bif x1 then (mF aJ 0).bind fun x4 => (wu x4).bind fun x5 => some x5 else some false).bind fun x2 => (bif x2 then (mF aJ (IntKind.i64.wrap ((aJ.size : Int) - 1))).bind fun x8 => (wu x8).bind fun x9 => some x9 else some false).bind fun x6 => some x6
theorem adV (aJ r) (h : GR aJ = some r) : Runs Tryz.prog 190 [.d (eS aJ)] [] (.d (eB r)) [] := by
 refine Runs.aT Tryz.func190 rfl ?_; unfold GR at h; refine SP.rg <| .a 1 <| .aj ?_; obtain ⟨x1, hx1, h⟩ := aC h; refine SP.rg <| .a 1 <| .e (x := .d (eB x1)) [] (fO [] (dL := [.d (eS aJ), .d (.fn (.func 204) [] [])]) (dR := [.d (eS aJ), .d (.fn (.func 204) [] [])]) (res' := .d (eB x1)) (Nc aJ x1 hx1) akZ (by kernel_rfl) trivial ⟨.inl rfl, .inl rfl, trivial⟩ rfl (by kernel_rfl) rfl) <| .a 1 <| ?_; obtain ⟨x2, hx2, h⟩ := aC h; refine .merge 4 [6, 7, 8] 9 (.d (eB x2)) ?_ ?_
 · replace h := hx2; cases x1 with
   | true =>
     replace h := bI rfl h; obtain ⟨x4, hx4, x5, hx5, h⟩ := aX h; refine .a 1 <| .p (kJ (k := .i64) hx4 qZ rfl) <| .call (EZ x4 x5 hx5) aaC <| .a 1 <| .aj ?_; obtain rfl := aB h; kernel_rfl
   | false =>
     replace h := bC rfl h; refine .a 4 <| .aj ?_; obtain rfl := aB h; kernel_rfl
 refine .a 1 <| ?_; obtain ⟨x6, hx6, h⟩ := aC h; refine .merge 7 [11, 12, 13, 14, 15, 16] 17 (.d (eB x6)) ?_ ?_
 · replace h := hx6; cases x2 with
   | true =>
     replace h := bI rfl h; obtain ⟨x8, gJ, x9, fK, h⟩ := aX h; refine .a 4 <| .p (kJ (k := .i64) gJ qZ rfl) <| .call (EZ x8 x9 fK) aaC <| .a 1 <| .aj ?_; obtain rfl := aB h; kernel_rfl
   | false =>
     replace h := bC rfl h; refine .a 7 <| .aj ?_; obtain rfl := aB h; kernel_rfl
 refine .a 1 <| .aj ?_; rw [← aB h]; exact .ret (aP [])
def F9 (nZ : ByteArray) (Oj : ByteArray) : Option (ByteArray × ByteArray × Bool) := (bif (nZ.toList == s0.toList) then some true else (mF nZ 0).bind fun x3 => (strings_IndexByte Oj x3).bind fun x4 => some (decide (x4 < 0))).bind fun x1 => (bif x1 then some (s0, s0, false) else (Bo nZ 1 ((nZ).size)).bind fun x6 => (strings_Cut x6 XJ).bind fun x7 => (bif (!x7.2.2) then some true else (KC x7.1).bind fun x10 => some (!x10)).bind fun x8 => (bif x8 then some true else (GR x7.2.1).bind fun fQ => some (!fQ)).bind fun x11 => (bif x11 then some (s0, s0, false) else some (x7.1, x7.2.1, true)))
theorem afS (nZ Oj r) (h : F9 nZ Oj = some r) : Runs Tryz.prog 177 [.d (eS nZ), .d (eS Oj)] [] (.fG [.d (eS r.1), .d (eS r.2.1), .d (eB r.2.2)]) [] := by
 refine Runs.aT Tryz.func177 rfl ?_; unfold F9 at h; refine SP.rg <| .a 3 <| .aj <| SP.aG <| SP.rg <| .a 2 <| ?_; obtain ⟨x1, hx1, h⟩ := aC h; refine .merge 7 [12, 13, 14, 15, 16, 17] 18 (.d (eB x1)) ?_ ?_
 · rcases dn hx1 with ⟨hb2, h⟩ | ⟨hb2, h⟩
   · refine .c (congrArg some hb2) <| .a 6 <| .aj ?_; obtain rfl := aB h; kernel_rfl
   obtain ⟨x3, hx3, x4, hx4, h⟩ := aX h; refine .c (congrArg some hb2) <| .a 2 <| .p (kJ (k := .i64) hx3 qZ rfl) <| .call (TR Oj x3 x4 hx4) apa <| .a 2 <| .aj ?_; obtain rfl := aB h; kernel_rfl
 refine .aj <| SP.cnd h (fun h => ?_) fun h => ?_
 · refine SP.rg <| .a 3 <| .aj ?_; rw [← aB h]; exact .ret (aP [])
 refine SP.skip ?_; obtain ⟨x6, hx6, x7, hx7, h⟩ := aX h; refine SP.rg <| .a 1 <| .p (Ny hx6 (by intro hh; cases hh) (fun _ => rfl) qZ rfl) <| .call (ab4 x6 XJ x7 hx7) apd <| .a 7 <| .aj <| SP.aG <| SP.rg <| .a 2 <| ?_; obtain ⟨x8, gJ, h⟩ := aC h; refine .merge 5 [28, 29, 30, 31] 32 (.d (eB x8)) ?_ ?_
 · rcases dn gJ with ⟨F8, h⟩ | ⟨F8, h⟩
   · refine .c (congrArg some F8) <| .a 4 <| .aj ?_; obtain rfl := aB h; kernel_rfl
   obtain ⟨x10, jq, h⟩ := aC h; refine .c (congrArg some F8) <| .a 1 <| .call (afR x7.1 x10 jq) apf <| .a 2 <| .aj ?_; obtain rfl := aB h; kernel_rfl
 refine .a 1 <| ?_; obtain ⟨x11, fC, h⟩ := aC h; refine .merge 4 [34, 35, 36] 37 (.d (eB x11)) ?_ ?_
 · replace h := fC; cases x8 with
   | true =>
     replace h := bI rfl h; refine .a 4 <| .aj ?_; obtain rfl := aB h; kernel_rfl
   | false =>
     replace h := bC rfl h; obtain ⟨fQ, mY, h⟩ := aC h; refine .a 1 <| .call (adV x7.2.1 fQ mY) aph <| .a 2 <| .aj ?_; obtain rfl := aB h; kernel_rfl
 refine .aj <| SP.cnd h (fun h => ?_) fun h => ?_
 · refine SP.rg <| .a 3 <| .aj ?_; rw [← aB h]; exact .ret (aP [])
 refine SP.skip <| SP.rg <| .a 5 <| .aj ?_; rw [← aB h]; exact .ret (aP [])
def xQ (nZ : ByteArray) : Option ByteArray := (F9 nZ NZ).bind fun x1 => some x1.2.1
theorem Qb (nZ r) (h : xQ nZ = some r) : Runs Tryz.prog 167 [.d (eS nZ)] [] (.d (eS r)) [] := by
 refine Runs.aT Tryz.func167 rfl ?_; unfold xQ at h; refine SP.rg <| .a 1 <| .aj ?_; obtain ⟨x1, hx1, h⟩ := aC h; refine SP.rg <| .a 1 <| .call (afS nZ NZ x1 hx1) apj <| .a 7 <| .aj <| SP.rg <| .a 2 <| .aj ?_; rw [← aB h]; exact .ret (aP [])
def tV (jL : Int) : Option (Except Value Unit) := some (.error (.iface 187 (.agg #[.int .i64 ((⟨jL⟩ : Ak).aay)])))
theorem kY (jL r) (h : tV jL = some r) : AQ Tryz.prog 168 [.d (eI jL)] r (fun r => .fG []) := by
 refine AQ.aT Tryz.func168 rfl ?_; unfold tV at h; refine SP.bQ <| .a 2 <| .p (x := .d (.lit (.iface 187 (.agg #[.int .i64 ((⟨jL⟩ : Ak).aay)])))) (YA [.int .i64 ((⟨jL⟩ : Ak).aay)] aop rfl) <| ?_; exact LP.panic (t := 187) (u := (.agg #[.int .i64 ((⟨jL⟩ : Ak).aay)])) rfl (by kernel_rfl) (by kernel_rfl) <| Or.inr ⟨_, (aB h).symm, rfl, by kernel_rfl⟩
def nG (aeF : Bool) (vF : Int) : Option (Except Value Unit) := (bif (!aeF) then (tV vF).bind fun x2 => xG x2 fun y3 => some (.ok ()) else some (.ok ()))
theorem fZ (aeF vF r) (h : nG aeF vF = some r) : AQ Tryz.prog 166 [.d (eB aeF), .d (eI vF)] r (fun r => .fG []) := by
 refine AQ.aT Tryz.func166 rfl ?_; unfold nG at h; refine SP.rg <| .a 2 <| .aj <| SP.cnd h (fun h => ?_) fun h => ?_
 · obtain ⟨x2, hx2, h⟩ := aC h; cases x2 with
   | error u4 =>
     replace h := pV h; refine SP.bQ <| .a 1 <| ?_; exact LP.wQ ((kY vF _ hx2).2 u4 rfl) Eb <| Or.inr ⟨_, (aB h).symm, rfl, by kernel_rfl⟩
   | ok y3 =>
     replace h := sH h; refine SP.bQ <| .a 1 <| ?_; refine .call ((kY vF _ hx2).1 y3 rfl) Eb <| .nil <| Or.inl ⟨(), (aB h).symm, ?_⟩; exact ⟨[], [], trivial, by kernel_rfl, by kernel_rfl, by kernel_rfl⟩
 refine SP.skip <| Or.inl ⟨(), (aB h).symm, ?_⟩; exact ⟨[], [], trivial, by kernel_rfl, by kernel_rfl, by kernel_rfl⟩
end Go.Proofs.YtelpgcaiadpjpaaGreat
end
