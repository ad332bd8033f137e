/- Part 3 of what the laws' proofs lean on: states of the walk, typed functions of the program and their laws (short forms written by wip/shrink.py; no condition). -/
import Derived.Test.YtelpgcaiadpjpaaGreatRb2
set_option linter.unusedVariables false
set_option linter.unusedSimpArgs false
section
namespace Go.Proofs.YtelpgcaiadpjpaaGreat
open Go.RowKit
theorem Mem.freeze {C : Cx} {ok : Nat → Prop} {H : List Hd} {es : List bF} {w : World} (hm : Mem C ok H es w) {k : Nat} {e : bF} {hd : Hd} (hk : es[k]? = some e) (hl : e.live = true) (hhd : H[k]? = some hd) : Mem C (fun b => ok b ∨ dn hd.v = some b) H (es.set k .dead) w := by
 have hkl : k < es.length := (List.getElem?_eq_some_iff.1 hk).1; have hblk := fun b hb => hm.blk k _ hd b hk hl hhd hb; have hg : Grow ok w (fun b => ok b ∨ dn hd.v = some b) w := fun b hb => ⟨.inl hb, rfl⟩
 refine ⟨hm.fr, fun b hb => .inl (hm.qL b hb), ?_, ?_, hm.names, by simp [hm.hlen], ?_, ?_, ?_⟩
 · rintro b (hb | hb)
   · exact hm.qM b hb
   exact .inr (hblk b hb).2.2
 · rintro b (hb | hb)
   · exact hm.iJ b hb
   exact (hblk b hb).2.1
 · intro j e' h' he hh'; rcases mD hkl he with ⟨rfl, rfl⟩ | ⟨_, he'⟩
   · trivial
   exact (hm.ent j e' h' he' hh').mono hg (.refl _) (fun _ _ _ => rfl)
 · intro j e' h' b he hl' hh' hb; rcases mD hkl he with ⟨rfl, rfl⟩ | ⟨hne, he'⟩
   · cases hl'
   have h3 := hm.blk j e' h' b he' hl' hh' hb; refine ⟨fun hb' => ?_, h3.2⟩; rcases hb' with hb' | hb'
   · exact h3.1 hb'
   exact hne (hm.yY j k e' _ h' hd b he' hk hl' hl hh' hhd hb hb')
 intro i j e1 e2 h1 h2 b he1 he2 hl1 hl2 hh1 hh2 hb1 hb2; rcases mD hkl he1 with ⟨rfl, rfl⟩ | ⟨_, he1'⟩
 · cases hl1
 rcases mD hkl he2 with ⟨rfl, rfl⟩ | ⟨_, abB⟩
 · cases hl2
 exact hm.yY i j e1 e2 h1 h2 b he1' abB hl1 hl2 hh1 hh2 hb1 hb2
section
variable {P : Program} {o : Oper} {es : List bF}
theorem ah5 {t kt vt : TypeId} {x : Operand} {k : Nat} {m : List (Value × D)} (ht : P.underlying t = some (.map kt vt)) (he : es[k]? = some (.map m)) (ho : o.op = .range t x) : bH P o [(x, .mp k)] es (.ptr es.length 0) (es.set k .dead ++ [.iter m []]) :=
 .eff fun C ok H a w hm hn => by
  obtain ⟨hd, hh, hok⟩ := jy hm.ent hm.hlen he; obtain ⟨b, ms, clock, h1, h2, h3⟩ := hok; have hx := Ox (hn (x, .mp k) (by simp)) hh; simp only at hx; have hb : b < w.heap.size := (Array.getElem?_eq_some_iff.1 h2).1; have m0 := hm.freeze he rfl hh; have g0 : Grow ok w (fun c => ok c ∨ dn hd.v = some c) w := fun c hc => ⟨.inl hc, rfl⟩
  have hbo : dn hd.v = some b := by rw [h1]; rfl
  have g1 : Grow (fun c => ok c ∨ dn hd.v = some c) w (fun c => ok c ∨ dn hd.v = some c) (w.alloc (.mapIter (some b) clock #[] clock)) := fun c hc => ⟨hc, Below.heap_alloc _ _ _ (m0.iJ c hc)⟩
  have hb2 : iC (fun c => ok c ∨ dn hd.v = some c) (w.alloc (.mapIter (some b) clock #[] clock)) (H ++ [⟨.pointer (some ⟨w.heap.size, 0, none⟩), 0⟩]) ⟨.pointer (some ⟨w.heap.size, 0, none⟩), 0⟩ (.iter m []) :=
   ⟨w.heap.size, b, ms, clock, #[], rfl, World.alloc_heap_new _ _, .inr hbo, (Below.heap_alloc _ _ _ hb).trans h2, (h3.mono g0).mono g1, rfl, fun j i hj => by simp at hj⟩
  obtain ⟨m1, g2⟩ := m0.push (.mapIter (some b) clock #[] clock) ⟨.pointer (some ⟨w.heap.size, 0, none⟩), 0⟩ _ (TQ w) hb2; refine ⟨.pointer (some ⟨w.heap.size, 0, none⟩), _, _, _, .inl ?_, g0.trans g2, Names.push _ _, m1, .ptr _ _ w.heap.size 0 (by rw [← hm.hlen]; simp)⟩; have hr := run_range_map (P := P) w t kt vt b ms clock ht h2; simp [execOp, ho, hx, h1, hr]
theorem born_inj {ok : Nat → Prop} {w : World} {es : List (Value × D)} {ms : Array MapEntry} {clock : Nat} (h : rP ok w es ms clock) {i j : Nat} {m n : MapEntry} (hi : ms[i]? = some m) (hj : ms[j]? = some n) (hb : m.born = n.born) : i = j := by
 rcases Nat.lt_trichotomy i j with h1 | h1 | h1
 · have := h.inc i j m n h1 hi hj; omega
 · exact h1
 have := h.inc j i n m h1 hj hi; omega
theorem afv {ok : Nat → Prop} {w : World} {es : List (Value × D)} {ms : Array MapEntry} {clock : Nat} (h : rP ok w es ms clock) : (ms.toList.map (·.born)).Nodup := by
 unfold List.Nodup; rw [List.pairwise_iff_getElem]; intro i j hi hj hij; simp only [List.length_map, Array.length_toList] at hi hj; have e1 : ms[i]? = some ms[i] := by simp [hi]
 have e2 : ms[j]? = some ms[j] := by simp [hj]
 simp only [List.getElem_map, Array.getElem_toList]; intro e; have := born_inj h e1 e2 e; omega
theorem ah6 {K V : Type} {x : Operand} {n i : Nat} {ek : K → Value} {ev : V → D} {m : List (K × V)} {vis : List Nat} {p : K × V} (hp : m[i]? = some p) (he : es[n]? = some (.iter (m.map (eM ek ev)) (vis ++ [i]))) (ho : o.op = .entry x) :
 bH P o [(x, .ptr n 0)] es (.dW [.d (.lit (ek p.1)), .d (ev p.2)]) es :=
 .pure fun ok H a w hent hl hn => by
  obtain ⟨hd, hh, hok⟩ := jy hent hl he; obtain ⟨bi, bm, ms, clock, seen, h1, h2, h3, h4, h5, h6, h7⟩ := hok; have hx := hn (x, .ptr n 0) (by simp); simp only at hx; generalize hv : a.eval x = v at hx; cases hx with
  | ptr _ _ b' s hH =>
    rw [hh] at hH; obtain rfl := Option.some.inj hH; simp only [Value.pointer.injEq, Option.some.injEq, Addr.mk.injEq] at h1; obtain ⟨rfl, _⟩ := h1; obtain ⟨e, q1, q2⟩ := h7 vis.length i (by simp); have hpe : (m.map (eM ek ev))[i]? = some (eM ek ev p) := by rw [List.getElem?_map, hp]; rfl
    obtain ⟨r1, r2, _⟩ := h5.ent i _ e hpe q1; refine ⟨.tuple #[e.key, e.val], ?_, .dW _ _ rfl fun j hj => ?_⟩
    · have hback : seen.back? = some e.born := by
       rw [Array.back?_eq_getElem?, h6]; simpa using q2
      have hmem : e ∈ ms.toList := by
       rw [Array.mem_toList_iff]; exact Array.mem_of_getElem? q1
      have hf : ms.find? (·.born == e.born) = some e := by rw [← Array.find?_toList]; exact find_born e ms.toList (afv h5) hmem
      have g1 : (getObj b').run P w = .ok (.mapIter (some bm) clock seen clock) w := by simp [getObj, Sem.run, h2]
      have g2 : (getObj bm).run P w = .ok (.map ms clock) w := MapKept.run_getObj_map h4; simp [execOp, ho, hv, Instr.entry, g1, g2, hback, hf]
    match j, hj with
    | 0, _ => rw [show ([AV.d (.lit (ek p.1)), .d (ev p.2)] : List AV).getD 0 .junk = .d (.lit (ek p.1)) from rfl, show (#[e.key, e.val] : Array Value).getD 0 undef = e.key from rfl, r1]; exact .d _ _ (.lit _)
    | 1, _ => exact .d _ _ r2
end
theorem ah7 {P : Program} {w : World} {ok : Nat → Prop} {ty : TypeId} {bi bm clock : Nat} {seen : Array Nat} {ms : Array MapEntry} {es : List (Value × D)} (hi : w.heap[bi]? = some (.mapIter (some bm) clock seen clock)) (hb : w.heap[bm]? = some (.map ms clock)) (hM : rP ok w es ms clock) :
 ((leftOf ms seen).size = 0 ∧ (Instr.next (.pointer (some ⟨bi, 0, none⟩)) false ty).run P w = .ok (.tuple #[.bool false]) w) ∨
 ∃ e ∈ (leftOf ms seen).toList, ∃ w1 : World, (w1 = w ∨ w1 = w.drew) ∧ (Instr.next (.pointer (some ⟨bi, 0, none⟩)) false ty).run P w = .ok (.tuple #[.bool true, e.key, e.val]) (w1.putObj bi (.mapIter (some bm) clock (seen.push e.born) clock)) := by
 have hold : ∀ x ∈ ms.toList, x.born < clock := fun x hx => by
  obtain ⟨i, hi, rfl⟩ := List.getElem_of_mem hx; have hi' : i < ms.size := by simpa using hi
  have hie : i < es.length := by rw [← hM.len]; exact hi'
  have := (hM.ent i es[i] ms[i] (by simp [hie]) (by simp [hi'])).2.2; simpa using this
 simp only [Instr.next, getObj, Sem.run_bind, Sem.run, hi, hb, Result.andThen, next_test_false seen ms clock clock hold (Nat.le_refl _), Bool.false_eq_true, if_false]; unfold leftOf; have hmem : ∀ x ∈ (Array.filter (fun e => !seen.contains e.born) ms).toList, x.born < clock := fun x hx => hold x (by simp at hx ⊢; exact hx.1); generalize Array.filter (fun e => !seen.contains e.born) ms = L at hmem ⊢; have e1 : L.filter (fun x => decide (x.born < clock)) = L := Array.filter_eq_self.2 (fun x hx => by simpa using hmem x (by simpa using hx))
 have e2 : L.filter (fun x => decide (x.born ≥ clock)) = #[] := by
  rw [Array.filter_eq_empty_iff]; intro x hx; have := hmem x (by simpa using hx); simp; omega
 simp only [e1, e2, Array.append_empty]; by_cases h0 : L.size = 0
 · left; have : L = #[] := Array.eq_empty_of_size_eq_zero h0; subst this; refine ⟨rfl, ?_⟩; simp [choose, Sem.run, Question.forced]
 right; have hne : L.isEmpty = false := by simp [Array.isEmpty, h0]
 simp only [hne, Bool.false_eq_true, if_false, Array.empty_append, Array.size_map]
 have hch : ∃ (j : Nat) (w1 : World), j < L.size ∧ (w1 = w ∨ w1 = w.drew) ∧ (choose (Question.mapNext L.size)).run P w = .ok j w1 := by
  by_cases hf : L.size ≤ 1
  · exact ⟨0, w, by omega, .inl rfl, by simp [choose, Sem.run, Question.forced, hf]⟩
  exact ⟨_, w.drew, Nat.mod_lt _ (by omega), .inr rfl, by
   simp only [choose, Sem.run, Question.forced, decide_eq_true_eq, hf, if_false, Question.cut]
   rfl⟩
 obtain ⟨j, w1, hj, hal, hrun⟩ := hch; refine ⟨L[j], by simp, w1, hal, ?_⟩; have hi1 : w1.heap[bi]? = some (.mapIter (some bm) clock seen clock) := by rcases hal with rfl | rfl <;> exact hi
 have hset : ∀ (o' : Obj), (setObj bi o').run P w1 = .ok () (w1.putObj bi o') := fun o' => by simp [setObj, Sem.run, hi1, World.putObj]
 simp only [hrun, Array.getElem?_map, Array.getElem?_eq_getElem hj, Option.map_some, Sem.run_bind, hset, Result.andThen]; rfl
section
variable {P : Program} {ops : Array Oper} {o : Oper} {rest l : List Oper} {σ : St} {Q : Exit → St → Prop} {K V : Type}
theorem ah8 {ms : Array MapEntry} {seen : Array Nat} {e : MapEntry} (h : e ∈ (leftOf ms seen).toList) : e ∈ ms.toList ∧ e.born ∉ seen := by
 unfold leftOf at h; simp at h; exact ⟨by simpa using h.1, h.2⟩
theorem LP.next {ek : K → Value} {ev : V → D} {x : Operand} {ty : Bool} (n : Nat) (m : List (K × V)) (vis : List Nat) (hn : σ.ents[n]? = some (.iter (m.map (eM ek ev)) vis)) (ho : o.op = .next x false) (hx : σ.get x = .ptr n 0) (hg : oH ops σ o.guard = some true)
 (h0 : (∀ i, i < m.length → i ∈ vis) → LP P ops rest (σ.pR o.dst (.dW [.d (eB false)])) Q)
 (h1 : ∀ i p, m[i]? = some p → i ∉ vis → LP P ops rest (σ.put o.dst (.dW [.d (eB true), .d (.lit (ek p.1)), .d (ev p.2)]) (σ.ents.set n (.iter (m.map (eM ek ev)) (vis ++ [i])))) Q) : LP P ops (o :: rest) σ Q := by
 refine ⟨fun ro l2 Q' C ok H a w hh hk => ?_⟩; show wpListIn (FW ro) 0 P ops Q' (o :: (rest ++ l2)) a w; unfold wpListIn; rw [if_pos (kD hh (iT hg))]; have hv := hx ▸ hh.get x; obtain ⟨hd, hhd, hent⟩ := jy hh.mem.ent hh.mem.hlen hn; obtain ⟨bi, bm, ms, clock, seen, q1, q2, q3, q4, q5, q6, q7⟩ := hent
 have hval : a.eval x = .pointer (some ⟨bi, 0, none⟩) := by
  generalize a.eval x = v at hv; cases hv with
  | ptr _ _ b' s hH =>
    rw [hhd] at hH; obtain rfl := Option.some.inj hH; simp only [Value.pointer.injEq, Option.some.injEq, Addr.mk.injEq] at q1; obtain ⟨rfl, _⟩ := q1; rfl
 have hlen : ms.size = m.length := by rw [q5.len, List.length_map]
 unfold Oper.wpIn; rw [Oper.semAt_eq _ _ _ (by rw [ho]; intro c h; cases h)]; rcases ah7 (P := P) (ty := o.type) q2 q4 q5 with ⟨hs, hr⟩ | ⟨e, amq, w1, hw1, hr⟩
 · have he : (execOp a.eval o).run P w = .ok (.value (.tuple #[.bool false])) w := by simp [execOp, ho, hval, hr]
   rw [he]; refine ⟨fun _ _ => trivial, ?_⟩
   refine (h0 fun i hi => ?_).run ro l2 Q' C ok H _ w (hh.put o.dst (.refl _ _) (.refl _) hh.mem (.dW _ _ rfl fun j hj => by
    match j, hj with
    | 0, _ => exact .d _ _ (.lit _))) hk
   have hi' : i < ms.size := by omega
   have hnot : ms[i] ∉ (leftOf ms seen).toList := by
    have : leftOf ms seen = #[] := Array.eq_empty_of_size_eq_zero hs; rw [this]; simp
   have hin : ms[i].born ∈ seen := by
    apply Classical.byContradiction; intro hc; refine hnot ?_; unfold leftOf; simp [hc]
   obtain ⟨j, hj, hje⟩ := Array.getElem_of_mem hin; have hjv : j < vis.length := by omega
   obtain ⟨e, r1, r2⟩ := q7 j vis[j] (by simp [hjv])
   have hb : e.born = ms[i].born := by
    have e3 : seen[j]? = some seen[j] := by simp [hj]
    rw [e3, hje] at r2; exact (Option.some.inj r2).symm
   have := born_inj q5 r1 (show ms[i]? = some ms[i] by simp [hi']) hb; rw [← this]; simp
 have he : (execOp a.eval o).run P w = .ok (.value (.tuple #[.bool true, e.key, e.val])) (w1.putObj bi (.mapIter (some bm) clock (seen.push e.born) clock)) := by simp [execOp, ho, hval, hr]
 rw [he]; refine ⟨fun _ _ => trivial, ?_⟩; obtain ⟨anf, hes⟩ := ah8 amq; obtain ⟨i, hi, hie⟩ := List.getElem_of_mem anf; have hi' : i < ms.size := by simpa using hi
 have hmi : ms[i]? = some e := by rw [← hie]; simp [hi']
 have him : i < m.length := by omega
 have hpe : (m.map (eM ek ev))[i]? = some (eM ek ev m[i]) := by simp [him]
 obtain ⟨r1, r2, _⟩ := q5.ent i _ e hpe hmi
 have ang : i ∉ vis := fun hc => by
  obtain ⟨j, hj, hje⟩ := List.getElem_of_mem hc; obtain ⟨e2, s1, s2⟩ := q7 j i (by simp [← hje, hj]); rw [hmi] at s1; obtain rfl := Option.some.inj s1; exact hes (Array.mem_of_getElem? s2)
 have hmd : Mem C ok H σ.ents w1 ∧ Grow ok w ok w1 := by
  rcases hw1 with rfl | rfl
  · exact ⟨hh.mem, .refl _ _⟩
  exact hh.mem.drew
 have hi1 : w1.heap[bi]? = some (.mapIter (some bm) clock seen clock) := by rcases hw1 with rfl | rfl <;> exact q2
 have ah9 : w1.heap[bm]? = some (.map ms clock) := (hmd.2 bm q3).2.trans q4; have hne : bm ≠ bi := fun e => by rw [e, hi1] at ah9; cases ah9
 obtain ⟨m2, g2⟩ := hmd.1.Xu (o := .mapIter (some bm) clock (seen.push e.born) clock) (e' := .iter (m.map (eM ek ev)) (vis ++ [i])) hn rfl hhd (by rw [q1]; rfl)
  (fun g => ⟨bi, bm, ms, clock, seen.push e.born, q1, World.putObj_heap_same (Array.getElem?_eq_some_iff.1 hi1).1, q3, (World.putObj_heap_other hne).trans ah9, (q5.mono hmd.2).mono g, by simp [q6], fun j i' hj => by
   by_cases hjl : j < vis.length
   · rw [List.getElem?_append_left hjl] at hj; obtain ⟨e2, s1, s2⟩ := q7 j i' hj; exact ⟨e2, s1, by rw [Array.getElem?_push_lt (by omega)]; simpa [Array.getElem?_eq_getElem (show j < seen.size by omega)] using s2⟩
   have hj2 : j = vis.length := by
    have := (List.getElem?_eq_some_iff.1 hj).1; simp at this; omega
   subst hj2; simp at hj; subst hj
   exact ⟨e, hmi, by rw [← q6]; simp⟩⟩)
 have g3 := hmd.2.trans g2
 have hp := (h1 i m[i] (by simp [him]) ang).run ro l2 Q' C ok H (a.put o.dst (.tuple #[.bool true, e.key, e.val])) _ (hh.put o.dst (x := .dW [.d (eB true), .d (.lit (ek m[i].1)), .d (ev m[i].2)]) g3 (.refl _) m2 (.dW _ _ rfl fun j hj => by
  match j, hj with
  | 0, _ => exact .d _ _ (.lit _)
  | 1, _ =>
    show R ok _ H (.d (.lit (ek m[i].1))) e.key; rw [r1]; exact .d _ _ (.lit _)
  | 2, _ => exact .d _ _ (r2.mono g3))) hk
 exact hp
theorem SP.ajX {A Rr : Type} {cd : Code} (S : List Nat → A → St) (m : List (K × V)) (step : A → K × V → Option A) (Kf : A → Option Rr) (r : Rr) (a0 : A) (hs : Sub σ (S [] a0))
 (hall : ∀ vis : List Nat, vis.Nodup → (∀ i, i ∈ vis ↔ i < m.length) → ((vis.filterMap fun (i : Nat) => m[i]?).foldlM step a0).bind Kf = some r)
 (round : ∀ (J : St → Prop) (vis : List Nat) (a : A), ((∀ i, i < m.length → i ∈ vis) → Kf a = some r) → (∀ i p, m[i]? = some p → i ∉ vis → ∃ a', step a p = some a' ∧ ∀ s, Sub s (S (vis ++ [i]) a') → J s) → SP P cd (S vis a) (CJ J Q)) : SP P (.loop cd) σ Q := by
 have hext : ∀ vis : List Nat, vis.Nodup → (∀ i ∈ vis, i < m.length) → ∃ rest, (vis ++ rest).Nodup ∧ (∀ i, i ∈ vis ++ rest ↔ i < m.length) := fun vis hnd hlt => by
  refine ⟨(List.range m.length).filter fun i => !vis.contains i, ?_, fun i => ?_⟩
  · refine List.nodup_append.2 ⟨hnd, List.Pairwise.filter _ List.nodup_range, fun a ha b hb e => ?_⟩; subst e; rw [List.mem_filter] at hb; simp [ha] at hb
  rw [List.mem_append, List.mem_filter]; constructor
  · rintro (h | h)
    · exact hlt i h
    simpa using h.1
  intro h; by_cases hc : i ∈ vis
  · exact .inl hc
  exact .inr ⟨by simpa using h, by simp [hc]⟩
 refine SP.loop (fun n s => ∃ vis a, n = m.length - vis.length ∧ vis.Nodup ∧ (∀ i ∈ vis, i < m.length) ∧ (vis.filterMap fun (i : Nat) => m[i]?).foldlM step a0 = some a ∧ Sub s (S vis a)) (m.length) ⟨[], a0, by simp, List.nodup_nil, fun i h => by simp at h, rfl, hs⟩ ?_; rintro n s ⟨vis, a, rfl, hnd, hlt, hf, hsub⟩; refine SP.sub hsub (round _ vis a (fun hc => ?_) (fun i p hp hi => ?_))
 · have := hall vis hnd (fun i => ⟨hlt i, hc i⟩); rw [hf] at this; exact this
 have him : i < m.length := (List.getElem?_eq_some_iff.1 hp).1; have aia : (vis ++ [i]).Nodup := List.nodup_append.2 ⟨hnd, by simp, fun a ha b hb e => by simp at hb; subst hb; subst e; exact hi ha⟩
 have hlt2 : ∀ j ∈ vis ++ [i], j < m.length := fun j hj => by
  rcases List.mem_append.1 hj with h | h
  · exact hlt j h
  simp at h; subst h; exact him
 obtain ⟨rest, h1, h2⟩ := hext (vis ++ [i]) aia hlt2; have h3 := hall _ h1 h2; rw [List.filterMap_append, List.filterMap_append] at h3; simp only [List.filterMap_cons, List.filterMap_nil, hp, List.foldlM_append, List.foldlM_cons, List.foldlM_nil, hf, bind, pure, Option.bind_some] at h3; cases hst : step a p with
 | none => rw [hst] at h3; simp at h3
 | some a' =>
   refine ⟨a', rfl, fun s hs => ⟨m.length - (vis ++ [i]).length, ?_, vis ++ [i], a', rfl, aia, hlt2, ?_, hs⟩⟩
   · have : vis.length < m.length := by
      have hsub : vis.length ≤ (List.range m.length).length := by
       refine List.Nodup.length_le_of_subset hnd ?_; intro j hj; simpa using hlt j hj
      have hsub2 : (vis ++ [i]).length ≤ (List.range m.length).length := by
       refine List.Nodup.length_le_of_subset aia ?_; intro j hj; simpa using hlt2 j hj
      simp at hsub2; omega
     simp; omega
   rw [List.filterMap_append, List.foldlM_append, hf]; simp [hp, hst]
end
theorem aib {α : Type} : ∀ (m : List α) (vis : List Nat), vis.Nodup → (∀ i, i ∈ vis ↔ i < m.length) → (vis.filterMap fun (i : Nat) => m[i]?).Perm m := fun m vis hnd hin => by
 have h1 : vis.Perm (List.range m.length) := by
  rw [List.perm_iff_count]; intro a; rw [hnd.count, List.nodup_range.count]; simp [hin a]
 have h2 : ((List.range m.length).filterMap fun (i : Nat) => m[i]?) = m := by
  apply List.ext_getElem?; intro i
  have : ∀ (n : Nat), n ≤ m.length → ((List.range n).filterMap fun (i : Nat) => m[i]?) = m.take n := by
   intro n
   induction n with
   | zero => intro _; simp
   | succ n ih =>
     intro hn; rw [List.range_succ, List.filterMap_append, ih (by omega)]; have hl : n < m.length := by omega
     simp [hl]
  rw [this m.length (Nat.le_refl _), List.take_length]
 have h3 := h1.filterMap (fun (i : Nat) => m[i]?)
 rwa [h2] at h3
theorem KD {α β : Type} {c : α → Bool} {f : α → β} {b : Nat} : ∀ (l : List α) (v : List β),
 l.foldlM (fun v p => bif c p then (fP b v [f p]).bind fun x => some x else some v) v = if (v.length + (l.filter c).length) * b ≤ 140737488355328 ∨ l.filter c = [] then some (v ++ (l.filter c).map f) else none
 | [], v => by simp
 | p :: l, v => by
   rw [List.foldlM_cons]; cases hc : c p with
   | false =>
     have ih := KD (c := c) (f := f) (b := b) l v; simp only [cond_false, bind, Option.bind_some, ih, List.filter_cons, hc, Bool.false_eq_true, if_false]
   | true =>
     simp only [cond_true, List.filter_cons, hc, if_true]; have hg : fP b v [f p] = if (v.length + [f p].length) * b ≤ 140737488355328 then some (v ++ [f p]) else none := rfl
     rw [hg]; by_cases hb : (v.length + [f p].length) * b ≤ 140737488355328
     · rw [if_pos hb]; have ih := KD (c := c) (f := f) (b := b) l (v ++ [f p]); simp only [Option.bind_some, bind, ih]; have e1 : (v ++ [f p]).length + (l.filter c).length = v.length + (p :: l.filter c).length := by simp; omega
       rw [e1]; by_cases hl : l.filter c = []
       · rw [hl] at e1 ⊢; simp only [List.length_cons, List.length_nil] at hb ⊢; simp [hb]
       simp [hl]
     rw [if_neg hb]; simp only [Option.bind_none, bind]; rw [if_neg]; rintro (h | h)
     · refine hb (Nat.le_trans (Nat.mul_le_mul_right _ ?_) h); simp
     cases h
theorem ab4 {α β Rr : Type} {c : α → Bool} {f : α → β} {b : Nat} {l1 l2 : List α} {v : List β} {Kf : List β → Option Rr} {r : Rr} (hp : l1.Perm l2) (hK : ∀ x y, x.Perm y → Kf x = Kf y)
 (h : (l2.foldlM (fun v p => bif c p then (fP b v [f p]).bind fun x => some x else some v) v).bind Kf = some r) :
 (l1.foldlM (fun v p => bif c p then (fP b v [f p]).bind fun x => some x else some v) v).bind Kf = some r := by
 rw [KD] at h ⊢; have hpf := hp.filter c
 have e : ((v.length + (l1.filter c).length) * b ≤ 140737488355328 ∨ l1.filter c = []) ↔ ((v.length + (l2.filter c).length) * b ≤ 140737488355328 ∨ l2.filter c = []) := by
  rw [hpf.length_eq]; constructor
  · rintro (h | h)
    · exact .inl h
    exact .inr (by rw [h] at hpf; exact hpf.symm.eq_nil)
  rintro (h | h)
  · exact .inl h
  exact .inr (by rw [h] at hpf; exact hpf.eq_nil)
 by_cases hc : ((v.length + (l2.filter c).length) * b ≤ 140737488355328 ∨ l2.filter c = [])
 · rw [if_pos hc] at h; rw [if_pos (e.2 hc)]; simp only [Option.bind_some] at h ⊢; rw [← h]; exact hK _ _ ((hpf.map f).append_left v)
 rw [if_neg hc] at h; cases h
end Go.Proofs.YtelpgcaiadpjpaaGreat
end
section
namespace Go.Proofs.YtelpgcaiadpjpaaGreat
open Go.RowKit
section
variable {P : Program} {σ : St} {Q : Exit → St → Prop} {c : Operand} {x y : Code}
theorem SP.cnd {A : Type} {b : Bool} {u v z : A} (h : (bif b then u else v) = z) (ht : u = z → SP P x σ Q) (hf : v = z → SP P y σ Q) (hc : σ.get c = .d (.lit (.bool b)) := by kernel_rfl) : SP P (.cond c x y) σ Q :=
 SP.cond b hc (fun e => ht (bI e h)) (fun e => hf (bG e h))
end
theorem fF {A : Type} {b : Bool} {u v z : A} (h : (bif b then u else v) = z) : (b = true ∧ u = z) ∨ (b = false ∧ v = z) := by
 cases b with
 | true => exact .inl ⟨rfl, h⟩
 | false => exact .inr ⟨rfl, h⟩
theorem aB {A : Type} {a b : A} (h : some a = some b) : a = b := Option.some.inj h
theorem aY {α β γ : Type} {x : Option α} {y : α → Option β} {f : α → β → Option γ} {z : γ} (h : (x.bind fun a => (y a).bind (f a)) = some z) : ∃ a, x = some a ∧ ∃ b, y a = some b ∧ f a b = some z := by
 obtain ⟨a, h1, h⟩ := aC h; obtain ⟨b, h2, h⟩ := aC h; exact ⟨a, h1, b, h2, h⟩
theorem lS {α β γ δ : Type} {x : Option α} {y : α → Option β} {w : α → β → Option δ} {f : α → β → δ → Option γ} {z : γ} (h : (x.bind fun a => (y a).bind fun b => (w a b).bind (f a b)) = some z) : ∃ a, x = some a ∧ ∃ b, y a = some b ∧ ∃ d, w a b = some d ∧ f a b d = some z := by
 obtain ⟨a, h1, b, h2, h⟩ := aY h; obtain ⟨d, h3, h⟩ := aC h; exact ⟨a, h1, b, h2, d, h3, h⟩
def ab5 : List ResultVar → Bool
 | [] => true
 | .tmp _ :: rs => ab5 rs
 | _ :: _ => false
def resT (σ : St) : List ResultVar → List AV
 | [] => []
 | .tmp t :: rs => σ.slots.getD t .junk :: resT σ rs
 | _ :: rs => .junk :: resT σ rs
theorem ab6 {P : Program} {σ : St} : ∀ {rs : List ResultVar}, ab5 rs = true → Ip P σ rs (resT σ rs)
 | [], _ => trivial
 | .tmp _ :: _, h => ⟨rfl, ab6 h⟩
theorem aU {P : Program} {σ : St} {rs : List ResultVar} {res : AV} {E' : List bF} (π : List (Nat × Bool)) (ha : ab5 rs = true := by kernel_rfl) (hn : EC σ.base σ.ents π = true := by kernel_rfl) (hr : res = (pack (resT σ rs)).back π := by kernel_rfl) (he : E' = tJ σ.ents π := by kernel_rfl) :
 ∃ xs π, Ip P σ rs xs ∧ EC σ.base σ.ents π = true ∧ res = (pack xs).back π ∧ E' = tJ σ.ents π := ⟨_, π, ab6 ha, hn, hr, he⟩
def KE : Nat → Nat → List (Nat × Nat × Nat)
 | 0, _ => []
 | n + 1, x => (x % 2048, x / 2048 % 64, x / 131072 % 2048) :: KE n (x / 268435456)
def mkN : List (Nat × Nat × Nat) → List (List Nat) → Nat → List (List Nat)
 | [], N, _ => N
 | t :: Tr, N, n => bif Nat.beq t.2.2 n then mkN Tr (N ++ [t.2.1 :: N.getD t.1 []]) (n + 1) else mkN Tr N n
def D8 (n x : Nat) : List (List Nat) := mkN (KE n x) [[]] 1
section
variable {P : Program} [T : Kn P] {id : Nat} {ops : Array Oper} {σ : St} {Q : Exit → St → Prop} {y : Code}
theorem SP.ak1 (L : List (En P)) (n x kf : Nat) (hQ : Q .normal (rU T L ops σ ((D8 n x).getD kf []))) (hm : P.follows .mixedOrders = true := by kernel_rfl) (hN : Gx ops (D8 n x) (KE n x) [kf] = true := by kernel_rfl)
 (hT : ((KE n x).map fun t => EI T L ops (rU T L ops σ ((D8 n x).getD t.1 [])) t.2.1) = (KE n x).map fun t => some (rU T L ops σ ((D8 n x).getD t.2.2 []), G7 L t.2.1) := by kernel_rfl) (h0 : (D8 n x).getD 0 [0] = [] := by kernel_rfl) : SP P (.region id ops true) σ Q :=
 SP.node1 L _ _ kf hQ hm hN h0 hT
theorem SP.ak2 (L : List (En P)) (n x kf : Nat) (hQ : SP P y (rU T L ops σ ((D8 n x).getD kf [])) Q) (hm : P.follows .mixedOrders = true := by kernel_rfl) (hN : Gx ops (D8 n x) (KE n x) [kf] = true := by kernel_rfl)
 (hT : ((KE n x).map fun t => EI T L ops (rU T L ops σ ((D8 n x).getD t.1 [])) t.2.1) = (KE n x).map fun t => some (rU T L ops σ ((D8 n x).getD t.2.2 []), G7 L t.2.1) := by kernel_rfl) (h0 : (D8 n x).getD 0 [0] = [] := by kernel_rfl) : SP P (.seq (.region id ops true) y) σ Q :=
 SP.amg L _ _ kf hQ hm hN h0 hT
theorem SP.ak3 (L : List (En P)) (n x : Nat) (F : List Nat) (fin : St) (hF : Gw (fun k => Fin (rU T L ops σ ((D8 n x).getD k [])) fin) F) (hQ : SP P y fin Q) (hm : P.follows .mixedOrders = true := by kernel_rfl) (hN : Gx ops (D8 n x) (KE n x) F = true := by kernel_rfl)
 (hT : ((KE n x).map fun t => EI T L ops (rU T L ops σ ((D8 n x).getD t.1 [])) t.2.1) = (KE n x).map fun t => some (rU T L ops σ ((D8 n x).getD t.2.2 []), G7 L t.2.1) := by kernel_rfl) (h0 : (D8 n x).getD 0 [0] = [] := by kernel_rfl) : SP P (.seq (.region id ops true) y) σ Q :=
 SP.amh L _ _ F fin hF hQ hm hN h0 hT
end
end Go.Proofs.YtelpgcaiadpjpaaGreat
end
section
namespace Go.Proofs.YtelpgcaiadpjpaaGreat
open Go.RowKit
theorem rE {α β : Type} {y : α} {g : α → Option (Except Value β)} {r : Except Value β} (h : wS (.ok y) g = some r) : g y = some r := h
theorem oU {α β : Type} {u : Value} {g : α → Option (Except Value β)} {r : Except Value β} (h : wS (.error u) g = some r) : some (.error u) = some r := h
def s0 : ByteArray := ⟨#[]⟩
def KF : ByteArray := ⟨#[64, 33]⟩
def Ub : ByteArray := ⟨#[58]⟩
def fG : ByteArray := ⟨#[64, 97, 110, 110, 58, 97]⟩
def iR : ByteArray := ⟨#[64, 98, 111, 98, 58, 98]⟩
def lC : ByteArray := ⟨#[33, 114, 58, 97]⟩
structure dR where
 User : ByteArray
 N : Int
def dL (x : dR) : D := .agg [eS x.User, eI x.N]
def ag1 : dR := ⟨s0, 0⟩
instance : Inhabited dR := ⟨ag1⟩
structure dX where
 Kind : Int
 N : Int
def dH (x : dX) : D := .agg [eI x.Kind, eI x.N]
def aaP : dX := ⟨0, 0⟩
instance : Inhabited dX := ⟨aaP⟩
structure aZ where
 Users : (List dR)
 Kinds : (List dX)
 User : Int
 Message : Int
 State : Int
 jc : Int
 oq : Int
 sK : Int
 jC : Int
def dI (x : aZ) : D := .agg [(eL dL) x.Users, (eL dH) x.Kinds, eI x.User, eI x.Message, eI x.State, eI x.jc, eI x.oq, eI x.sK, eI x.jC]
def BL : aZ := ⟨[], [], 0, 0, 0, 0, 0, 0, 0⟩
instance : Inhabited aZ := ⟨BL⟩
structure rV where
 Text : ByteArray
 N : Int
 Target : Int
 Thread : Bool
 Via : ByteArray
 Allow : (List ByteArray)
 zS : (List ByteArray)
 Levels : aZ
def zG (x : rV) : D := .agg [eS x.Text, eI x.N, eI x.Target, eB x.Thread, eS x.Via, (eL eS) x.Allow, (eL eS) x.zS, (eL dL) x.Levels.Users, (eL dH) x.Levels.Kinds, eI x.Levels.User, eI x.Levels.Message, eI x.Levels.State, eI x.Levels.jc, eI x.Levels.oq, eI x.Levels.sK, eI x.Levels.jC]
def ql : rV := ⟨s0, 0, 0, false, s0, [], [], BL⟩
instance : Inhabited rV := ⟨ql⟩
structure KG where
 Server : ByteArray
 Sum : Int
def YU (x : KG) : D := .agg [eS x.Server, eI x.Sum]
def aeY : KG := ⟨s0, 0⟩
instance : Inhabited KG := ⟨aeY⟩
structure ah where
 Id : Int
 Room : ByteArray
 bC : ByteArray
 Kind : Int
 State : Bool
 Key : ByteArray
 Time : Int
 Depth : Int
 jD : (List Int)
 fH : (List Int)
 Content : rV
 Hash : Int
 Sig : KG
def aA (x : ah) : D := .agg [eI x.Id, eS x.Room, eS x.bC, eI x.Kind, eB x.State, eS x.Key, eI x.Time, eI x.Depth, (eL eI) x.jD, (eL eI) x.fH, eS x.Content.Text, eI x.Content.N, eI x.Content.Target, eB x.Content.Thread, eS x.Content.Via, (eL eS) x.Content.Allow, (eL eS) x.Content.zS, (eL dL) x.Content.Levels.Users, (eL dH) x.Content.Levels.Kinds, eI x.Content.Levels.User, eI x.Content.Levels.Message, eI x.Content.Levels.State, eI x.Content.Levels.jc, eI x.Content.Levels.oq, eI x.Content.Levels.sK, eI x.Content.Levels.jC, eI x.Hash, eS x.Sig.Server, eI x.Sig.Sum]
def dB : ah := ⟨0, s0, s0, 0, false, s0, 0, 0, [], [], ql, 0, aeY⟩
instance : Inhabited ah := ⟨dB⟩
structure aj where
 Kind : Int
 Key : ByteArray
 Id : Int
def ak (x : aj) : D := .agg [eI x.Kind, eS x.Key, eI x.Id]
def ag2 : aj := ⟨0, s0, 0⟩
instance : Inhabited aj := ⟨ag2⟩
structure zH where
 Xz : Int
def ab7 : zH := ⟨0⟩
instance : Inhabited zH := ⟨ab7⟩
structure jX where
def lZ (x : jX) : D := .agg []
def XA : jX := ⟨⟩
instance : Inhabited jX := ⟨XA⟩
structure fU where
 wU : (List aj)
 J3 : (List Int)
 XB : (List Int)
def iQ (x : fU) : D := .agg [(eL ak) x.wU, (eL eI) x.J3, (eL eI) x.XB]
def kF : fU := ⟨[], [], []⟩
instance : Inhabited fU := ⟨kF⟩
structure dw where
 qB : Int
 AL : Int
 uK : Int
 ab8 : (List Int)
def dJ (x : dw) : D := .agg [eI x.qB, eI x.AL, eI x.uK, (eL eI) x.ab8]
def afw : dw := ⟨0, 0, 0, []⟩
instance : Inhabited dw := ⟨afw⟩
structure fM where
 MK : Int
 ML : ByteArray
def iG (x : fM) : D := .agg [eI x.MK, eS x.ML]
def adX : fM := ⟨0, s0⟩
instance : Inhabited fM := ⟨adX⟩
structure iW where
 XC : (List Int)
def jO (x : iW) : D := .agg [(eL eI) x.XC]
def RV : iW := ⟨[]⟩
instance : Inhabited iW := ⟨RV⟩
structure bM where
 qB : Int
 rD : Int
 uK : Int
def bW (x : bM) : D := .agg [eI x.qB, eI x.rD, eI x.uK]
def aaQ : bM := ⟨0, 0, 0⟩
instance : Inhabited bM := ⟨aaQ⟩
structure KH where
 Same : (List aj)
 Power : (List Int)
 First : (List aj)
 Others : (List Int)
 Last : (List aj)
def Um : KH := ⟨[], [], [], [], []⟩
instance : Inhabited KH := ⟨Um⟩
theorem aic : cO Tryz.prog 56 10 10 := bY (by kernel_rfl)
theorem anh : Ty Tryz.prog 52 true 16 := lX (by kernel_rfl)
theorem ag3 : (Tryz.prog.info? 52).bind (·.zero) = some (.agg #[.string s0, .int .i64 0, .int .i64 0, .bool false, .string s0, .slice none 0 0, .slice none 0 0, .slice none 0 0, .slice none 0 0, .int .i64 0, .int .i64 0, .int .i64 0, .int .i64 0, .int .i64 0, .int .i64 0, .int .i64 0]) := by kernel_rfl
theorem ajY : cO Tryz.prog 56 8 8 := bY (by kernel_rfl)
theorem aie : Ty Tryz.prog 32 false 1 := lX (by kernel_rfl)
theorem bT : Tryz.prog.underlying 32 = some (.slice 3) := by kernel_rfl
theorem ajZ : cO Tryz.prog 56 9 9 := bY (by kernel_rfl)
theorem aj0 : cO Tryz.prog 52 5 5 := bY (by kernel_rfl)
theorem ani : Ty Tryz.prog 46 false 1 := lX (by kernel_rfl)
theorem Uc : Tryz.prog.underlying 46 = some (.slice 9) := by kernel_rfl
theorem aj1 : cO Tryz.prog 52 6 6 := bY (by kernel_rfl)
theorem aj2 : cO Tryz.prog 52 7 7 := bY (by kernel_rfl)
theorem aj3 : cO Tryz.prog 50 0 0 := bY (by kernel_rfl)
theorem ak4 : Ty Tryz.prog 47 false 1 := lX (by kernel_rfl)
theorem MN : Tryz.prog.underlying 47 = some (.slice 80) := by kernel_rfl
theorem aj6 : cO Tryz.prog 50 1 1 := bY (by kernel_rfl)
theorem ak5 : Ty Tryz.prog 48 false 1 := lX (by kernel_rfl)
theorem Ud : Tryz.prog.underlying 48 = some (.slice 174) := by kernel_rfl
theorem aj7 : cO Tryz.prog 56 1 1 := bY (by kernel_rfl)
theorem ty9 : Ty Tryz.prog 9 false 1 := lX (by kernel_rfl)
theorem KI : Tryz.prog.underlying 9 = some (.string) := by kernel_rfl
theorem aj8 : cO Tryz.prog 56 2 2 := bY (by kernel_rfl)
theorem aj9 : cO Tryz.prog 56 5 5 := bY (by kernel_rfl)
theorem akb : cO Tryz.prog 52 0 0 := bY (by kernel_rfl)
theorem akc : cO Tryz.prog 52 4 4 := bY (by kernel_rfl)
theorem aif : cO Tryz.prog 56 12 27 := bY (by kernel_rfl)
theorem akd : cO Tryz.prog 54 0 0 := bY (by kernel_rfl)
theorem afx : Ty Tryz.prog 80 true 2 := lX (by kernel_rfl)
theorem ake : cO Tryz.prog 80 0 0 := bY (by kernel_rfl)
theorem jH : Tryz.prog.underlying 22 = some (.slice 56) := by kernel_rfl
theorem oI : Ty Tryz.prog 56 true 29 := lX (by kernel_rfl)
theorem amr : aI Tryz.prog 28 = true := by kernel_rfl
theorem jw : Tryz.prog.underlying 23 = some (.slice 28) := by kernel_rfl
theorem zT : Ty Tryz.prog 28 false 1 := lX (by kernel_rfl)
theorem dO : Tryz.prog.underlying 28 = some (.slice 45) := by kernel_rfl
theorem iH : Ty Tryz.prog 45 true 3 := lX (by kernel_rfl)
theorem akf : cO Tryz.prog 45 1 1 := bY (by kernel_rfl)
theorem akg : cO Tryz.prog 45 0 0 := bY (by kernel_rfl)
theorem anj : Ty Tryz.prog 43 false 1 := lX (by kernel_rfl)
theorem ams : aI Tryz.prog 38 = true := by kernel_rfl
theorem afy : aI Tryz.prog 24 = true := by kernel_rfl
theorem akh : cO Tryz.prog 45 2 2 := bY (by kernel_rfl)
theorem iy : Ty Tryz.prog 3 false 1 := lX (by kernel_rfl)
theorem amu : aI Tryz.prog 29 = true := by kernel_rfl
theorem amv : aI Tryz.prog 30 = true := by kernel_rfl
theorem MO : Tryz.prog.underlying 27 = some (.slice 45) := by kernel_rfl
theorem Dc : (Tryz.prog.info? 45).bind (·.zero) = some (.agg #[.int .i64 0, .string s0, .int .i64 0]) := by kernel_rfl
theorem ank : lN Tryz.prog 45 [(0, 1), (1, 1), (2, 1)] (.agg #[.int .i64 0, .string s0, .int .i64 0]) := oZ (by kernel_rfl) Dc (by kernel_rfl)
theorem ajl : aI Tryz.prog 94 = true := by kernel_rfl
theorem amw : aI Tryz.prog 92 = true := by kernel_rfl
theorem amx : aI Tryz.prog 93 = true := by kernel_rfl
theorem amy : aI Tryz.prog 95 = true := by kernel_rfl
theorem ajm : aI Tryz.prog 67 = true := by kernel_rfl
theorem afz : aI Tryz.prog 43 = true := by kernel_rfl
theorem eH : El Tryz.prog 32 3 1 8 := EF (by kernel_rfl)
theorem zero3 : (Tryz.prog.info? 3).bind (·.zero) = some (.int .i64 0) := by kernel_rfl
theorem amA : aI Tryz.prog 81 = true := by kernel_rfl
theorem abj : aI Tryz.prog 60 = true := by kernel_rfl
theorem afA : aI Tryz.prog 61 = true := by kernel_rfl
theorem EJ : (Tryz.prog.info? 28).bind (·.zero) = some (.slice none 0 0) := by kernel_rfl
theorem zero32 : (Tryz.prog.info? 32).bind (·.zero) = some (.slice none 0 0) := by kernel_rfl
theorem anl : Ty Tryz.prog 23 false 1 := lX (by kernel_rfl)
theorem amB : aI Tryz.prog 56 = true := by kernel_rfl
theorem amC : aI Tryz.prog 80 = true := by kernel_rfl
theorem amD : aI Tryz.prog 57 = true := by kernel_rfl
theorem CP : El Tryz.prog 28 45 3 32 := EF (by kernel_rfl)
theorem Ue : aI Tryz.prog 58 = true := by kernel_rfl
theorem Iy : Tryz.prog.underlying 110 = some (.map 3 3) := by kernel_rfl
theorem aki : cO Tryz.prog 56 0 0 := bY (by kernel_rfl)
theorem ab9 : Tryz.prog.underlying 3 = some (.int .i64) := by kernel_rfl
theorem PY : KeyTy Tryz.prog 3 (Value.int .i64) := agT ab9
theorem ajn : aI Tryz.prog 86 = true := by kernel_rfl
theorem RX : Tryz.prog.underlying 144 = some (.map 3 4) := by kernel_rfl
theorem afB : (Tryz.prog.info? 4).bind (·.zero) = some (.bool false) := by kernel_rfl
theorem amE : aI Tryz.prog 87 = true := by kernel_rfl
theorem amF : aI Tryz.prog 88 = true := by kernel_rfl
theorem afC : aI Tryz.prog 64 = true := by kernel_rfl
theorem amG : aI Tryz.prog 82 = true := by kernel_rfl
theorem ajo : aI Tryz.prog 39 = true := by kernel_rfl
theorem amH : aI Tryz.prog 59 = true := by kernel_rfl
theorem acd : aI Tryz.prog 124 = true := by kernel_rfl
theorem ak6 : aI Tryz.prog 125 = true := by kernel_rfl
theorem Iz : (Tryz.prog.info? 56).bind (·.zero) = some (.agg #[.int .i64 0, .string s0, .string s0, .int .i64 0, .bool false, .string s0, .int .i64 0, .int .i64 0, .slice none 0 0, .slice none 0 0, .string s0, .int .i64 0, .int .i64 0, .bool false, .string s0, .slice none 0 0, .slice none 0 0, .slice none 0 0, .slice none 0 0, .int .i64 0, .int .i64 0, .int .i64 0, .int .i64 0, .int .i64 0, .int .i64 0, .int .i64 0, .int .i64 0, .string s0, .int .i64 0]) := by kernel_rfl
theorem amI : aI Tryz.prog 85 = true := by kernel_rfl
theorem anm : lN Tryz.prog 56 [(0, 1), (1, 1), (2, 1), (3, 1), (4, 1), (5, 1), (6, 1), (7, 1), (8, 1), (9, 1), (10, 16), (26, 1), (27, 2)] (.agg #[.int .i64 0, .string s0, .string s0, .int .i64 0, .bool false, .string s0, .int .i64 0, .int .i64 0, .slice none 0 0, .slice none 0 0, .string s0, .int .i64 0, .int .i64 0, .bool false, .string s0, .slice none 0 0, .slice none 0 0, .slice none 0 0, .slice none 0 0, .int .i64 0, .int .i64 0, .int .i64 0, .int .i64 0, .int .i64 0, .int .i64 0, .int .i64 0, .int .i64 0, .string s0, .int .i64 0]) := oZ (by kernel_rfl) Iz (by kernel_rfl)
theorem akj : cO Tryz.prog 56 3 3 := bY (by kernel_rfl)
theorem akk : cO Tryz.prog 52 1 1 := bY (by kernel_rfl)
theorem ag4 : aI Tryz.prog 126 = true := by kernel_rfl
theorem afD : aI Tryz.prog 89 = true := by kernel_rfl
theorem G9 : aI Tryz.prog 62 = true := by kernel_rfl
theorem amJ : aI Tryz.prog 63 = true := by kernel_rfl
theorem ajp : aI Tryz.prog 65 = true := by kernel_rfl
theorem PZ : El Tryz.prog 22 56 29 376 := EF (by kernel_rfl)
theorem P5 : aI Tryz.prog 46 = true := by kernel_rfl
theorem ak7 : aI Tryz.prog 186 = true := by kernel_rfl
theorem ak8 : aI Tryz.prog 172 = true := by kernel_rfl
theorem ag5 : aI Tryz.prog 173 = true := by kernel_rfl
theorem ak9 : aI Tryz.prog 174 = true := by kernel_rfl
theorem ano : Ty Tryz.prog 22 false 1 := lX (by kernel_rfl)
theorem ag6 : aI Tryz.prog 165 = true := by kernel_rfl
theorem ala : aI Tryz.prog 187 = true := by kernel_rfl
theorem alb : aI Tryz.prog 208 = true := by kernel_rfl
theorem alc : aI Tryz.prog 201 = true := by kernel_rfl
theorem ald : aI Tryz.prog 188 = true := by kernel_rfl
theorem XD : aI Tryz.prog 205 = true := by kernel_rfl
theorem ale : aI Tryz.prog 203 = true := by kernel_rfl
theorem ag7 : aI Tryz.prog 202 = true := by kernel_rfl
theorem alf : aI Tryz.prog 189 = true := by kernel_rfl
theorem alg : aI Tryz.prog 204 = true := by kernel_rfl
theorem alh : aI Tryz.prog 190 = true := by kernel_rfl
theorem ali : aI Tryz.prog 177 = true := by kernel_rfl
theorem ag8 : aI Tryz.prog 167 = true := by kernel_rfl
theorem aeZ : (Tryz.prog.info? 187).bind (·.zero) = some (.agg #[.int .i64 0]) := by kernel_rfl
theorem amK : lN Tryz.prog 187 [(0, 1)] (.agg #[.int .i64 0]) := oZ (by kernel_rfl) aeZ (by kernel_rfl)
theorem akl : (match Tryz.prog.underlying 187 with | some (.interface _) => false | some _ => true | none => false) = true := by kernel_rfl
theorem Df : aI Tryz.prog 168 = true := by kernel_rfl
theorem lM : aI Tryz.prog 166 = true := by kernel_rfl
theorem alj : aI Tryz.prog 178 = true := by kernel_rfl
theorem RY : aI Tryz.prog 170 = true := by kernel_rfl
theorem ae0 : (Tryz.prog.info? 193).bind (·.zero) = some (.agg #[.int .i64 0, .int .i64 0, .int .i64 0, .int .i64 0, .int .i64 0]) := by kernel_rfl
theorem alk : MC Tryz.prog 193 1 (.agg #[.int .i64 0, .int .i64 0, .int .i64 0, .int .i64 0, .int .i64 0]) := RH (by kernel_rfl) ae0 (by kernel_rfl)
theorem amL : Ty Tryz.prog 193 true 5 := lX (by kernel_rfl)
theorem ag9 : Tryz.prog.underlying 193 = some (.array 5 3) := by kernel_rfl
theorem aha : aI Tryz.prog 180 = true := by kernel_rfl
theorem alm : El Tryz.prog 46 9 1 16 := EF (by kernel_rfl)
theorem zero9 : (Tryz.prog.info? 9).bind (·.zero) = some (.string s0) := by kernel_rfl
theorem aln : aI Tryz.prog 191 = true := by kernel_rfl
theorem alo : aI Tryz.prog 192 = true := by kernel_rfl
theorem alp : aI Tryz.prog 193 = true := by kernel_rfl
theorem ahb : aI Tryz.prog 181 = true := by kernel_rfl
theorem ahc : (Tryz.prog.info? 50).bind (·.zero) = some (.agg #[.slice none 0 0, .slice none 0 0, .int .i64 0, .int .i64 0, .int .i64 0, .int .i64 0, .int .i64 0, .int .i64 0, .int .i64 0]) := by kernel_rfl
theorem alq : aI Tryz.prog 206 = true := by kernel_rfl
theorem ahd : aI Tryz.prog 194 = true := by kernel_rfl
theorem afE : Ty Tryz.prog 50 true 9 := lX (by kernel_rfl)
theorem ace : El Tryz.prog 47 80 2 24 := EF (by kernel_rfl)
theorem Oz : (Tryz.prog.info? 80).bind (·.zero) = some (.agg #[.string s0, .int .i64 0]) := by kernel_rfl
theorem alr : aI Tryz.prog 195 = true := by kernel_rfl
theorem als : El Tryz.prog 48 174 2 16 := EF (by kernel_rfl)
theorem ae1 : (Tryz.prog.info? 174).bind (·.zero) = some (.agg #[.int .i64 0, .int .i64 0]) := by kernel_rfl
theorem alu : aI Tryz.prog 196 = true := by kernel_rfl
theorem anp : lN Tryz.prog 50 [(0, 1), (1, 1), (2, 1), (3, 1), (4, 1), (5, 1), (6, 1), (7, 1), (8, 1)] (.agg #[.slice none 0 0, .slice none 0 0, .int .i64 0, .int .i64 0, .int .i64 0, .int .i64 0, .int .i64 0, .int .i64 0, .int .i64 0]) := oZ (by kernel_rfl) ahc (by kernel_rfl)
theorem anq : lN Tryz.prog 80 [(0, 1), (1, 1)] (.agg #[.string s0, .int .i64 0]) := oZ (by kernel_rfl) Oz (by kernel_rfl)
theorem alv : aI Tryz.prog 197 = true := by kernel_rfl
theorem acf : aI Tryz.prog 182 = true := by kernel_rfl
theorem akm : cO Tryz.prog 80 1 1 := bY (by kernel_rfl)
theorem akn : cO Tryz.prog 50 2 2 := bY (by kernel_rfl)
theorem IB : aI Tryz.prog 183 = true := by kernel_rfl
theorem ako : cO Tryz.prog 50 5 5 := bY (by kernel_rfl)
theorem akp : cO Tryz.prog 50 7 7 := bY (by kernel_rfl)
theorem akq : cO Tryz.prog 50 6 6 := bY (by kernel_rfl)
theorem alx : aI Tryz.prog 179 = true := by kernel_rfl
theorem ahe : aI Tryz.prog 163 = true := by kernel_rfl
theorem ahf : aI Tryz.prog 169 = true := by kernel_rfl
theorem afF : Ty Tryz.prog 174 true 2 := lX (by kernel_rfl)
theorem aii : cO Tryz.prog 174 0 0 := bY (by kernel_rfl)
theorem aij : cO Tryz.prog 174 1 1 := bY (by kernel_rfl)
theorem acg : aI Tryz.prog 149 = true := by kernel_rfl
theorem akr : cO Tryz.prog 50 4 4 := bY (by kernel_rfl)
theorem aks : cO Tryz.prog 50 3 3 := bY (by kernel_rfl)
theorem ach : aI Tryz.prog 184 = true := by kernel_rfl
theorem ae2 : (Tryz.prog.info? 197).bind (·.zero) = some (.agg #[.int .i64 0, .int .i64 0, .int .i64 0, .int .i64 0, .int .i64 0, .int .i64 0, .int .i64 0]) := by kernel_rfl
theorem akt : cO Tryz.prog 50 8 8 := bY (by kernel_rfl)
theorem aly : MC Tryz.prog 197 1 (.agg #[.int .i64 0, .int .i64 0, .int .i64 0, .int .i64 0, .int .i64 0, .int .i64 0, .int .i64 0]) := RH (by kernel_rfl) ae2 (by kernel_rfl)
theorem ajq : Ty Tryz.prog 197 true 7 := lX (by kernel_rfl)
theorem ahg : aI Tryz.prog 199 = true := by kernel_rfl
theorem ahh : Tryz.prog.underlying 197 = some (.array 7 3) := by kernel_rfl
theorem aci : aI Tryz.prog 198 = true := by kernel_rfl
theorem ae3 : (Tryz.prog.info? 199).bind (·.zero) = some (.agg #[.slice none 0 0, .slice none 0 0]) := by kernel_rfl
theorem alz : MC Tryz.prog 199 1 (.agg #[.slice none 0 0, .slice none 0 0]) := RH (by kernel_rfl) ae3 (by kernel_rfl)
theorem alA : Tryz.prog.underlying 199 = some (.array 2 48) := by kernel_rfl
theorem ae4 : (Tryz.prog.info? 200).bind (·.zero) = some (.agg #[.slice none 0 0, .slice none 0 0]) := by kernel_rfl
theorem alB : MC Tryz.prog 200 1 (.agg #[.slice none 0 0, .slice none 0 0]) := RH (by kernel_rfl) ae4 (by kernel_rfl)
theorem alC : Tryz.prog.underlying 200 = some (.array 2 47) := by kernel_rfl
theorem alD : aI Tryz.prog 185 = true := by kernel_rfl
theorem ahi : aI Tryz.prog 171 = true := by kernel_rfl
theorem alE : aI Tryz.prog 164 = true := by kernel_rfl
theorem alF : aI Tryz.prog 151 = true := by kernel_rfl
theorem alG : aI Tryz.prog 150 = true := by kernel_rfl
theorem ae5 : (Tryz.prog.info? 146).bind (·.zero) = some (.agg #[]) := by kernel_rfl
theorem amM : lN Tryz.prog 146 [] (.agg #[]) := oZ (by kernel_rfl) ae5 (by kernel_rfl)
theorem aku : (match Tryz.prog.underlying 146 with | some (.interface _) => false | some _ => true | none => false) = true := by kernel_rfl
theorem amN : aI Tryz.prog 90 = true := by kernel_rfl
theorem amO : aI Tryz.prog 91 = true := by kernel_rfl
theorem ajr : aI Tryz.prog 68 = true := by kernel_rfl
theorem ajs : aI Tryz.prog 96 = true := by kernel_rfl
theorem ajt : aI Tryz.prog 97 = true := by kernel_rfl
theorem ahj : aI Tryz.prog 129 = true := by kernel_rfl
theorem alH : Tryz.prog.underlying 113 = some (.int .u64) := by kernel_rfl
theorem amP : aI Tryz.prog 98 = true := by kernel_rfl
theorem aju : aI Tryz.prog 99 = true := by kernel_rfl
theorem amQ : aI Tryz.prog 69 = true := by kernel_rfl
theorem alI : (Tryz.prog.info? 70).bind (·.zero) = some (.agg #[.slice none 0 0, .slice none 0 0, .slice none 0 0]) := by kernel_rfl
theorem amR : aI Tryz.prog 40 = true := by kernel_rfl
theorem amS : aI Tryz.prog 41 = true := by kernel_rfl
theorem ahk : (Tryz.prog.info? 85).bind (·.zero) = some (.agg #[]) := by kernel_rfl
theorem anr : lN Tryz.prog 85 [] (.agg #[]) := oZ (by kernel_rfl) ahk (by kernel_rfl)
theorem alJ : (match Tryz.prog.underlying 85 with | some (.interface _) => false | some _ => true | none => false) = true := by kernel_rfl
theorem YV : (Tryz.prog.info? 228).bind (·.zero) = some (.agg #[.int .i64 0, .string s0]) := by kernel_rfl
theorem amT : lN Tryz.prog 228 [(0, 1), (1, 1)] (.agg #[.int .i64 0, .string s0]) := oZ (by kernel_rfl) YV (by kernel_rfl)
theorem ajv : El Tryz.prog 229 228 2 24 := EF (by kernel_rfl)
theorem alK : aI Tryz.prog 235 = true := by kernel_rfl
theorem ahl : Tryz.prog.underlying 229 = some (.slice 228) := by kernel_rfl
theorem ajw : Ty Tryz.prog 228 true 2 := lX (by kernel_rfl)
theorem aik : cO Tryz.prog 228 0 0 := bY (by kernel_rfl)
theorem ail : cO Tryz.prog 228 1 1 := bY (by kernel_rfl)
theorem alL : aI Tryz.prog 234 = true := by kernel_rfl
theorem alM : aI Tryz.prog 233 = true := by kernel_rfl
theorem alN : aI Tryz.prog 232 = true := by kernel_rfl
theorem akv : cO Tryz.prog 56 6 6 := bY (by kernel_rfl)
theorem YW : (Tryz.prog.info? 224).bind (·.zero) = some (.agg #[.int .i64 0, .int .i64 0, .int .i64 0, .slice none 0 0]) := by kernel_rfl
theorem amU : lN Tryz.prog 224 [(0, 1), (1, 1), (2, 1), (3, 1)] (.agg #[.int .i64 0, .int .i64 0, .int .i64 0, .slice none 0 0]) := oZ (by kernel_rfl) YW (by kernel_rfl)
theorem afG : El Tryz.prog 221 224 4 48 := EF (by kernel_rfl)
theorem alO : aI Tryz.prog 230 = true := by kernel_rfl
theorem EK : Tryz.prog.underlying 221 = some (.slice 224) := by kernel_rfl
theorem P6 : Ty Tryz.prog 224 true 4 := lX (by kernel_rfl)
theorem ain : cO Tryz.prog 224 3 3 := bY (by kernel_rfl)
theorem aio : cO Tryz.prog 224 0 0 := bY (by kernel_rfl)
theorem aip : cO Tryz.prog 224 1 1 := bY (by kernel_rfl)
theorem aiq : cO Tryz.prog 224 2 2 := bY (by kernel_rfl)
theorem alP : aI Tryz.prog 231 = true := by kernel_rfl
theorem alQ : aI Tryz.prog 229 = true := by kernel_rfl
theorem alR : aI Tryz.prog 228 = true := by kernel_rfl
theorem afH : Xx Tryz.prog 85 "fedchat/resolve.sort" 228 = true := by kernel_rfl
theorem ajx : aI Tryz.prog 66 = true := by kernel_rfl
theorem ajy : aI Tryz.prog 42 = true := by kernel_rfl
theorem akw : cO Tryz.prog 70 1 1 := bY (by kernel_rfl)
theorem amV : aI Tryz.prog 44 = true := by kernel_rfl
theorem amW : aI Tryz.prog 45 = true := by kernel_rfl
theorem ahm : (Tryz.prog.info? 88).bind (·.zero) = some (.agg #[.slice none 0 0]) := by kernel_rfl
theorem ant : lN Tryz.prog 88 [(0, 1)] (.agg #[.slice none 0 0]) := oZ (by kernel_rfl) ahm (by kernel_rfl)
theorem alS : (match Tryz.prog.underlying 88 with | some (.interface _) => false | some _ => true | none => false) = true := by kernel_rfl
theorem akx : cO Tryz.prog 88 0 0 := bY (by kernel_rfl)
theorem alT : aI Tryz.prog 238 = true := by kernel_rfl
theorem YX : (Tryz.prog.info? 233).bind (·.zero) = some (.agg #[.int .i64 0, .int .i64 0, .int .i64 0]) := by kernel_rfl
theorem amX : lN Tryz.prog 233 [(0, 1), (1, 1), (2, 1)] (.agg #[.int .i64 0, .int .i64 0, .int .i64 0]) := oZ (by kernel_rfl) YX (by kernel_rfl)
theorem ajz : El Tryz.prog 231 233 3 24 := EF (by kernel_rfl)
theorem alU : aI Tryz.prog 239 = true := by kernel_rfl
theorem OA : Tryz.prog.underlying 231 = some (.slice 233) := by kernel_rfl
theorem Uf : Ty Tryz.prog 233 true 3 := lX (by kernel_rfl)
def zh (x y : bM) : Bool := (x.qB == y.qB && (x.rD == y.rD && (x.uK == y.uK && true)))
theorem QW (x y : bM) : akU Tryz.prog 2 233 [.int .i64 x.qB, .int .i64 x.rD, .int .i64 x.uK] [.int .i64 y.qB, .int .i64 y.rD, .int .i64 y.uK] (zh x y) := ⟨fun d w => akV (by kernel_rfl) (by kernel_rfl) (by kernel_rfl) (l := [(3, 0), (3, 1), (3, 2)]) (by kernel_rfl) (VJ (Em iy (by kernel_rfl) w) (Em iy (by kernel_rfl) w) (run_equalIn_int w _ _ .i64 _ _ _ ab9) <| VJ (Em iy (by kernel_rfl) w) (Em iy (by kernel_rfl) w) (run_equalIn_int w _ _ .i64 _ _ _ ab9) <| VJ (Em iy (by kernel_rfl) w) (Em iy (by kernel_rfl) w) (run_equalIn_int w _ _ .i64 _ _ _ ab9) <| ajO _ _ _ _)⟩
theorem alV : Program.eqGuardType Tryz.prog (Program.depth Tryz.prog) 233 = false := by kernel_rfl
theorem alW : aI Tryz.prog 242 = true := by kernel_rfl
theorem air : cO Tryz.prog 233 0 0 := bY (by kernel_rfl)
theorem alX : aI Tryz.prog 237 = true := by kernel_rfl
theorem alY : aI Tryz.prog 236 = true := by kernel_rfl
theorem afI : Xx Tryz.prog 88 "fedchat/resolve.sort" 236 = true := by kernel_rfl
theorem aky : cO Tryz.prog 70 0 0 := bY (by kernel_rfl)
theorem akz : cO Tryz.prog 70 2 2 := bY (by kernel_rfl)
theorem alZ : Ty Tryz.prog 70 true 3 := lX (by kernel_rfl)
theorem ajA : aI Tryz.prog 31 = true := by kernel_rfl
theorem ais : TS Tryz.prog 70 0 0 false 1 = true := by kernel_rfl
theorem afJ : aI Tryz.prog 22 = true := by kernel_rfl
theorem abk : aI Tryz.prog 25 = true := by kernel_rfl
theorem amY : aI Tryz.prog 33 = true := by kernel_rfl
theorem abl : aI Tryz.prog 34 = true := by kernel_rfl
theorem ajB : aI Tryz.prog 37 = true := by kernel_rfl
theorem al0 : aI Tryz.prog 130 = true := by kernel_rfl
theorem ajC : aI Tryz.prog 54 = true := by kernel_rfl
theorem al1 : aI Tryz.prog 100 = true := by kernel_rfl
theorem amZ : aI Tryz.prog 52 = true := by kernel_rfl
theorem afK : aI Tryz.prog 23 = true := by kernel_rfl
theorem ahn : aI Tryz.prog 102 = true := by kernel_rfl
theorem abm : aI Tryz.prog 35 = true := by kernel_rfl
theorem al2 : aI Tryz.prog 103 = true := by kernel_rfl
theorem al3 : aI Tryz.prog 101 = true := by kernel_rfl
theorem am0 : aI Tryz.prog 72 = true := by kernel_rfl
theorem am1 : aI Tryz.prog 55 = true := by kernel_rfl
theorem al4 : El Tryz.prog 93 32 1 24 := EF (by kernel_rfl)
theorem afL : Tryz.prog.underlying 93 = some (.slice 32) := by kernel_rfl
theorem ajD : aI Tryz.prog 20 = true := by kernel_rfl
theorem am2 : aI Tryz.prog 36 = true := by kernel_rfl
theorem al5 : (Tryz.prog.info? 73).bind (·.zero) = some (.agg #[.slice none 0 0, .slice none 0 0, .slice none 0 0, .slice none 0 0, .slice none 0 0]) := by kernel_rfl
theorem akA : cO Tryz.prog 73 0 0 := bY (by kernel_rfl)
theorem am3 : aI Tryz.prog 21 = true := by kernel_rfl
theorem akB : cO Tryz.prog 73 1 1 := bY (by kernel_rfl)
theorem akC : cO Tryz.prog 73 2 2 := bY (by kernel_rfl)
theorem akD : cO Tryz.prog 73 3 3 := bY (by kernel_rfl)
theorem akE : cO Tryz.prog 73 4 4 := bY (by kernel_rfl)
theorem anu : Ty Tryz.prog 73 true 5 := lX (by kernel_rfl)
theorem ait : TS Tryz.prog 73 4 4 false 1 = true := by kernel_rfl
theorem anv : lN Tryz.prog 52 [(0, 1), (1, 1), (2, 1), (3, 1), (4, 1), (5, 1), (6, 1), (7, 9)] (.agg #[.string s0, .int .i64 0, .int .i64 0, .bool false, .string s0, .slice none 0 0, .slice none 0 0, .slice none 0 0, .slice none 0 0, .int .i64 0, .int .i64 0, .int .i64 0, .int .i64 0, .int .i64 0, .int .i64 0, .int .i64 0]) := oZ (by kernel_rfl) ag3 (by kernel_rfl)
theorem am4 : Tryz.prog.underlying 62 = some (.array 9 3) := by kernel_rfl
theorem akF : cO Tryz.prog 56 4 4 := bY (by kernel_rfl)
theorem ty4 : Ty Tryz.prog 4 false 1 := lX (by kernel_rfl)
theorem P7 : El Tryz.prog 23 28 1 24 := EF (by kernel_rfl)
theorem yE : aI Tryz.prog 13 = true := by kernel_rfl
theorem aho : (Tryz.prog.info? 62).bind (·.zero) = some (.agg #[.int .i64 0, .int .i64 0, .int .i64 0, .int .i64 0, .int .i64 0, .int .i64 0, .int .i64 0, .int .i64 0, .int .i64 0]) := by kernel_rfl
theorem am5 : MC Tryz.prog 62 1 (.agg #[.int .i64 0, .int .i64 0, .int .i64 0, .int .i64 0, .int .i64 0, .int .i64 0, .int .i64 0, .int .i64 0, .int .i64 0]) := RH (by kernel_rfl) aho (by kernel_rfl)
theorem afM : aI Tryz.prog 26 = true := by kernel_rfl
theorem P8 : aI Tryz.prog 27 = true := by kernel_rfl
theorem am6 : aI Tryz.prog 16 = true := by kernel_rfl
theorem JF : aI Tryz.prog 19 = true := by kernel_rfl
theorem yF : aI Tryz.prog 12 = true := by kernel_rfl
theorem ajE : aI Tryz.prog 18 = true := by kernel_rfl
theorem afN : aI Tryz.prog 10 = true := by kernel_rfl
theorem afO : aI Tryz.prog 11 = true := by kernel_rfl
theorem Ug : aI Tryz.prog 15 = true := by kernel_rfl
theorem anw : Ty Tryz.prog 62 true 9 := lX (by kernel_rfl)
instance kn : Kn Tryz.prog where
 und := [(9, .string), (3, .int .i64), (113, .int .u64)]
 VO := ⟨KI, ab9, alH, trivial⟩
 ty := [(52, true, 16), (32, false, 1), (46, false, 1), (47, false, 1), (48, false, 1), (9, false, 1), (80, true, 2), (56, true, 29), (28, false, 1), (45, true, 3), (43, false, 1), (3, false, 1), (23, false, 1), (22, false, 1), (193, true, 5), (50, true, 9), (174, true, 2), (197, true, 7), (228, true, 2), (224, true, 4), (233, true, 3), (70, true, 3), (73, true, 5), (4, false, 1), (62, true, 9)]
 hty := ⟨anh, aie, ani, ak4, ak5, ty9, afx, oI, zT, iH, anj, iy, anl, ano, amL, afE, afF, ajq, ajw, P6, Uf, alZ, anu, ty4, anw, trivial⟩
 fld := [((56, 10), 10), ((56, 8), 8), ((56, 9), 9), ((52, 5), 5), ((52, 6), 6), ((52, 7), 7), ((50, 0), 0), ((50, 1), 1), ((56, 1), 1), ((56, 2), 2), ((56, 5), 5), ((52, 0), 0), ((52, 4), 4), ((56, 12), 27), ((54, 0), 0), ((80, 0), 0), ((45, 1), 1), ((45, 0), 0), ((45, 2), 2), ((56, 0), 0), ((56, 3), 3), ((52, 1), 1), ((80, 1), 1), ((50, 2), 2), ((50, 5), 5), ((50, 7), 7), ((50, 6), 6), ((174, 0), 0), ((174, 1), 1), ((50, 4), 4), ((50, 3), 3), ((50, 8), 8), ((228, 0), 0), ((228, 1), 1), ((56, 6), 6), ((224, 3), 3), ((224, 0), 0), ((224, 1), 1), ((224, 2), 2), ((70, 1), 1), ((88, 0), 0), ((233, 0), 0), ((70, 0), 0), ((70, 2), 2), ((73, 0), 0), ((73, 1), 1), ((73, 2), 2), ((73, 3), 3), ((73, 4), 4), ((56, 4), 4)]
 hfld := ⟨aic, ajY, ajZ, aj0, aj1, aj2, aj3, aj6, aj7, aj8, aj9, akb, akc, aif, akd, ake, akf, akg, akh, aki, akj, akk, akm, akn, ako, akp, akq, aii, aij, akr, aks, akt, aik, ail, akv, ain, aio, aip, aiq, akw, akx, air, aky, akz, akA, akB, akC, akD, akE, akF, trivial⟩
 part := [((70, 0), 0, false, 1), ((73, 4), 4, false, 1)]
 hpart := ⟨ais, ait, trivial⟩
 zero := [(52, .agg #[.string s0, .int .i64 0, .int .i64 0, .bool false, .string s0, .slice none 0 0, .slice none 0 0, .slice none 0 0, .slice none 0 0, .int .i64 0, .int .i64 0, .int .i64 0, .int .i64 0, .int .i64 0, .int .i64 0, .int .i64 0]), (45, .agg #[.int .i64 0, .string s0, .int .i64 0]), (3, .int .i64 0), (28, .slice none 0 0), (32, .slice none 0 0), (4, .bool false), (56, .agg #[.int .i64 0, .string s0, .string s0, .int .i64 0, .bool false, .string s0, .int .i64 0, .int .i64 0, .slice none 0 0, .slice none 0 0, .string s0, .int .i64 0, .int .i64 0, .bool false, .string s0, .slice none 0 0, .slice none 0 0, .slice none 0 0, .slice none 0 0, .int .i64 0, .int .i64 0, .int .i64 0, .int .i64 0, .int .i64 0, .int .i64 0, .int .i64 0, .int .i64 0, .string s0, .int .i64 0]), (187, .agg #[.int .i64 0]), (193, .agg #[.int .i64 0, .int .i64 0, .int .i64 0, .int .i64 0, .int .i64 0]), (9, .string s0), (50, .agg #[.slice none 0 0, .slice none 0 0, .int .i64 0, .int .i64 0, .int .i64 0, .int .i64 0, .int .i64 0, .int .i64 0, .int .i64 0]), (80, .agg #[.string s0, .int .i64 0]), (174, .agg #[.int .i64 0, .int .i64 0]), (197, .agg #[.int .i64 0, .int .i64 0, .int .i64 0, .int .i64 0, .int .i64 0, .int .i64 0, .int .i64 0]), (199, .agg #[.slice none 0 0, .slice none 0 0]), (200, .agg #[.slice none 0 0, .slice none 0 0]), (146, .agg #[]), (70, .agg #[.slice none 0 0, .slice none 0 0, .slice none 0 0]), (85, .agg #[]), (228, .agg #[.int .i64 0, .string s0]), (224, .agg #[.int .i64 0, .int .i64 0, .int .i64 0, .slice none 0 0]), (88, .agg #[.slice none 0 0]), (233, .agg #[.int .i64 0, .int .i64 0, .int .i64 0]), (73, .agg #[.slice none 0 0, .slice none 0 0, .slice none 0 0, .slice none 0 0, .slice none 0 0]), (62, .agg #[.int .i64 0, .int .i64 0, .int .i64 0, .int .i64 0, .int .i64 0, .int .i64 0, .int .i64 0, .int .i64 0, .int .i64 0])]
 hzero := ⟨⟨ag3, by kernel_rfl⟩, ⟨Dc, by kernel_rfl⟩, ⟨zero3, by kernel_rfl⟩, ⟨EJ, by kernel_rfl⟩, ⟨zero32, by kernel_rfl⟩, ⟨afB, by kernel_rfl⟩, ⟨Iz, by kernel_rfl⟩, ⟨aeZ, by kernel_rfl⟩, ⟨ae0, by kernel_rfl⟩, ⟨zero9, by kernel_rfl⟩, ⟨ahc, by kernel_rfl⟩, ⟨Oz, by kernel_rfl⟩, ⟨ae1, by kernel_rfl⟩, ⟨ae2, by kernel_rfl⟩, ⟨ae3, by kernel_rfl⟩, ⟨ae4, by kernel_rfl⟩, ⟨ae5, by kernel_rfl⟩, ⟨alI, by kernel_rfl⟩, ⟨ahk, by kernel_rfl⟩, ⟨YV, by kernel_rfl⟩, ⟨YW, by kernel_rfl⟩, ⟨ahm, by kernel_rfl⟩, ⟨YX, by kernel_rfl⟩, ⟨al5, by kernel_rfl⟩, ⟨aho, by kernel_rfl⟩, trivial⟩
 st := [(45, [(0, 1), (1, 1), (2, 1)], .agg #[.int .i64 0, .string s0, .int .i64 0]), (56, [(0, 1), (1, 1), (2, 1), (3, 1), (4, 1), (5, 1), (6, 1), (7, 1), (8, 1), (9, 1), (10, 16), (26, 1), (27, 2)], .agg #[.int .i64 0, .string s0, .string s0, .int .i64 0, .bool false, .string s0, .int .i64 0, .int .i64 0, .slice none 0 0, .slice none 0 0, .string s0, .int .i64 0, .int .i64 0, .bool false, .string s0, .slice none 0 0, .slice none 0 0, .slice none 0 0, .slice none 0 0, .int .i64 0, .int .i64 0, .int .i64 0, .int .i64 0, .int .i64 0, .int .i64 0, .int .i64 0, .int .i64 0, .string s0, .int .i64 0]), (187, [(0, 1)], .agg #[.int .i64 0]), (50, [(0, 1), (1, 1), (2, 1), (3, 1), (4, 1), (5, 1), (6, 1), (7, 1), (8, 1)], .agg #[.slice none 0 0, .slice none 0 0, .int .i64 0, .int .i64 0, .int .i64 0, .int .i64 0, .int .i64 0, .int .i64 0, .int .i64 0]), (80, [(0, 1), (1, 1)], .agg #[.string s0, .int .i64 0]), (146, [], .agg #[]), (85, [], .agg #[]), (228, [(0, 1), (1, 1)], .agg #[.int .i64 0, .string s0]), (224, [(0, 1), (1, 1), (2, 1), (3, 1)], .agg #[.int .i64 0, .int .i64 0, .int .i64 0, .slice none 0 0]), (88, [(0, 1)], .agg #[.slice none 0 0]), (233, [(0, 1), (1, 1), (2, 1)], .agg #[.int .i64 0, .int .i64 0, .int .i64 0]), (52, [(0, 1), (1, 1), (2, 1), (3, 1), (4, 1), (5, 1), (6, 1), (7, 9)], .agg #[.string s0, .int .i64 0, .int .i64 0, .bool false, .string s0, .slice none 0 0, .slice none 0 0, .slice none 0 0, .slice none 0 0, .int .i64 0, .int .i64 0, .int .i64 0, .int .i64 0, .int .i64 0, .int .i64 0, .int .i64 0])]
 hst := ⟨ank, anm, amK, anp, anq, amM, anr, amT, amU, ant, amX, anv, trivial⟩
 arr := [(193, 1, .agg #[.int .i64 0, .int .i64 0, .int .i64 0, .int .i64 0, .int .i64 0]), (197, 1, .agg #[.int .i64 0, .int .i64 0, .int .i64 0, .int .i64 0, .int .i64 0, .int .i64 0, .int .i64 0]), (199, 1, .agg #[.slice none 0 0, .slice none 0 0]), (200, 1, .agg #[.slice none 0 0, .slice none 0 0]), (62, 1, .agg #[.int .i64 0, .int .i64 0, .int .i64 0, .int .i64 0, .int .i64 0, .int .i64 0, .int .i64 0, .int .i64 0, .int .i64 0])]
 harr := ⟨alk, aly, alz, alB, am5, trivial⟩
end Go.Proofs.YtelpgcaiadpjpaaGreat
end
section
namespace Go.Proofs.YtelpgcaiadpjpaaGreat
open Go.RowKit
set_option maxRecDepth 20000
set_option maxHeartbeats 4000000
def adY (aS : ah) (v23 : Int) : St := ⟨cu 125 [(3, .ptr 0 0), (4, .d (eI v23))], [.box (dc (zG aS.Content))], 0⟩
def adZ (aS : ah) (v28 : Int) : St := ⟨cu 125 [(3, .ptr 0 0), (5, .d (eI v28))], [.box (dc (zG aS.Content))], 0⟩
def ad1 (aS : ah) (v33 : Int) : St := ⟨cu 125 [(3, .ptr 0 0), (6, .d (eI v33))], [.box (dc (zG aS.Content))], 0⟩
def He (aS : ah) (k34 : (Int → Option Bool)) : Int → Option Bool := fun v33 => (bif decide (v33 < (aS.Content.Levels.Users.length : Int)) then (bf aS.Content.Levels.Users v33).bind fun Jm => (bif decide ((Jm.User.size : Int) > 2000) then some true else k34 (IntKind.i64.wrap (v33 + 1))) else some false)
def NI (aS : ah) : Int → Option Bool := bQ (He aS) fuel
def Hf (aS : ah) (k29 : (Int → Option Bool)) : Int → Option Bool := fun v28 => (bif decide (v28 < (aS.Content.zS.length : Int)) then (bf aS.Content.zS v28).bind fun x31 => (bif decide ((x31.size : Int) > 2000) then some true else k29 (IntKind.i64.wrap (v28 + 1))) else NI aS 0)
def NJ (aS : ah) : Int → Option Bool := bQ (Hf aS) fuel
def Hg (aS : ah) (k24 : (Int → Option Bool)) : Int → Option Bool := fun v23 => (bif decide (v23 < (aS.Content.Allow.length : Int)) then (bf aS.Content.Allow v23).bind fun CG => (bif decide ((CG.size : Int) > 2000) then some true else k24 (IntKind.i64.wrap (v23 + 1))) else NJ aS 0)
def U4 (aS : ah) : Int → Option Bool := bQ (Hg aS) fuel
def KJ (aS : ah) : Option Bool := (bif decide ((aS.jD.length : Int) > 40) then some true else some (decide ((aS.fH.length : Int) > 40))).bind fun x1 => (bif x1 then some true else some (decide ((aS.Content.Allow.length : Int) > 40))).bind fun x3 => (bif x3 then some true else some (decide ((aS.Content.zS.length : Int) > 40))).bind fun x5 => (bif x5 then some true else some (decide ((aS.Content.Levels.Users.length : Int) > 40))).bind fun x7 => (bif x7 then some true else some (decide ((aS.Content.Levels.Kinds.length : Int) > 40))).bind fun x9 => (bif x9 then some true else (bif decide ((aS.Room.size : Int) > 2000) then some true else some (decide ((aS.bC.size : Int) > 2000))).bind fun x12 => (bif x12 then some true else some (decide ((aS.Key.size : Int) > 2000))).bind fun x14 => (bif x14 then some true else some (decide ((aS.Content.Text.size : Int) > 2000))).bind fun x16 => (bif x16 then some true else some (decide ((aS.Content.Via.size : Int) > 2000))).bind fun x18 => (bif x18 then some true else some (decide ((aS.Sig.Server.size : Int) > 2000))).bind fun x20 => (bif x20 then some true else U4 aS 0))
theorem ad3 (aS r) (h : KJ aS = some r) : Runs Tryz.prog 28 [.d (aA aS)] [] (.d (eB r)) [] := by
 refine Runs.aT Tryz.func28 rfl ?_; unfold KJ at h; refine SP.rg <| .a 2 <| .au <| SP.rg <| .a 4 <| .au <| SP.aJ <| SP.rg <| .a 2 <| .p (aW eI aS.jD bT rfl) <| .a 1 <| ?_; obtain ⟨x1, hx1, h⟩ := aC h; refine .merge 6 [13, 14, 15, 16, 17] 18 (.d (eB x1)) ?_ ?_
 · rcases fF hx1 with ⟨hb2, h⟩ | ⟨hb2, h⟩
   · refine .c (congrArg some hb2) <| .a 5 <| .au ?_; obtain rfl := aB h; kernel_rfl
   refine .c (congrArg some hb2) <| .a 2 <| .p (aW eI aS.fH bT rfl) <| .a 2 <| .au ?_; obtain rfl := aB h; kernel_rfl
 refine .a 1 <| ?_; obtain ⟨x3, hx3, h⟩ := aC h; refine .merge 5 [20, 21, 22, 23] 24 (.d (eB x3)) ?_ ?_
 · replace h := hx3; cases x1 with
   | true =>
     replace h := bI rfl h; refine .a 5 <| .au ?_; obtain rfl := aB h; kernel_rfl
   | false =>
     replace h := bG rfl h; refine .a 2 <| .p (aW eS aS.Content.Allow Uc rfl) <| .a 2 <| .au ?_; obtain rfl := aB h; kernel_rfl
 refine .a 1 <| ?_; obtain ⟨x5, hx5, h⟩ := aC h; refine .merge 5 [26, 27, 28, 29] 30 (.d (eB x5)) ?_ ?_
 · replace h := hx5; cases x3 with
   | true =>
     replace h := bI rfl h; refine .a 5 <| .au ?_; obtain rfl := aB h; kernel_rfl
   | false =>
     replace h := bG rfl h; refine .a 2 <| .p (aW eS aS.Content.zS Uc rfl) <| .a 2 <| .au ?_; obtain rfl := aB h; kernel_rfl
 refine .a 1 <| ?_; obtain ⟨x7, hx7, h⟩ := aC h; refine .merge 6 [32, 33, 34, 35, 36] 37 (.d (eB x7)) ?_ ?_
 · replace h := hx7; cases x5 with
   | true =>
     replace h := bI rfl h; refine .a 6 <| .au ?_; obtain rfl := aB h; kernel_rfl
   | false =>
     replace h := bG rfl h; refine .a 3 <| .p (aW dL aS.Content.Levels.Users MN rfl) <| .a 2 <| .au ?_; obtain rfl := aB h; kernel_rfl
 refine .a 1 <| ?_; obtain ⟨x9, iK, h⟩ := aC h; refine .merge 6 [39, 40, 41, 42, 43] 44 (.d (eB x9)) ?_ ?_
 · replace h := iK; cases x7 with
   | true =>
     replace h := bI rfl h; refine .a 6 <| .au ?_; obtain rfl := aB h; kernel_rfl
   | false =>
     replace h := bG rfl h; refine .a 3 <| .p (aW dH aS.Content.Levels.Kinds Ud rfl) <| .a 2 <| .au ?_; obtain rfl := aB h; kernel_rfl
 refine .au <| SP.cnd h (fun h => ?_) fun h => ?_
 · refine SP.rg <| .a 1 <| .au ?_; rw [← aB h]; exact .ret (aU [])
 refine SP.skip <| SP.aJ <| SP.rg <| .a 4 <| ?_; obtain ⟨x12, jE, h⟩ := aC h; refine .merge 6 [49, 50, 51, 52, 53] 54 (.d (eB x12)) ?_ ?_
 · rcases fF jE with ⟨yG, h⟩ | ⟨yG, h⟩
   · refine .c (congrArg some yG) <| .a 5 <| .au ?_; obtain rfl := aB h; kernel_rfl
   refine .c (congrArg some yG) <| .a 5 <| .au ?_; obtain rfl := aB h; kernel_rfl
 refine .a 1 <| ?_; obtain ⟨x14, vV, h⟩ := aC h; refine .merge 5 [56, 57, 58, 59] 60 (.d (eB x14)) ?_ ?_
 · replace h := vV; cases x12 with
   | true =>
     replace h := bI rfl h; refine .a 5 <| .au ?_; obtain rfl := aB h; kernel_rfl
   | false =>
     replace h := bG rfl h; refine .a 5 <| .au ?_; obtain rfl := aB h; kernel_rfl
 refine .a 1 <| ?_; obtain ⟨x16, hx16, h⟩ := aC h; refine .merge 5 [62, 63, 64, 65] 66 (.d (eB x16)) ?_ ?_
 · replace h := hx16; cases x14 with
   | true =>
     replace h := bI rfl h; refine .a 5 <| .au ?_; obtain rfl := aB h; kernel_rfl
   | false =>
     replace h := bG rfl h; refine .a 5 <| .au ?_; obtain rfl := aB h; kernel_rfl
 refine .a 1 <| ?_; obtain ⟨x18, pV, h⟩ := aC h; refine .merge 5 [68, 69, 70, 71] 72 (.d (eB x18)) ?_ ?_
 · replace h := pV; cases x16 with
   | true =>
     replace h := bI rfl h; refine .a 5 <| .au ?_; obtain rfl := aB h; kernel_rfl
   | false =>
     replace h := bG rfl h; refine .a 5 <| .au ?_; obtain rfl := aB h; kernel_rfl
 refine .a 1 <| ?_; obtain ⟨x20, CQ, h⟩ := aC h; refine .merge 6 [74, 75, 76, 77, 78] 79 (.d (eB x20)) ?_ ?_
 · replace h := CQ; cases x18 with
   | true =>
     replace h := bI rfl h; refine .a 6 <| .au ?_; obtain rfl := aB h; kernel_rfl
   | false =>
     replace h := bG rfl h; refine .a 6 <| .au ?_; obtain rfl := aB h; kernel_rfl
 refine .au <| SP.cnd h (fun h => ?_) fun h => ?_
 · refine SP.rg <| .a 1 <| .au ?_; rw [← aB h]; exact .ret (aU [])
 refine SP.skip <| SP.aJ <| SP.rg <| .a 1 <| .au <| SP.block ?_; refine SP.bQ (adY aS) _ _ _ (aF (mk 125 24) [(1, true)]) h ?_; clear h; intro J40 k24 anx v23 h; unfold Hg at h; refine SP.aJ <| SP.rg <| .a 3 <| .p (aW eS aS.Content.Allow Uc rfl) <| .a 1 <| .au <| SP.cnd h (fun h => ?_) fun h => ?_
 · refine SP.skip <| SP.aJ <| SP.block ?_; obtain ⟨CG, P9, h⟩ := aC h; refine SP.rg <| .a 3 <| .p (aP (k := .i64) eS P9 Uc ty9 (by kernel_rfl) rfl) <| .a 3 <| .au <| SP.cnd h (fun h => ?_) fun h => ?_
   · refine SP.rg <| .a 1 <| .au ?_; rw [← aB h]; exact .ret (aU [])
   refine SP.skip <| SP.bU <| .a 3 <| .nil ?_; exact anx _ _ (aF (mk 125 24) [(0, true)]) h
 refine SP.exit <| SP.aJ <| SP.rg <| .a 1 <| .au <| SP.block ?_; refine SP.bQ (adZ aS) _ _ _ (aF (mk 125 40) [(0, true)]) h ?_; clear h; intro J39 k29 aiu v28 h; unfold Hf at h; refine SP.aJ <| SP.rg <| .a 3 <| .p (aW eS aS.Content.zS Uc rfl) <| .a 1 <| .au <| SP.cnd h (fun h => ?_) fun h => ?_
 · refine SP.skip <| SP.aJ <| SP.block ?_; obtain ⟨x31, hx31, h⟩ := aC h; refine SP.rg <| .a 3 <| .p (aP (k := .i64) eS hx31 Uc ty9 (by kernel_rfl) rfl) <| .a 3 <| .au <| SP.cnd h (fun h => ?_) fun h => ?_
   · refine SP.rg <| .a 1 <| .au ?_; rw [← aB h]; exact .ret (aU [])
   refine SP.skip <| SP.bU <| .a 3 <| .nil ?_; exact aiu _ _ (aF (mk 125 40) [(0, true)]) h
 refine SP.exit <| SP.aJ <| SP.rg <| .a 1 <| .au <| SP.block ?_; refine SP.bQ (ad1 aS) _ _ _ (aF (mk 125 72) [(0, true)]) h ?_; clear h; intro J38 k34 aiv v33 h; unfold He at h; refine SP.aJ <| SP.rg <| .a 4 <| .p (aW dL aS.Content.Levels.Users MN rfl) <| .a 1 <| .au <| SP.cnd h (fun h => ?_) fun h => ?_
 · refine SP.skip <| SP.aJ <| SP.block ?_; obtain ⟨Jm, NK, h⟩ := aC h; refine SP.rg <| .a 4 <| .p (aP (k := .i64) dL NK MN afx (by kernel_rfl) rfl) <| .a 4 <| .au <| SP.cnd h (fun h => ?_) fun h => ?_
   · refine SP.rg <| .a 1 <| .au ?_; rw [← aB h]; exact .ret (aU [])
   refine SP.skip <| SP.bU <| .a 3 <| .nil ?_; exact aiv _ _ (aF (mk 125 72) [(0, true)]) h
 refine SP.exit <| SP.rg <| .a 1 <| .au ?_; rw [← aB h]; exact .ret (aU [])
def acj (ay : (List ah)) (v2 : Int) : St := ⟨cu 21 [(0, .d ((eL aA) ay)), (5, .d (eI v2))], [], 0⟩
def EL (ay : (List ah)) (k3 : (Int → Option Bool)) : Int → Option Bool := fun v2 => (bif decide (v2 < (ay.length : Int)) then (bf ay v2).bind fun x5 => (KJ x5).bind fun x6 => (bif x6 then some true else k3 (IntKind.i64.wrap (v2 + 1))) else some false)
def RZ (ay : (List ah)) : Int → Option Bool := bQ (EL ay) fuel
def xZ (ay : (List ah)) (eP : Int) : Option Bool := (bif decide ((ay.length : Int) > eP) then some true else RZ ay 0)
theorem KL (ay eP r) (h : xZ ay eP = some r) : Runs Tryz.prog 10 [.d ((eL aA) ay), .d (eI eP)] [] (.d (eB r)) [] := by
 refine Runs.aT Tryz.func10 rfl ?_; unfold xZ at h; refine SP.rg <| .a 1 <| .au <| SP.aJ <| SP.rg <| .a 1 <| .p (aW aA ay jH rfl) <| .a 2 <| .au <| SP.cnd h (fun h => ?_) fun h => ?_
 · refine SP.rg <| .a 1 <| .au ?_; rw [← aB h]; exact .ret (aU [])
 refine SP.skip <| SP.aJ <| SP.rg <| .a 1 <| .au <| SP.block ?_; refine SP.bQ (acj ay) _ _ _ (aF (mk 21 33) []) h ?_; clear h; intro J8 k3 hk3 v2 h; unfold EL at h; refine SP.aJ <| SP.rg <| .a 2 <| .p (aW aA ay jH rfl) <| .a 1 <| .au <| SP.cnd h (fun h => ?_) fun h => ?_
 · refine SP.skip <| SP.aJ <| SP.block ?_; obtain ⟨x5, hx5, x6, hx6, h⟩ := aY h; refine SP.rg <| .a 2 <| .p (aP (k := .i64) aA hx5 jH oI (by kernel_rfl) rfl) <| .a 1 <| .call (ad3 x5 x6 hx6) amr <| .au <| SP.cnd h (fun h => ?_) fun h => ?_
   · refine SP.rg <| .a 1 <| .au ?_; rw [← aB h]; exact .ret (aU [])
   refine SP.skip <| SP.bU <| .a 3 <| .nil ?_; exact hk3 _ _ (aF (mk 21 33) []) h
 refine SP.exit <| SP.rg <| .a 1 <| .au ?_; rw [← aB h]; exact .ret (aU [])
def acn (dD : (List (List aj))) (v2 : Int) : St := ⟨cu 39 [(0, .d ((eL (eL ak)) dD)), (3, .d (eI v2))], [], 0⟩
def aco (dD : (List (List aj))) (v2 : Int) (v7 : Int) : St := ⟨cu 39 [(0, .d ((eL (eL ak)) dD)), (3, .d (eI v2)), (4, .d (eI v7))], [], 0⟩
def EM (dD : (List (List aj))) (v2 : Int) (k3 : (Int → Option Bool)) (k8 : (Int → Option Bool)) : Int → Option Bool := fun v7 => (bf dD v2).bind fun x9 => (bif decide (v7 < (x9.length : Int)) then (bf dD v2).bind fun x11 => (bf x11 v7).bind fun x12 => (bif decide ((x12.Key.size : Int) > 100) then some true else k8 (IntKind.i64.wrap (v7 + 1))) else k3 (IntKind.i64.wrap (v2 + 1)))
def Si (dD : (List (List aj))) (v2 : Int) (k3 : (Int → Option Bool)) : Int → Option Bool := bQ (EM dD v2 k3) fuel
def EN (dD : (List (List aj))) (k3 : (Int → Option Bool)) : Int → Option Bool := fun v2 => (bif decide (v2 < (dD.length : Int)) then (bf dD v2).bind fun x5 => (bif decide ((x5.length : Int) > 20) then some true else Si dD v2 k3 0) else some false)
def Sj (dD : (List (List aj))) : Int → Option Bool := bQ (EN dD) fuel
def IC (dD : (List (List aj))) : Option Bool := (bif decide ((dD.length : Int) > 4) then some true else Sj dD 0)
theorem acp (dD r) (h : IC dD = some r) : Runs Tryz.prog 29 [.d ((eL (eL ak)) dD)] [] (.d (eB r)) [] := by
 refine Runs.aT Tryz.func29 rfl ?_; unfold IC at h; refine SP.rg <| .a 1 <| .au <| SP.aJ <| SP.rg <| .a 1 <| .p (aW (eL ak) dD jw rfl) <| .a 1 <| .au <| SP.cnd h (fun h => ?_) fun h => ?_
 · refine SP.rg <| .a 1 <| .au ?_; rw [← aB h]; exact .ret (aU [])
 refine SP.skip <| SP.aJ <| SP.rg <| .a 1 <| .au <| SP.block ?_; refine SP.bQ (acn dD) _ _ _ (aF (mk 39 9) []) h ?_; clear h; intro J15 k3 hk3 v2 h; unfold EN at h; refine SP.aJ <| SP.rg <| .a 2 <| .p (aW (eL ak) dD jw rfl) <| .a 1 <| .au <| SP.cnd h (fun h => ?_) fun h => ?_
 · refine SP.skip <| SP.aJ <| SP.block <| SP.aJ ?_; obtain ⟨x5, hx5, h⟩ := aC h; refine SP.rg <| .a 2 <| .p (aP (k := .i64) (eL ak) hx5 jw zT (by kernel_rfl) rfl) <| .a 1 <| .p (aW ak x5 dO rfl) <| .a 1 <| .au <| SP.cnd h (fun h => ?_) fun h => ?_
   · refine SP.rg <| .a 1 <| .au ?_; rw [← aB h]; exact .ret (aU [])
   refine SP.skip <| SP.rg <| .a 1 <| .au <| SP.block ?_; refine SP.bQ (aco dD v2) _ _ _ (aF (mk 39 25) []) h ?_; clear h; intro J14 k8 hk8 v7 h; unfold EM at h; refine SP.aJ ?_; obtain ⟨x9, iK, h⟩ := aC h; refine SP.rg <| .a 3 <| .p (aP (k := .i64) (eL ak) iK jw zT (by kernel_rfl) rfl) <| .a 1 <| .p (aW ak x9 dO rfl) <| .a 1 <| .au <| SP.cnd h (fun h => ?_) fun h => ?_
   · refine SP.skip <| SP.aJ <| SP.block ?_; obtain ⟨x11, gU, x12, jE, h⟩ := aY h; refine SP.rg <| .a 2 <| .p (aP (k := .i64) (eL ak) gU jw zT (by kernel_rfl) rfl) <| .a 2 <| .p (aP (k := .i64) ak jE dO iH (by kernel_rfl) rfl) <| .a 4 <| .au <| SP.cnd h (fun h => ?_) fun h => ?_
     · refine SP.rg <| .a 1 <| .au ?_; rw [← aB h]; exact .ret (aU [])
     refine SP.skip <| SP.bU <| .a 3 <| .nil ?_; exact hk8 _ _ (aF (mk 39 25) []) h
   refine SP.exit <| SP.bU <| .a 3 <| .nil ?_; exact hk3 _ _ (aF (mk 39 9) []) h
 refine SP.exit <| SP.rg <| .a 1 <| .au ?_; rw [← aB h]; exact .ret (aU [])
def IE (tX : Int) (rF : ByteArray) (acr : Int) (Qa : ByteArray) : Option Bool := (bif decide (tX < acr) then some true else (bif (tX == acr) then some (Op.bytesLess (rF.toList) (Qa.toList)) else some false).bind fun x3 => some x3).bind fun x1 => some x1
theorem acs (tX rF acr Qa r) (h : IE tX rF acr Qa = some r) : Runs Tryz.prog 38 [.d (eI tX), .d (eS rF), .d (eI acr), .d (eS Qa)] [] (.d (eB r)) [] := by
 refine Runs.aT Tryz.func38 rfl ?_; unfold IE at h; refine SP.rg <| .a 1 <| .au <| SP.rg <| .a 3 <| ?_; obtain ⟨x1, hx1, h⟩ := aC h; refine .merge 10 [12, 13, 14, 15, 16, 17, 18, 19, 20] 21 (.d (eB x1)) ?_ ?_
 · rcases fF hx1 with ⟨hb2, h⟩ | ⟨hb2, h⟩
   · refine .c (congrArg some hb2) <| .a 9 <| .au ?_; obtain rfl := aB h; kernel_rfl
   refine .c (congrArg some hb2) <| .a 3 <| ?_; obtain ⟨x3, hx3, h⟩ := aC h; refine .merge 5 [16, 17, 18, 19] 20 (.d (eB x3)) ?_ ?_
   · rcases fF hx3 with ⟨hb4, h⟩ | ⟨hb4, h⟩
     · refine .c (congrArg some hb4) <| .a 4 <| .au ?_; obtain rfl := aB h; kernel_rfl
     refine .c (congrArg some hb4) <| .a 4 <| .au ?_; obtain rfl := aB h; kernel_rfl
   refine .a 1 <| .au ?_; obtain rfl := aB h; kernel_rfl
 refine .a 1 <| .au ?_; rw [← aB h]; exact .ret (aU [])
def AO (tX : Int) : Option Bool := (bif decide (tX ≥ 1) then some (decide (tX ≤ 10)) else some false).bind fun x1 => some x1
theorem NM (tX r) (h : AO tX = some r) : Runs Tryz.prog 24 [.d (eI tX)] [] (.d (eB r)) [] := by
 refine Runs.aT Tryz.func24 rfl ?_; unfold AO at h; refine SP.rg <| .a 1 <| .au <| SP.rg <| .a 2 <| ?_; obtain ⟨x1, hx1, h⟩ := aC h; refine .merge 4 [5, 6, 7] 8 (.d (eB x1)) ?_ ?_
 · rcases fF hx1 with ⟨hb2, h⟩ | ⟨hb2, h⟩
   · refine .c (congrArg some hb2) <| .a 3 <| .au ?_; obtain rfl := aB h; kernel_rfl
   refine .c (congrArg some hb2) <| .a 3 <| .au ?_; obtain rfl := aB h; kernel_rfl
 refine .a 1 <| .au ?_; rw [← aB h]; exact .ret (aU [])
def acu (aN : (List aj)) (v1 : Int) : St := ⟨cu 59 [(0, .d ((eL ak) aN)), (3, .d (eI v1))], [], 0⟩
def acv (aN : (List aj)) (v10 : Int) : St := ⟨cu 59 [(0, .d ((eL ak) aN)), (4, .d (eI v10))], [], 0⟩
def EO (aN : (List aj)) (k11 : (Int → Option Int)) : Int → Option Int := fun v10 => (bif decide (v10 < (aN.length : Int)) then (bf aN v10).bind fun ig => (AO ig.Kind).bind fun x14 => (bif (!x14) then some true else (bf aN v10).bind fun x17 => some (decide (x17.Id < 0))).bind fun x15 => (bif x15 then some 1 else k11 (IntKind.i64.wrap (v10 + 1))) else (bif decide ((aN.length : Int) > 2000) then some 7 else some 0))
def KN (aN : (List aj)) : Int → Option Int := bQ (EO aN) fuel
def EP (aN : (List aj)) (k2 : (Int → Option Int)) : Int → Option Int := fun v1 => (bif decide (v1 < (aN.length : Int)) then (bf aN (IntKind.i64.wrap (v1 - 1))).bind fun x4 => (bf aN (IntKind.i64.wrap (v1 - 1))).bind fun x5 => (bf aN v1).bind fun x6 => (bf aN v1).bind fun x7 => (IE x4.Kind x5.Key x6.Kind x7.Key).bind fun x8 => (bif (!x8) then some 8 else k2 (IntKind.i64.wrap (v1 + 1))) else KN aN 0)
def Sl (aN : (List aj)) : Int → Option Int := bQ (EP aN) fuel
def IG (aN : (List aj)) : Option Int := Sl aN 1
theorem acw (aN r) (h : IG aN = some r) : Runs Tryz.prog 30 [.d ((eL ak) aN)] [] (.d (eI r)) [] := by
 refine Runs.aT Tryz.func30 rfl ?_; unfold IG at h; refine SP.rg <| .a 1 <| .au <| SP.aJ <| SP.rg <| .a 1 <| .au <| SP.block ?_; refine SP.bQ (acu aN) _ _ _ (aF (mk 59 9) []) h ?_; clear h; intro J21 k2 hk2 v1 h; unfold EP at h; refine SP.aJ <| SP.rg <| .a 2 <| .p (aW ak aN dO rfl) <| .a 1 <| .au <| SP.cnd h (fun h => ?_) fun h => ?_
 · refine SP.skip <| SP.aJ <| SP.block ?_; obtain ⟨x4, hx4, x5, hx5, x6, hx6, h⟩ := lS h; obtain ⟨x7, hx7, x8, je, h⟩ := aY h; refine SP.yA (by kernel_rfl) (by kernel_rfl) (by kernel_rfl) (.a 3 <| .p (aP (k := .i64) ak hx4 dO iH (by kernel_rfl) rfl) <| .a 5 <| .p (aP (k := .i64) ak hx5 dO iH (by kernel_rfl) rfl) <| .a 4 <| .p (aP (k := .i64) ak hx6 dO iH (by kernel_rfl) rfl) <| .a 4 <| .p (aP (k := .i64) ak hx7 dO iH (by kernel_rfl) rfl) <| .a 2 <| .call (acs x4.Kind x5.Key x6.Kind x7.Key x8 je) ams <| .a 1 <| .nil _) <| SP.cnd h (fun h => ?_) fun h => ?_
   · refine SP.rg <| .a 1 <| .au ?_; rw [← aB h]; exact .ret (aU [])
   refine SP.skip <| SP.bU <| .a 3 <| .nil ?_; exact hk2 _ _ (aF (mk 59 9) []) h
 refine SP.exit <| SP.aJ <| SP.rg <| .a 1 <| .au <| SP.block ?_; refine SP.bQ (acv aN) _ _ _ (aF (mk 59 17) []) h ?_; clear h; intro J20 k11 acy v10 h; unfold EO at h; refine SP.aJ <| SP.rg <| .a 2 <| .p (aW ak aN dO rfl) <| .a 1 <| .au <| SP.cnd h (fun h => ?_) fun h => ?_
 · refine SP.skip <| SP.aJ <| SP.block ?_; obtain ⟨ig, tY, x14, vV, h⟩ := aY h; refine SP.rg <| .a 2 <| .p (aP (k := .i64) ak tY dO iH (by kernel_rfl) rfl) <| .a 2 <| .call (NM ig.Kind x14 vV) afy <| .a 1 <| ?_; obtain ⟨x15, lT, h⟩ := aC h; refine .merge 8 [48, 49, 50, 51, 52, 53, 54] 55 (.d (eB x15)) ?_ ?_
   · rcases fF lT with ⟨hb16, h⟩ | ⟨hb16, h⟩
     · refine .c (congrArg some hb16) <| .a 7 <| .au ?_; obtain rfl := aB h; kernel_rfl
     obtain ⟨x17, zU, h⟩ := aC h; refine .c (congrArg some hb16) <| .a 2 <| .p (aP (k := .i64) ak zU dO iH (by kernel_rfl) rfl) <| .a 4 <| .au ?_; obtain rfl := aB h; kernel_rfl
   refine .au <| SP.cnd h (fun h => ?_) fun h => ?_
   · refine SP.rg <| .a 1 <| .au ?_; rw [← aB h]; exact .ret (aU [])
   refine SP.skip <| SP.bU <| .a 3 <| .nil ?_; exact acy _ _ (aF (mk 59 17) []) h
 refine SP.exit <| SP.aJ <| SP.rg <| .a 1 <| .p (aW ak aN dO rfl) <| .a 1 <| .au <| SP.cnd h (fun h => ?_) fun h => ?_
 · refine SP.rg <| .a 1 <| .au ?_; rw [← aB h]; exact .ret (aU [])
 refine SP.skip <| SP.rg <| .a 1 <| .au ?_; rw [← aB h]; exact .ret (aU [])
def acz (dD : (List (List aj))) (v3 : Int) : St := ⟨cu 18 [(0, .d ((eL (eL ak)) dD)), (3, .d (eI v3))], [], 0⟩
def ER (dD : (List (List aj))) (k4 : (Int → Option Bool)) : Int → Option Bool := fun v3 => (bif decide (v3 < (dD.length : Int)) then (bf dD v3).bind fun x6 => (IG x6).bind fun x7 => (bif (x7 != 0) then some false else k4 (IntKind.i64.wrap (v3 + 1))) else some true)
def Sm (dD : (List (List aj))) : Int → Option Bool := bQ (ER dD) fuel
def yc (dD : (List (List aj))) : Option Bool := (IC dD).bind fun x1 => (bif x1 then some false else Sm dD 0)
theorem KO (dD r) (h : yc dD = some r) : Runs Tryz.prog 11 [.d ((eL (eL ak)) dD)] [] (.d (eB r)) [] := by
 refine Runs.aT Tryz.func11 rfl ?_; unfold yc at h; refine SP.rg <| .a 1 <| .au <| SP.aJ ?_; obtain ⟨x1, hx1, h⟩ := aC h; refine SP.rg <| .a 1 <| .call (acp dD x1 hx1) amu <| .au <| SP.cnd h (fun h => ?_) fun h => ?_
 · refine SP.rg <| .a 1 <| .au ?_; rw [← aB h]; exact .ret (aU [])
 refine SP.skip <| SP.aJ <| SP.rg <| .a 1 <| .au <| SP.block ?_; refine SP.bQ (acz dD) _ _ _ (aF (mk 18 9) []) h ?_; clear h; intro J9 k4 hk4 v3 h; unfold ER at h; refine SP.aJ <| SP.rg <| .a 2 <| .p (aW (eL ak) dD jw rfl) <| .a 1 <| .au <| SP.cnd h (fun h => ?_) fun h => ?_
 · refine SP.skip <| SP.aJ <| SP.block ?_; obtain ⟨x6, hx6, x7, hx7, h⟩ := aY h; refine SP.rg <| .a 2 <| .p (aP (k := .i64) (eL ak) hx6 jw zT (by kernel_rfl) rfl) <| .a 1 <| .call (acw x6 x7 hx7) amv <| .a 1 <| .au <| SP.cnd h (fun h => ?_) fun h => ?_
   · refine SP.rg <| .a 1 <| .au ?_; rw [← aB h]; exact .ret (aU [])
   refine SP.skip <| SP.bU <| .a 3 <| .nil ?_; exact hk4 _ _ (aF (mk 18 9) []) h
 refine SP.exit <| SP.rg <| .a 1 <| .au ?_; rw [← aB h]; exact .ret (aU [])
def DV (aN : (List aj)) : Option (List aj) := some aN
theorem VU (aN r) (h : DV aN = some r) : Runs Tryz.prog 56 [.d ((eL ak) aN)] [] (.d (.fn (.func 80) [] [(.ref ((eL ak) r).cells 0)])) [] := by
 refine Runs.aT Tryz.func56 rfl ?_; unfold DV at h; refine SP.rg <| .a 2 <| .au <| SP.rg <| .conv _ (oC (cs := dc ((eL ak) aN)) 0 (by kernel_rfl) (by kernel_rfl)) <| .p (x := .d (.fn (.func 80) [] [(.ref ((eL ak) aN).cells 0)])) (qj [(.ref ((eL ak) aN).cells 0)] rfl rfl) <| .a 1 <| .au ?_; rw [← aB h]; exact .ret (aU [])
def I9 (ay : (List aj)) (yH : D) (AP : D) (v1 : Int) : St := ⟨cu 36 [(0, .d ((eL ak) ay)), (1, .d yH), (2, .d AP), (8, .d (eI v1))], [], 0⟩
def jT (ay : (List aj)) (vF : (aj → Option Bool)) (yI : (aj → Option Bool)) (k2 : (Int → Option (Int × Bool))) : Int → Option (Int × Bool) := fun v1 => (bif decide (v1 < (ay.length : Int)) then (bf ay v1).bind fun x5 => (vF x5).bind fun x6 => some x6 else some false).bind fun x3 => (bif x3 then k2 (IntKind.i64.wrap (v1 + 1)) else (bif decide (v1 < (ay.length : Int)) then (bf ay v1).bind fun x10 => (yI x10).bind fun x11 => some x11 else some false).bind fun x8 => some (v1, x8))
def zi (ay : (List aj)) (vF : (aj → Option Bool)) (yI : (aj → Option Bool)) : Int → Option (Int × Bool) := bQ (jT ay vF yI) fuel
def pF (ay : (List aj)) (vF : (aj → Option Bool)) (yI : (aj → Option Bool)) : Option (Int × Bool) := zi ay vF yI 0
theorem Ja (ay : (List aj)) (vF : (aj → Option Bool)) (yH : D) (afP : Fn1 Tryz.prog ak eB yH vF) (yI : (aj → Option Bool)) (AP : D) (ahp : Fn1 Tryz.prog ak eB AP yI) (r : (Int × Bool)) (h : pF ay vF yI = some r) : Runs Tryz.prog 92 [.d ((eL ak) ay), .d yH, .d AP] [] (.dW [.d (eI r.1), .d (eB r.2)]) [] := by
 refine Runs.aT Tryz.func92 rfl ?_; unfold pF at h; refine SP.rg <| .a 2 <| .au <| SP.rg <| .a 1 <| .au <| SP.aJ <| SP.block ?_; refine SP.bQ (I9 ay yH AP) _ _ _ (aF (mk 36 263) []) h ?_; clear h; intro J12 k2 hk2 v1 h; unfold jT at h; refine SP.aJ <| SP.rg <| .a 2 <| .p (aW ak ay MO rfl) <| .a 1 <| ?_; obtain ⟨x3, hx3, h⟩ := aC h; refine .merge 8 [13, 14, 15, 16, 17, 18, 19] 20 (.d (eB x3)) ?_ ?_
 · rcases fF hx3 with ⟨hb4, h⟩ | ⟨hb4, h⟩
   · obtain ⟨x5, hx5, x6, hx6, h⟩ := aY h; refine .c (congrArg some hb4) <| .a 3 <| .p (aP (k := .i64) ak hx5 MO iH (by kernel_rfl) rfl) <| .a 1 <| .p (Oo (d := yH) (afP : Fn1 Tryz.prog ak eB yH vF) hx6 rfl) <| .a 1 <| .au ?_; obtain rfl := aB h; kernel_rfl
   refine .c (congrArg some hb4) <| .a 7 <| .au ?_; obtain rfl := aB h; kernel_rfl
 refine .au <| SP.cnd h (fun h => ?_) fun h => ?_
 · refine SP.skip <| SP.block <| SP.bU <| .a 3 <| .nil ?_; exact hk2 _ _ (aF (mk 36 263) []) h
 refine SP.exit <| SP.rg <| .a 3 <| .p (aW ak ay MO rfl) <| .a 1 <| ?_; obtain ⟨x8, je, h⟩ := aC h; refine .merge 8 [28, 29, 30, 31, 32, 33, 34] 35 (.d (eB x8)) ?_ ?_
 · rcases fF je with ⟨Sv, h⟩ | ⟨Sv, h⟩
   · obtain ⟨x10, lD, x11, gU, h⟩ := aY h; refine .c (congrArg some Sv) <| .a 3 <| .p (aP (k := .i64) ak lD MO iH (by kernel_rfl) rfl) <| .a 1 <| .p (Oo (d := AP) (ahp : Fn1 Tryz.prog ak eB AP yI) gU rfl) <| .a 1 <| .au ?_; obtain rfl := aB h; kernel_rfl
   refine .c (congrArg some Sv) <| .a 7 <| .au ?_; obtain rfl := aB h; kernel_rfl
 refine .a 2 <| .au ?_; rw [← aB h]; exact .ret (aU [])
def oV (eG : aj) (dN : aj) : Option Bool := (bif decide (eG.Kind < dN.Kind) then some true else (bif (eG.Kind == dN.Kind) then some (Op.bytesLess (eG.Key.toList) (dN.Key.toList)) else some false).bind fun x3 => some x3).bind fun x1 => some x1
theorem ES (eG dN r) (h : oV eG dN = some r) : Runs Tryz.prog 94 [.d (ak eG), .d (ak dN)] [] (.d (eB r)) [] := by
 refine Runs.aT Tryz.func94 rfl ?_; unfold oV at h; refine SP.rg <| .a 3 <| .au <| SP.rg <| .a 5 <| ?_; obtain ⟨x1, hx1, h⟩ := aC h; refine .merge 14 [10, 11, 12, 13, 14, 15, 16, 17, 18, 19, 20, 21, 22] 23 (.d (eB x1)) ?_ ?_
 · rcases fF hx1 with ⟨hb2, h⟩ | ⟨hb2, h⟩
   · refine .c (congrArg some hb2) <| .a 13 <| .au ?_; obtain rfl := aB h; kernel_rfl
   refine .c (congrArg some hb2) <| .a 5 <| ?_; obtain ⟨x3, hx3, h⟩ := aC h; refine .merge 7 [16, 17, 18, 19, 20, 21] 22 (.d (eB x3)) ?_ ?_
   · rcases fF hx3 with ⟨hb4, h⟩ | ⟨hb4, h⟩
     · refine .c (congrArg some hb4) <| .a 6 <| .au ?_; obtain rfl := aB h; kernel_rfl
     refine .c (congrArg some hb4) <| .a 6 <| .au ?_; obtain rfl := aB h; kernel_rfl
   refine .a 1 <| .au ?_; obtain rfl := aB h; kernel_rfl
 refine .a 1 <| .au ?_; rw [← aB h]; exact .ret (aU [])
def qP (aS : aj) (c0 : aj) : Option Bool := (oV aS c0).bind fun x1 => some x1
theorem Sz (aS c0 r) (h : qP aS c0 = some r) : Runs Tryz.prog 93 [.d (ak aS), .d (.ref (ak c0).cells 0)] [] (.d (eB r)) [] := by
 refine Runs.aT Tryz.func93 rfl ?_; unfold qP at h; refine SP.rg <| .a 2 <| .au ?_; obtain ⟨x1, hx1, h⟩ := aC h; refine SP.rg <| .a 2 <| .call (ES aS c0 x1 hx1) ajl <| .a 1 <| .au ?_; rw [← aB h]; exact .ret (aU [])
def qQ (aS : aj) (c0 : aj) : Option Bool := (oV c0 aS).bind fun x1 => some (!x1)
theorem SA (aS c0 r) (h : qQ aS c0 = some r) : Runs Tryz.prog 95 [.d (ak aS), .d (.ref (ak c0).cells 0)] [] (.d (eB r)) [] := by
 refine Runs.aT Tryz.func95 rfl ?_; unfold qQ at h; refine SP.rg <| .a 2 <| .au ?_; obtain ⟨x1, hx1, h⟩ := aC h; refine SP.rg <| .a 2 <| .call (ES c0 aS x1 hx1) ajl <| .a 2 <| .au ?_; rw [← aB h]; exact .ret (aU [])
def uT (aN : (List aj)) (dY : Int) (eU : ByteArray) : Option (Int × Bool) := (pF aN (fun a0 => qP a0 (⟨dY, eU, 0⟩ : aj)) (fun a0 => qQ a0 (⟨dY, eU, 0⟩ : aj))).bind fun x1 => some (x1.1, x1.2)
theorem KP (aN dY eU r) (h : uT aN dY eU = some r) : Runs Tryz.prog 67 [.d ((eL ak) aN), .d (eI dY), .d (eS eU)] [] (.dW [.d (eI r.1), .d (eB r.2)]) [] := by
 refine Runs.aT Tryz.func67 rfl ?_; unfold uT at h; refine SP.rg <| .a 2 <| .au <| SP.rg <| .a 5 <| .au ?_; obtain ⟨x1, hx1, h⟩ := aC h; refine SP.rg <| .a 1 <| .conv _ (oC (cs := dc (ak (⟨dY, eU, 0⟩ : aj))) 0 (by kernel_rfl) (by kernel_rfl)) <| .p (x := .d (.fn (.func 93) [] [(.ref (ak (⟨dY, eU, 0⟩ : aj)).cells 0)])) (qj [(.ref (ak (⟨dY, eU, 0⟩ : aj)).cells 0)] rfl rfl) <| .p (x := .d (.fn (.func 95) [] [(.ref (ak (⟨dY, eU, 0⟩ : aj)).cells 0)])) (qj [(.ref (ak (⟨dY, eU, 0⟩ : aj)).cells 0)] rfl rfl) <| .call (Ja aN (fun a0 => qP a0 (⟨dY, eU, 0⟩ : aj)) (.fn (.func 93) [] [(.ref (ak (⟨dY, eU, 0⟩ : aj)).cells 0)]) ⟨93, [(.ref (ak (⟨dY, eU, 0⟩ : aj)).cells 0)], rfl, amx, fun a0 b hb => Sz a0 (⟨dY, eU, 0⟩ : aj) b hb⟩ (fun a0 => qQ a0 (⟨dY, eU, 0⟩ : aj)) (.fn (.func 95) [] [(.ref (ak (⟨dY, eU, 0⟩ : aj)).cells 0)]) ⟨95, [(.ref (ak (⟨dY, eU, 0⟩ : aj)).cells 0)], rfl, amy, fun a0 b hb => SA a0 (⟨dY, eU, 0⟩ : aj) b hb⟩ x1 hx1) amw <| .a 4 <| .au ?_; rw [← aB h]; exact .ret (aU [])
def tZ (aN : (List aj)) (dY : Int) (eU : ByteArray) : Option (Int × Bool) := (uT aN dY eU).bind fun x1 => (bif x1.2 then (bf aN x1.1).bind fun x3 => some (x3.Id, true) else some (0, false))
theorem ET (aN dY eU r) (h : tZ aN dY eU = some r) : Runs Tryz.prog 43 [.d ((eL ak) aN), .d (eI dY), .d (eS eU)] [] (.dW [.d (eI r.1), .d (eB r.2)]) [] := by
 refine Runs.aT Tryz.func43 rfl ?_; unfold tZ at h; refine SP.rg <| .a 2 <| .au <| SP.aJ ?_; obtain ⟨x1, hx1, h⟩ := aC h; refine SP.rg <| .a 3 <| .call (KP aN dY eU x1 hx1) ajm <| .a 5 <| .au <| SP.rg <| .a 1 <| .au <| SP.cnd h (fun h => ?_) fun h => ?_
 · obtain ⟨x3, hx3, h⟩ := aC h; refine SP.rg <| .a 2 <| .p (aP (k := .i64) ak hx3 dO iH (by kernel_rfl) rfl) <| .a 4 <| .au ?_; rw [← aB h]; exact .ret (aU [])
 refine SP.skip <| SP.rg <| .a 2 <| .au ?_; rw [← aB h]; exact .ret (aU [])
def XE (ay : (List (List aj))) (dS : aj) (v1 : Int) : St := ⟨cu 33 [(3, .ptr 0 0), (9, .d ((eL (eL ak)) ay)), (10, .d (eI (ay.length : Int))), (11, .d (eI v1))], [.box (dc (ak dS))], 0⟩
def Aa (ay : (List (List aj))) (dS : aj) (k2 : (Int → Option Bool)) : Int → Option Bool := fun v1 => (bif decide (v1 < (ay.length : Int)) then (bf ay v1).bind fun x4 => (tZ x4 dS.Kind dS.Key).bind fun x5 => (bif (!x5.2) then some true else some (x5.1 != dS.Id)).bind fun x6 => (bif x6 then some false else k2 (IntKind.i64.wrap (v1 + 1))) else some true)
def MP (ay : (List (List aj))) (dS : aj) : Int → Option Bool := bQ (Aa ay dS) fuel
def AQ (ay : (List (List aj))) (dS : aj) : Option Bool := MP ay dS 0
theorem XF (ay dS r) (h : AQ ay dS = some r) : Runs Tryz.prog 57 [.d ((eL (eL ak)) ay), .d (ak dS)] [] (.d (eB r)) [] := by
 refine Runs.aT Tryz.func57 rfl ?_; unfold AQ at h; refine SP.rg <| .a 2 <| .au <| SP.aJ <| SP.rg <| .a 1 <| .p (aW (eL ak) ay jw rfl) <| .a 1 <| .au <| SP.block ?_; refine SP.bQ (XE ay dS) _ _ _ (aF (mk 33 3592) [(0, true)]) h ?_; clear h; intro J9 k2 hk2 v1 h; unfold Aa at h; refine SP.rg <| .a 1 <| .au <| SP.aJ <| SP.cnd h (fun h => ?_) fun h => ?_
 · refine SP.skip <| SP.aJ <| SP.block ?_; obtain ⟨x4, hx4, h⟩ := aC h; refine SP.rg <| .p (aP (k := .i64) (eL ak) hx4 jw zT (by kernel_rfl) rfl) <| .a 2 <| .au ?_; obtain ⟨x5, hx5, h⟩ := aC h; refine SP.rg <| .a 5 <| .call (ET x4 dS.Kind dS.Key x5 hx5) afz <| .a 5 <| .au <| SP.rg <| .a 2 <| ?_; obtain ⟨x6, hx6, h⟩ := aC h; refine .merge 6 [26, 27, 28, 29, 30] 31 (.d (eB x6)) ?_ ?_
   · rcases fF hx6 with ⟨hb7, h⟩ | ⟨hb7, h⟩
     · refine .c (congrArg some hb7) <| .a 5 <| .au ?_; obtain rfl := aB h; kernel_rfl
     refine .c (congrArg some hb7) <| .a 5 <| .au ?_; obtain rfl := aB h; kernel_rfl
   refine .au <| SP.cnd h (fun h => ?_) fun h => ?_
   · refine SP.rg <| .a 1 <| .au ?_; rw [← aB h]; exact .ret (aU [])
   refine SP.skip <| SP.bU <| .a 2 <| .nil ?_; exact hk2 _ _ (aF (mk 33 3592) [(0, true)]) h
 refine SP.exit <| SP.rg <| .a 1 <| .au ?_; rw [← aB h]; exact .ret (aU [])
def uM (aN : (List Int)) : Option (List Int) := (fP 8 [] aN).bind fun x1 => some x1
theorem NP (aN r) (h : uM aN = some r) : Runs Tryz.prog 81 [.d ((eL eI) aN)] [] (.aO 0) [.arr 3 1 (List.map eI r)] := by
 refine Runs.aT Tryz.func81 rfl ?_; unfold uM at h; refine SP.rg <| .e [.arr 3 1 (List.map eI [])] (aQ 3 1 rfl) <| .au <| SP.aJ <| SP.Pz (x := .tmp 3) (t' := 32) (d := 4) (es := List.map eI aN) 1 rfl (.a 1 <| .nil _) (by kernel_rfl) (by kernel_rfl) (by kernel_rfl) bT (by kernel_rfl) ?_; intro b hn2; cases b
 · clear hn2; refine SP.JD (by kernel_rfl) <| SP.skip ?_; obtain ⟨x1, hx1, h⟩ := aC h; refine SP.rg <| .e [.arr 3 1 (List.map eI []), .arr 3 1 (List.map eI [])] (jm eH zero3 (by kernel_rfl) (by kernel_rfl) (Nat.le_of_ble_eq_true (by kernel_rfl)) [] [] (by kernel_rfl) (by kernel_rfl) (by kernel_rfl) (by kernel_rfl) rfl) <| .a 1 <| .e [.arr 3 1 (List.map eI []), .dead, .arr 3 1 (List.map eI x1)] (dV (k := 1) eI hx1 eH (by kernel_rfl) (fun _ => rfl) (by decide) rfl) <| .a 1 <| .au ?_; rw [← aB h]; exact .ret (aU [(2, true)])
 replace hn2 := Xn hn2; replace h : some [] = some r := by rw [hn2] at h; exact h
 refine SP.Px (by kernel_rfl) <| SP.rg <| .e [.arr 3 1 (List.map eI []), .arr 3 1 (List.map eI [])] (aQ 3 1 rfl) <| .au ?_; rw [← aB h]; exact .ret (aU [(1, true)])
def qo (ay : (List Int)) : Option (List Int) := (uM ay).bind fun x1 => (fE x1).bind fun x2 => (iD x2).bind fun x3 => some x3
theorem uU (ay r) (h : qo ay = some r) : Runs Tryz.prog 58 [.d ((eL eI) ay)] [] (.aO 0) [.arr 3 1 (List.map eI r)] := by
 refine Runs.aT Tryz.func58 rfl ?_; unfold qo at h; refine SP.rg <| .e [.arr 3 1 (List.map eI [])] (aQ 3 1 rfl) <| .au ?_; obtain ⟨x1, hx1, h⟩ := aC h; refine SP.rg <| .a 1 <| .e (x := .aO 1) [.arr 3 1 (List.map eI []), .arr 3 1 (List.map eI x1)] (Az (dh := [.d ((eL eI) ay)]) (dK := [.d ((eL eI) ay)]) (NP ay x1 hx1) amA (by kernel_rfl) ⟨.inl rfl, trivial⟩ rfl (by kernel_rfl) rfl) <| .a 1 <| .au ?_; obtain ⟨x2, hx2, h⟩ := aC h; refine SP.rg <| .a 1 <| .e (x := .dW []) [.arr 3 1 (List.map eI []), .arr 3 1 (List.map eI x2)] (gQ [.ent 1] (dh := [.aO 1]) (dK := [.aO 0]) (res' := .dW []) (qO x1 x2 hx2) abj (by kernel_rfl) (kN (by kernel_rfl) <| trivial) ⟨⟨0, rfl, rfl⟩, trivial⟩ rfl (by kernel_rfl) rfl) <| .au ?_; obtain ⟨x3, hx3, h⟩ := aC h; refine SP.rg <| .a 1 <| .e (x := .aO 2) [.arr 3 1 (List.map eI []), .dead, .arr 3 1 (List.map eI x3)] (gQ [.ent 1] (dh := [.aO 1]) (dK := [.aO 0]) (res' := .aO 2) (tN x2 x3 hx3) afA (by kernel_rfl) (kN (by kernel_rfl) <| trivial) ⟨⟨0, rfl, rfl⟩, trivial⟩ rfl (by kernel_rfl) rfl) <| .a 1 <| .au ?_; rw [← aB h]; exact .ret (aU [(2, true)])
noncomputable def vG : Array Tmp × Code × Code := ahV Tryz.f39.body [1, 1, 1, 0, 1, 0, 0, 1, 1, 0, 0, 1, 1, 0]
def Un (ay : (List (List aj))) (v1 : (List aj)) (v2 : (List Int)) (v3 : Int) (v4 : (List (List aj))) (v5 : (List aj)) (v6 : (List Int)) : St := ⟨cu 38 [(1, .ptr 0 0), (4, .ptr 1 0), (5, .ptr 3 0), (9, .d ((eL (eL ak)) ay)), (10, .d (eI (ay.length : Int))), (11, .d (eI v3))], [.box (dc ((eL (eL ak)) v4)), .box (setAt (dc ((eL ak) v5)) 0 [.aO 2]), .arr 45 3 (List.map ak v1), .box (setAt (dc ((eL eI) v6)) 0 [.aO 4]), .arr 3 1 (List.map eI v2)], 0⟩
def iY (ay : (List (List aj))) (v3 : Int) (x10 : (List aj)) (v4 : (List (List aj))) (v5 : (List aj)) (v1 : (List aj)) (v6 : (List Int)) (v2 : (List Int)) : St := ⟨cu 38 [(1, .ptr 0 0), (4, .ptr 1 0), (5, .ptr 3 0), (6, .ptr 5 0), (9, .d ((eL (eL ak)) ay)), (10, .d (eI (ay.length : Int))), (11, .d (eI v3)), (17, .d (.fn (.func 80) [] [(.ref ((eL ak) x10).cells 0)]))], [.box (dc ((eL (eL ak)) v4)), .box (setAt (dc ((eL ak) v5)) 0 [.aO 2]), .arr 45 3 (List.map ak v1), .box (setAt (dc ((eL eI) v6)) 0 [.aO 4]), .arr 3 1 (List.map eI v2), .box (dc (eI v3))], 0⟩
noncomputable def Uo (x10 : (List aj)) (YZ : Array Value) (ay : (List (List aj))) (v3 : Int) (v4 : (List (List aj))) (v5 : (List aj)) (v1 : (List aj)) (v6 : (List Int)) (v2 : (List Int)) (v12 : (List aj)) (v13 : (List Int)) (v14 : Int) (v15 : (List (List aj))) (v16 : (List aj)) (v17 : (List Int)) (v18 : Int) : St := ⟨cu 16 [(0, .mp 6), (5, .d ((eL ak) x10)), (6, .d (eI (x10.length : Int))), (7, .d (eI v14))], [.box (dc ((eL (eL ak)) v15)), .box (setAt (dc ((eL ak) v16)) 0 [.aO 7]), .dead, .box (setAt (dc ((eL eI) v17)) 0 [.aO 8]), .dead, .box (dc (eI v18)), .loop YZ (iY ay v3 x10 v4 v5 v1 v6 v2).slots vG .ready none, .arr 45 3 (List.map ak v12), .arr 3 1 (List.map eI v13)], 7⟩
def wo (x10 : (List aj)) (k7 : ((List aj) → (List Int) → Int → (List (List aj)) → (List aj) → (List Int) → Option ((List aj) × (List Int)))) (v3 : Int) (k19 : ((List aj) → (List Int) → Int → (List (List aj)) → (List aj) → (List Int) → Int → Option ((List aj) × (List Int)))) : (List aj) → (List Int) → Int → (List (List aj)) → (List aj) → (List Int) → Int → Option ((List aj) × (List Int)) := fun v12 v13 v14 v15 v16 v17 v18 => (bif decide (v14 < (x10.length : Int)) then (bf x10 v14).bind fun x21 => (AQ v15 x21).bind fun yg => (bif (!yg) then (fP 8 v13 [x21.Id]).bind fun x24 => k19 v12 x24 (IntKind.i64.wrap (v14 + 1)) v15 v16 v17 v18 else (bif (v18 == 0) then (fP 32 v12 [x21]).bind fun CG => k19 CG v13 (IntKind.i64.wrap (v14 + 1)) v15 v16 v17 v18 else k19 v12 v13 (IntKind.i64.wrap (v14 + 1)) v15 v16 v17 v18)) else k7 v12 v13 (IntKind.i64.wrap (v3 + 1)) v15 v16 v17)
def Jo (x10 : (List aj)) (k7 : ((List aj) → (List Int) → Int → (List (List aj)) → (List aj) → (List Int) → Option ((List aj) × (List Int)))) (v3 : Int) : (List aj) → (List Int) → Int → (List (List aj)) → (List aj) → (List Int) → Int → Option ((List aj) × (List Int)) := MB (wo x10 k7 v3) fuel
def wu (ay : (List (List aj))) (k7 : ((List aj) → (List Int) → Int → (List (List aj)) → (List aj) → (List Int) → Option ((List aj) × (List Int)))) : (List aj) → (List Int) → Int → (List (List aj)) → (List aj) → (List Int) → Option ((List aj) × (List Int)) := fun v1 v2 v3 v4 v5 v6 => (bif decide (v3 < (ay.length : Int)) then (bf ay v3).bind fun x9 => (DV x9).bind fun x10 => Jo x10 k7 v3 v1 v2 0 v4 v5 v6 v3 else (qo v2).bind fun x28 => some (v1, x28))
def Jp (ay : (List (List aj))) : (List aj) → (List Int) → Int → (List (List aj)) → (List aj) → (List Int) → Option ((List aj) × (List Int)) := yC (wu ay) fuel
def sW (ay : (List (List aj))) : Option ((List aj) × (List Int)) := Jp ay [] [] 0 ay [] []
theorem Jq (ay r) (h : sW ay = some r) : Runs Tryz.prog 39 [.d ((eL (eL ak)) ay)] [] (.dW [.aO 0, .aO 1]) [.arr 45 3 (List.map ak r.1), .arr 3 1 (List.map eI r.2)] := by
 refine Runs.aT Tryz.func39 rfl ?_; unfold sW at h; refine SP.rg <| .a 1 <| .e [.box (dc ((eL (eL ak)) ay)), .arr 45 3 (List.map ak [])] (aQ 45 3 rfl) <| .e [.box (dc ((eL (eL ak)) ay)), .arr 45 3 (List.map ak []), .arr 3 1 (List.map eI [])] (aQ 3 1 rfl) <| .au <| SP.rg <| .e [.box (dc ((eL (eL ak)) ay)), .arr 45 3 (List.map ak []), .arr 3 1 (List.map eI []), .arr 45 3 (List.map ak []), .box (setAt (dc ((eL ak) [])) 0 [.aO 3])] (RP 45 3 EJ rfl) <| .au <| SP.rg <| .e [.box (dc ((eL (eL ak)) ay)), .arr 45 3 (List.map ak []), .arr 3 1 (List.map eI []), .arr 45 3 (List.map ak []), .box (setAt (dc ((eL ak) [])) 0 [.aO 3]), .arr 3 1 (List.map eI []), .box (setAt (dc ((eL eI) [])) 0 [.aO 5])] (RP 3 1 zero32 rfl) <| .au <| SP.aJ <| SP.rg <| .a 1 <| .p (aW (eL ak) ay jw rfl) <| .a 1 <| .au <| SP.block ?_; refine SP.yC (Un ay) _ _ _ _ _ _ _ _ (aF (mk 38 3634) [(0, true), (4, true), (3, true), (6, true), (5, true)]) h ?_; clear h; intro J29 k7 hk7 v1 v2 v3 v4 v5 v6 h; unfold wu at h; refine SP.rg <| .a 1 <| .au <| SP.aJ <| SP.cnd h (fun h => ?_) fun h => ?_
 · refine SP.skip <| SP.aJ <| SP.block ?_; obtain ⟨x9, iK, h⟩ := aC h; refine SP.rg <| .a 1 <| .p (aP (k := .i64) (eL ak) iK jw zT (by kernel_rfl) rfl) <| .a 4 <| .au ?_; obtain ⟨x10, lD, h⟩ := aC h; refine SP.rg <| .a 1 <| .e (x := .d (.fn (.func 80) [] [(.ref ((eL ak) x10).cells 0)])) [.box (dc ((eL (eL ak)) v4)), .box (setAt (dc ((eL ak) v5)) 0 [.aO 2]), .arr 45 3 (List.map ak v1), .box (setAt (dc ((eL eI) v6)) 0 [.aO 4]), .arr 3 1 (List.map eI v2), .box (dc (eI v3))] (gQ [] (dh := [.d ((eL ak) x9)]) (dK := [.d ((eL ak) x9)]) (res' := .d (.fn (.func 80) [] [(.ref ((eL ak) x10).cells 0)])) (VU x9 x10 lD) amB (by kernel_rfl) trivial ⟨.inl rfl, trivial⟩ rfl (by kernel_rfl) rfl) <| .au <| SP.block <| SP.sub (S := iY ay v3 x10 v4 v5 v1 v6 v2) (aF (mk 38 134770) [(0, true), (1, true), (2, true), (3, true), (4, true), (5, true)]) <| SP.afq [(.ref ((eL ak) x10).cells 0)] (by kernel_rfl) Tryz.func80 amC rfl rfl fun YZ => SP.rg <| .a 1 <| .p (aW ak x10 dO rfl) <| .a 1 <| .au <| SP.block ?_; refine SP.MB (Uo x10 YZ ay v3 v4 v5 v1 v6 v2) _ _ _ _ _ _ _ _ _ (aF (mk 16 225) [(0, true), (1, true), (2, false), (3, true), (4, false), (5, true), (6, true), (2, true), (4, true)]) h ?_; clear h; intro J27 k19 aiw v12 v13 v14 v15 v16 v17 v18 h; unfold wo at h; refine SP.rg <| .a 1 <| .au <| SP.aJ <| SP.cnd h (fun h => ?_) fun h => ?_
   · refine SP.skip <| SP.aJ <| SP.block ?_; obtain ⟨x21, D9, h⟩ := aC h; refine SP.rg <| .p (aP (k := .i64) ak D9 dO iH (by kernel_rfl) rfl) <| .a 3 <| .au <| SP.rg <| .a 2 <| ?_; refine LP.yield (tm := YZ) (slots := (iY ay v3 x10 v4 v5 v1 v6 v2).slots) (rc := vG) 6 [.d (ak x21)] rfl (by kernel_rfl) (by kernel_rfl) (by kernel_rfl) (by kernel_rfl) (by kernel_rfl) (by kernel_rfl) <| SP.bU <| .a 2 <| .nil <| ⟨rfl, (iY ay v3 x10 v4 v5 v1 v6 v2).slots, by kernel_rfl, ?_⟩
     refine SP.block ?_; obtain ⟨yg, KQ, h⟩ := aC h; refine SP.rg <| .a 2 <| .call (XF v15 x21 yg KQ) amD <| .a 1 <| .au <| SP.cnd h (fun h => ?_) fun h => ?_
     · obtain ⟨x24, hx24, h⟩ := aC h; refine SP.bU <| .a 3 <| .p (bZ eH zero3 (by kernel_rfl) (by kernel_rfl) (Nat.le_of_ble_eq_true (by kernel_rfl)) [.d (eI x21.Id)] [eI x21.Id] (by kernel_rfl) (by kernel_rfl) (by kernel_rfl) (by kernel_rfl) rfl) <| .e [.box (dc ((eL (eL ak)) v15)), .box (setAt (dc ((eL ak) v16)) 0 [.aO 7]), .dead, .box (setAt (dc ((eL eI) v17)) 0 [.aO 8]), .dead, .box (dc (eI v18)), .loop YZ (iY ay v3 x10 v4 v5 v1 v6 v2).slots vG .busy none, .arr 45 3 (List.map ak v12), .dead, .box (dc (ak x21)), .box (dc (ak x21)), .arr 3 1 (List.map eI x24)] (dV (k := 8) eI hx24 eH (by kernel_rfl) (fun _ => rfl) (by decide) rfl) <| .a 1 <| .nil <| ⟨(iY ay v3 x10 v4 v5 v1 v6 v2).slots, (.ready, none), by kernel_rfl, rfl, ?_⟩
       refine .a 1 <| .au <| SP.JD (by kernel_rfl) <| SP.skip <| SP.bU <| .a 2 <| .nil ?_; exact aiw _ _ _ _ _ _ _ _ (aF (mk 16 225) [(0, true), (1, true), (2, false), (3, true), (4, false), (5, true), (6, true), (7, true), (11, true)]) h
     refine SP.rg <| .a 2 <| .au <| SP.cnd h (fun h => ?_) fun h => ?_
     · obtain ⟨CG, P9, h⟩ := aC h; refine SP.bU <| .a 2 <| .p (bZ CP Dc (by kernel_rfl) (by kernel_rfl) (Nat.le_of_ble_eq_true (by kernel_rfl)) [.d (ak x21)] [ak x21] (by kernel_rfl) (by kernel_rfl) (by kernel_rfl) (by kernel_rfl) rfl) <| .e [.box (dc ((eL (eL ak)) v15)), .box (setAt (dc ((eL ak) v16)) 0 [.aO 7]), .dead, .box (setAt (dc ((eL eI) v17)) 0 [.aO 8]), .dead, .box (dc (eI v18)), .loop YZ (iY ay v3 x10 v4 v5 v1 v6 v2).slots vG .busy none, .dead, .arr 3 1 (List.map eI v13), .box (dc (ak x21)), .box (dc (ak x21)), .arr 45 3 (List.map ak CG)] (dV (k := 7) ak P9 CP (by kernel_rfl) (fun _ => rfl) (by decide) rfl) <| .a 1 <| .nil <| ⟨(iY ay v3 x10 v4 v5 v1 v6 v2).slots, (.ready, none), by kernel_rfl, rfl, ?_⟩
       refine .a 1 <| .au <| SP.JD (by kernel_rfl) <| SP.skip <| SP.bU <| .a 2 <| .nil ?_; exact aiw _ _ _ _ _ _ _ _ (aF (mk 16 225) [(0, true), (1, true), (2, false), (3, true), (4, false), (5, true), (6, true), (11, true), (8, true)]) h
     refine SP.skip <| ⟨(iY ay v3 x10 v4 v5 v1 v6 v2).slots, (.ready, none), by kernel_rfl, rfl, ?_⟩
     refine .a 1 <| .au <| SP.JD (by kernel_rfl) <| SP.skip <| SP.bU <| .a 2 <| .nil ?_; exact aiw _ _ _ _ _ _ _ _ (aF (mk 16 225) [(0, true), (1, true), (2, false), (3, true), (4, false), (5, true), (6, true), (7, true), (8, true)]) h
   refine SP.exit <| ⟨.inl rfl, (iY ay v3 x10 v4 v5 v1 v6 v2).slots, (.ready, none), .normal, by kernel_rfl, rfl, ?_⟩
   refine SP.bU <| .a 2 <| .nil ?_; exact hk7 _ _ _ _ _ _ _ (aF (mk 38 3634) [(0, true), (1, true), (7, true), (3, true), (8, true)]) h
 refine SP.exit ?_; obtain ⟨x28, hx28, h⟩ := aC h; refine SP.amj [0] (.a 2 <| .e [.box (dc ((eL (eL ak)) v4)), .box (setAt (dc ((eL ak) v5)) 0 [.aO 2]), .arr 45 3 (List.map ak v1), .box (setAt (dc ((eL eI) v6)) 0 [.aO 4]), .arr 3 1 (List.map eI v2), .arr 3 1 (List.map eI x28)] (tV (dh := [.aO 4]) (dK := [.d (.sl (List.map eI v2))]) (uU v2 x28 hx28) (fun x hx => by obtain ⟨a, _, rfl⟩ := List.mem_map.1 hx; rfl) Ue ⟨⟨3, 1, List.map eI v2, by kernel_rfl, rfl⟩, trivial⟩ rfl rfl) <| .a 2 <| .nil _) ?_; rw [← aB h]; exact .ret (aU [(2, true), (5, true)])
def Y0 (ay : (List ah)) (v1 : Int) (v2 : (List (Int × Int))) : St := ⟨cu 23 [(0, .d ((eL aA) ay)), (3, .mp 0), (4, .d (eI v1))], [.map (List.map (eM (Value.int .i64) eI) v2)], 0⟩
def Gy (ay : (List ah)) (k3 : (Int → (List (Int × Int)) → Option (List (Int × Int)))) : Int → (List (Int × Int)) → Option (List (Int × Int)) := fun v1 v2 => (bif decide (v1 ≥ 0) then (bf ay v1).bind fun x5 => k3 (IntKind.i64.wrap (v1 - 1)) (kP v2 x5.Id v1) else some v2)
def OB (ay : (List ah)) : Int → (List (Int × Int)) → Option (List (Int × Int)) := bn (Gy ay) fuel
def zI (ay : (List ah)) : Option (List (Int × Int)) := OB ay (IntKind.i64.wrap ((ay.length : Int) - 1)) []
theorem OC (ay r) (h : zI ay = some r) : Runs Tryz.prog 86 [.d ((eL aA) ay)] [] (.mp 0) [.map (List.map (eM (Value.int .i64) eI) r)] := by
 refine Runs.aT Tryz.func86 rfl ?_; unfold zI at h; refine SP.rg <| .a 1 <| .au <| SP.rg <| .a 1 <| .p (aW aA ay jH rfl) <| .e (x := .mp 0) [.map (List.map (eM (Value.int .i64) eI) [])] (adU (kd := .i64) (n := (ay.length : Int)) Iy rfl) <| .a 1 <| .au <| SP.aJ <| SP.rg <| .a 1 <| .p (aW aA ay jH rfl) <| .a 2 <| .au <| SP.block ?_; refine SP.bn (Y0 ay) _ _ _ _ (aF (mk 23 25) [(0, true)]) h ?_; clear h; intro J6 k3 hk3 v1 v2 h; unfold Gy at h; refine SP.aJ <| SP.rg <| .a 2 <| .au <| SP.cnd h (fun h => ?_) fun h => ?_
 · refine SP.skip <| SP.aJ <| SP.block ?_; obtain ⟨x5, hx5, h⟩ := aC h; refine SP.bU <| .a 3 <| .p (aP (k := .i64) aA hx5 jH oI (by kernel_rfl) rfl) <| .a 3 <| .e [.map (List.map (eM (Value.int .i64) eI) (kP v2 x5.Id v1))] (Ua (k := 0) (key := x5.Id) (val := v1) (m := v2) eI Iy PY (by kernel_rfl) rfl) <| .nil <| SP.bU <| .a 3 <| .nil ?_; exact hk3 _ _ _ (aF (mk 23 25) [(0, true)]) h
 refine SP.exit <| SP.rg <| .a 2 <| .au ?_; rw [← aB h]; exact .ret (aU [(0, true)])
def mV (aS : ah) : Option (List Int) := some aS.fH
theorem VW (aS r) (h : mV aS = some r) : Runs Tryz.prog 88 [.d (aA aS)] [] (.d ((eL eI) r)) [] := by
 refine Runs.aT Tryz.func88 rfl ?_; unfold mV at h; refine SP.rg <| .a 2 <| .au <| SP.rg <| .a 3 <| .au ?_; rw [← aB h]; exact .ret (aU [])
def Y1 (ay : (List ah)) (pW : D) (v2 : (List Int)) (v3 : (List Int)) (v4 : (List (Int × Int))) (v5 : (List (Int × Bool))) (v6 : (List (Int × Bool))) : St := ⟨cu 70 [(0, .d ((eL aA) ay)), (2, .d pW), (7, .mp 0), (8, .mp 1), (9, .mp 2), (10, .aO 3), (11, .d ((eL eI) v3))], [.map (List.map (eM (Value.int .i64) eI) v4), .map (List.map (eM (Value.int .i64) eB) v5), .map (List.map (eM (Value.int .i64) eB) v6), .arr 3 1 (List.map eI v2)], 0⟩
def Y2 (ay : (List ah)) (pW : D) (v3 : (List Int)) (v9 : (List Int)) (v10 : (List Int)) (v11 : Int) (v12 : (List (Int × Int))) (v13 : (List (Int × Bool))) (v14 : (List (Int × Bool))) : St := ⟨cu 70 [(0, .d ((eL aA) ay)), (2, .d pW), (7, .mp 0), (8, .mp 1), (9, .mp 2), (10, .aO 3), (12, .aO 4), (26, .d ((eL eI) v3)), (27, .d (eI (v3.length : Int))), (28, .d (eI v11))], [.map (List.map (eM (Value.int .i64) eI) v12), .map (List.map (eM (Value.int .i64) eB) v13), .map (List.map (eM (Value.int .i64) eB) v14), .arr 3 1 (List.map eI v9), .arr 3 1 (List.map eI v10)], 0⟩
def Y3 (ay : (List ah)) (pW : D) (v3 : (List Int)) (v11 : Int) (v17 : (List Int)) (v18 : (List Int)) (v19 : (List (Int × Int))) (v20 : (List (Int × Bool))) (v21 : (List (Int × Bool))) : St := ⟨cu 70 [(0, .d ((eL aA) ay)), (2, .d pW), (7, .mp 0), (8, .mp 1), (9, .mp 2), (10, .aO 3), (12, .aO 4), (26, .d ((eL eI) v3)), (27, .d (eI (v3.length : Int))), (28, .d (eI v11))], [.map (List.map (eM (Value.int .i64) eI) v19), .map (List.map (eM (Value.int .i64) eB) v20), .map (List.map (eM (Value.int .i64) eB) v21), .arr 3 1 (List.map eI v17), .arr 3 1 (List.map eI v18)], 0⟩
def wV (k15 : ((List Int) → (List Int) → Int → (List (Int × Int)) → (List (Int × Bool)) → (List (Int × Bool)) → Option (List Int))) (v11 : Int) (v17 : (List Int)) (v18 : (List Int)) (v19 : (List (Int × Int))) (v20 : (List (Int × Bool))) (v21 : (List (Int × Bool))) : Option (List Int) := k15 v17 v18 (IntKind.i64.wrap (v11 + 1)) v19 v20 v21
def BM (v3 : (List Int)) (ay : (List ah)) (sZ : (ah → Option (List Int))) (k7 : ((List Int) → (List Int) → (List (Int × Int)) → (List (Int × Bool)) → (List (Int × Bool)) → Option (List Int))) (k15 : ((List Int) → (List Int) → Int → (List (Int × Int)) → (List (Int × Bool)) → (List (Int × Bool)) → Option (List Int))) : (List Int) → (List Int) → Int → (List (Int × Int)) → (List (Int × Bool)) → (List (Int × Bool)) → Option (List Int) := fun v9 v10 v11 v12 v13 v14 => (bif decide (v11 < (v3.length : Int)) then (bf v3 v11).bind fun x23 => (bif (!((fB v12 x23).isSome)) then some true else some ((fB v13 x23).getD false)).bind fun x24 => (bif x24 then some true else some ((fB v14 x23).getD false)).bind fun CG => (bif CG then wV k15 v11 v9 v10 v12 v13 v14 else (fP 8 v9 [x23]).bind fun x29 => (bf ay ((fB v12 x23).getD 0)).bind fun x30 => (sZ x30).bind fun x31 => (fP 8 v10 x31).bind fun x32 => wV k15 v11 x29 x32 v12 (kP v13 x23 true) (kP v14 x23 true)) else k7 v9 v10 v12 v13 v14)
def OD (v3 : (List Int)) (ay : (List ah)) (sZ : (ah → Option (List Int))) (k7 : ((List Int) → (List Int) → (List (Int × Int)) → (List (Int × Bool)) → (List (Int × Bool)) → Option (List Int))) : (List Int) → (List Int) → Int → (List (Int × Int)) → (List (Int × Bool)) → (List (Int × Bool)) → Option (List Int) := yC (BM v3 ay sZ k7) fuel
def Gz (ay : (List ah)) (sZ : (ah → Option (List Int))) (k7 : ((List Int) → (List Int) → (List (Int × Int)) → (List (Int × Bool)) → (List (Int × Bool)) → Option (List Int))) : (List Int) → (List Int) → (List (Int × Int)) → (List (Int × Bool)) → (List (Int × Bool)) → Option (List Int) := fun v2 v3 v4 v5 v6 => (bif decide ((v3.length : Int) > 0) then OD v3 ay sZ k7 v2 [] 0 v4 v5 [] else (qo v2).bind fun x34 => some x34)
def OE (ay : (List ah)) (sZ : (ah → Option (List Int))) : (List Int) → (List Int) → (List (Int × Int)) → (List (Int × Bool)) → (List (Int × Bool)) → Option (List Int) := BI (Gz ay sZ) fuel
def zJ (ay : (List ah)) (Uh : (List Int)) (sZ : (ah → Option (List Int))) : Option (List Int) := (zI ay).bind fun x1 => OE ay sZ [] Uh x1 [] []
theorem Y4 (ay : (List ah)) (Uh : (List Int)) (sZ : (ah → Option (List Int))) (pW : D) (aix : Fn1 Tryz.prog aA (eL eI) pW sZ) (r : (List Int)) (h : zJ ay Uh sZ = some r) : Runs Tryz.prog 87 [.d ((eL aA) ay), .d ((eL eI) Uh), .d pW] [] (.aO 0) [.arr 3 1 (List.map eI r)] := by
 refine Runs.aT Tryz.func87 rfl ?_; unfold zJ at h; refine SP.rg <| .e [.arr 3 1 (List.map eI [])] (aQ 3 1 rfl) <| .au ?_; obtain ⟨x1, hx1, h⟩ := aC h; refine SP.rg <| .a 1 <| .e (x := .mp 1) [.arr 3 1 (List.map eI []), .map (List.map (eM (Value.int .i64) eI) x1)] (gQ [] (dh := [.d ((eL aA) ay)]) (dK := [.d ((eL aA) ay)]) (res' := .mp 1) (OC ay x1 hx1) ajn (by kernel_rfl) trivial ⟨.inl rfl, trivial⟩ rfl (by kernel_rfl) rfl) <| .a 1 <| .au <| SP.rg <| .e (x := .mp 2) [.arr 3 1 (List.map eI []), .map (List.map (eM (Value.int .i64) eI) x1), .map (List.map (eM (Value.int .i64) eB) [])] (PU rfl) <| .a 1 <| .au <| SP.rg <| .e (x := .mp 3) [.arr 3 1 (List.map eI []), .map (List.map (eM (Value.int .i64) eI) x1), .map (List.map (eM (Value.int .i64) eB) []), .map (List.map (eM (Value.int .i64) eB) [])] (PU rfl) <| .a 1 <| .au <| SP.rg <| .e [.arr 3 1 (List.map eI []), .map (List.map (eM (Value.int .i64) eI) x1), .map (List.map (eM (Value.int .i64) eB) []), .map (List.map (eM (Value.int .i64) eB) []), .arr 3 1 (List.map eI [])] (aQ 3 1 rfl) <| .au <| SP.rg <| .a 2 <| .au <| SP.aJ <| SP.block ?_; refine SP.BI (Y1 ay pW) _ _ _ _ _ _ _ (aF (mk 70 3973) [(1, true), (2, true), (3, true), (4, true)]) h ?_; clear h; intro J35 k7 hk7 v2 v3 v4 v5 v6 h; unfold Gz at h; refine SP.aJ <| SP.rg <| .a 1 <| .p (aW eI v3 bT rfl) <| .a 1 <| .au <| SP.cnd h (fun h => ?_) fun h => ?_
 · refine SP.skip <| SP.block <| SP.rg <| .a 1 <| .e [.map (List.map (eM (Value.int .i64) eI) v4), .map (List.map (eM (Value.int .i64) eB) v5), .map (List.map (eM (Value.int .i64) eB) []), .arr 3 1 (List.map eI v2)] (agU (k := 2) (es0 := List.map (eM (Value.int .i64) eB) v6) RX (by kernel_rfl) rfl) <| .au <| SP.rg <| .e [.map (List.map (eM (Value.int .i64) eI) v4), .map (List.map (eM (Value.int .i64) eB) v5), .map (List.map (eM (Value.int .i64) eB) []), .arr 3 1 (List.map eI v2), .arr 3 1 (List.map eI [])] (aQ 3 1 rfl) <| .au <| SP.aJ <| SP.rg <| .a 1 <| .p (aW eI v3 bT rfl) <| .a 1 <| .au <| SP.block ?_; refine SP.yC (Y2 ay pW v3) _ _ _ _ _ _ _ _ (aF (mk 70 469768069) [(0, true), (1, true), (2, true), (3, true), (4, true)]) h ?_; clear h; intro J33 k15 anz v9 v10 v11 v12 v13 v14 h; unfold BM at h; refine SP.rg <| .a 1 <| .au <| SP.aJ <| SP.cnd h (fun h => ?_) fun h => ?_
   · refine SP.skip ?_; refine SP.join (fun s => ∃ (v17 : (List Int)) (v18 : (List Int)) (v19 : (List (Int × Int))) (v20 : (List (Int × Bool))) (v21 : (List (Int × Bool))), Sub s (Y3 ay pW v3 v11 v17 v18 v19 v20 v21) ∧ wV k15 v11 v17 v18 v19 v20 v21 = some r) ?_ ?_
     · clear h; rintro s ⟨v17, v18, v19, v20, v21, hs, h⟩; refine SP.sub hs ?_; clear hs; unfold wV at h; refine SP.bU <| .a 2 <| .nil ?_; exact anz _ _ _ _ _ _ _ (aF (mk 70 469768069) [(0, true), (1, true), (2, true), (3, true), (4, true)]) h
     intro K22; refine SP.block ?_; obtain ⟨x23, acA, h⟩ := aC h; refine SP.rg <| .p (aP (k := .i64) eI acA bT iy (by kernel_rfl) rfl) <| .a 2 <| .au <| SP.rg <| .a 2 <| .p (x := .dW [.d (eI ((fB v12 x23).getD 0)), .d (eB ((fB v12 x23).isSome))]) (abV (k := 0) (key := x23) (m := v12) eI 0 Iy PY zero3 (by kernel_rfl) (by kernel_rfl) (by kernel_rfl) rfl) <| .a 5 <| .au <| SP.aJ <| SP.rg <| .a 2 <| ?_; obtain ⟨x24, hx24, h⟩ := aC h; refine .merge 5 [40, 41, 42, 43] 44 (.d (eB x24)) ?_ ?_
     · rcases fF hx24 with ⟨VX, h⟩ | ⟨VX, h⟩
       · refine .c (congrArg some VX) <| .a 4 <| .au ?_; obtain rfl := aB h; kernel_rfl
       refine .c (congrArg some VX) <| .a 2 <| .p (x := .d (eB ((fB v13 x23).getD false))) (YS (k := 1) (key := x23) (m := v13) eB false RX PY afB (by kernel_rfl) (by kernel_rfl) (by kernel_rfl) rfl) <| .a 1 <| .au ?_; obtain rfl := aB h; kernel_rfl
     refine .a 1 <| ?_; obtain ⟨CG, P9, h⟩ := aC h; refine .merge 4 [46, 47, 48] 49 (.d (eB CG)) ?_ ?_
     · replace h := P9; cases x24 with
       | true =>
         replace h := bI rfl h; refine .a 4 <| .au ?_; obtain rfl := aB h; kernel_rfl
       | false =>
         replace h := bG rfl h; refine .a 2 <| .p (x := .d (eB ((fB v14 x23).getD false))) (YS (k := 2) (key := x23) (m := v14) eB false RX PY afB (by kernel_rfl) (by kernel_rfl) (by kernel_rfl) rfl) <| .a 1 <| .au ?_; obtain rfl := aB h; kernel_rfl
     refine .au <| SP.cnd h (fun h => ?_) fun h => ?_
     · exact SP.exit <| K22 _ ⟨v9, v10, v12, v13, v14, aF (mk 70 469768069) [(0, true), (1, true), (2, true), (3, true), (4, true)], h⟩
     refine SP.skip <| SP.rg <| .a 2 <| .e [.map (List.map (eM (Value.int .i64) eI) v12), .map (List.map (eM (Value.int .i64) eB) v13), .map (List.map (eM (Value.int .i64) eB) (kP v14 x23 true)), .arr 3 1 (List.map eI v9), .arr 3 1 (List.map eI v10)] (Ua (k := 2) (key := x23) (val := true) (m := v14) eB RX PY (by kernel_rfl) rfl) <| .au <| SP.rg <| .a 2 <| .e [.map (List.map (eM (Value.int .i64) eI) v12), .map (List.map (eM (Value.int .i64) eB) (kP v13 x23 true)), .map (List.map (eM (Value.int .i64) eB) (kP v14 x23 true)), .arr 3 1 (List.map eI v9), .arr 3 1 (List.map eI v10)] (Ua (k := 1) (key := x23) (val := true) (m := v13) eB RX PY (by kernel_rfl) rfl) <| .au ?_; obtain ⟨x29, hx29, h⟩ := aC h; refine SP.rg <| .a 2 <| .p (bZ eH zero3 (by kernel_rfl) (by kernel_rfl) (Nat.le_of_ble_eq_true (by kernel_rfl)) [.d (eI x23)] [eI x23] (by kernel_rfl) (by kernel_rfl) (by kernel_rfl) (by kernel_rfl) rfl) <| .e [.map (List.map (eM (Value.int .i64) eI) v12), .map (List.map (eM (Value.int .i64) eB) (kP v13 x23 true)), .map (List.map (eM (Value.int .i64) eB) (kP v14 x23 true)), .dead, .arr 3 1 (List.map eI v10), .arr 3 1 (List.map eI x29)] (dV (k := 3) eI hx29 eH (by kernel_rfl) (fun _ => rfl) (by decide) rfl) <| .a 1 <| .au ?_; obtain ⟨x30, Y5, x31, hx31, x32, hx32, h⟩ := lS h; exact SP.bU <| .a 4 <| .p (aP (k := .i64) aA Y5 jH oI (by kernel_rfl) rfl) <| .a 1 <| .p (Oo (d := pW) (aix : Fn1 Tryz.prog aA (eL eI) pW sZ) hx31 rfl) <| .e [.map (List.map (eM (Value.int .i64) eI) v12), .map (List.map (eM (Value.int .i64) eB) (kP v13 x23 true)), .map (List.map (eM (Value.int .i64) eB) (kP v14 x23 true)), .dead, .dead, .arr 3 1 (List.map eI x29), .arr 3 1 (List.map eI x32)] (dV (k := 4) eI hx32 eH (by kernel_rfl) (fun _ => rfl) (by decide) rfl) <| .a 1 <| .nil <| K22 _ ⟨x29, x32, v12, (kP v13 x23 true), (kP v14 x23 true), aF (mk 70 469768069) [(0, true), (1, true), (2, true), (5, true), (6, true)], h⟩
   refine SP.exit <| SP.bU <| .a 2 <| .nil ?_; exact hk7 _ v9 v10 v12 v13 v14 (ahE _ ((kE (e := 3) (s := 1) 4 (xs := List.map eI v10) (by kernel_rfl))) (aF (mk 70 3973) [(0, true), (1, true), (2, true), (3, true)])) h
 refine SP.exit ?_; obtain ⟨x34, hx34, h⟩ := aC h; refine SP.rg <| .a 1 <| .e [.map (List.map (eM (Value.int .i64) eI) v4), .map (List.map (eM (Value.int .i64) eB) v5), .map (List.map (eM (Value.int .i64) eB) v6), .arr 3 1 (List.map eI v2), .arr 3 1 (List.map eI x34)] (tV (dh := [.aO 3]) (dK := [.d (.sl (List.map eI v2))]) (uU v2 x34 hx34) (fun x hx => by obtain ⟨a, _, rfl⟩ := List.mem_map.1 hx; rfl) Ue ⟨⟨3, 1, List.map eI v2, by kernel_rfl, rfl⟩, trivial⟩ rfl rfl) <| .a 1 <| .au ?_; rw [← aB h]; exact .ret (aU [(4, true)])
def Y6 (ay : (List ah)) (aX : (List Int)) (x1 : (List (Int × Int))) (v2 : (List Int)) (v3 : Int) : St := ⟨cu 37 [(0, .d ((eL aA) ay)), (5, .mp 0), (6, .aO 1), (13, .d ((eL eI) aX)), (14, .d (eI (aX.length : Int))), (15, .d (eI v3))], [.map (List.map (eM (Value.int .i64) eI) x1), .arr 3 1 (List.map eI v2)], 0⟩
def Y7 (ay : (List ah)) (aX : (List Int)) (v3 : Int) (x1 : (List (Int × Int))) (v6 : (List Int)) : St := ⟨cu 37 [(0, .d ((eL aA) ay)), (5, .mp 0), (6, .aO 1), (13, .d ((eL eI) aX)), (14, .d (eI (aX.length : Int))), (15, .d (eI v3))], [.map (List.map (eM (Value.int .i64) eI) x1), .arr 3 1 (List.map eI v6)], 0⟩
def wW (k4 : ((List Int) → Int → Option (List Int))) (v3 : Int) (v6 : (List Int)) : Option (List Int) := k4 v6 (IntKind.i64.wrap (v3 + 1))
def BN (aX : (List Int)) (x1 : (List (Int × Int))) (ay : (List ah)) (k4 : ((List Int) → Int → Option (List Int))) : (List Int) → Int → Option (List Int) := fun v2 v3 => (bif decide (v3 < (aX.length : Int)) then (bf aX v3).bind fun x8 => (bif (fB x1 x8).isSome then (bf ay ((fB x1 x8).getD 0)).bind fun x10 => (fP 8 v2 x10.fH).bind fun x11 => wW k4 v3 x11 else wW k4 v3 v2) else (zJ ay v2 (fun a0 => mV a0)).bind fun x12 => some x12)
def OG (aX : (List Int)) (x1 : (List (Int × Int))) (ay : (List ah)) : (List Int) → Int → Option (List Int) := bn (BN aX x1 ay) fuel
def qp (ay : (List ah)) (aX : (List Int)) : Option (List Int) := (zI ay).bind fun x1 => OG aX x1 ay [] 0
theorem GH (ay aX r) (h : qp ay aX = some r) : Runs Tryz.prog 64 [.d ((eL aA) ay), .d ((eL eI) aX)] [] (.aO 0) [.arr 3 1 (List.map eI r)] := by
 refine Runs.aT Tryz.func64 rfl ?_; unfold qp at h; refine SP.rg <| .e [.arr 3 1 (List.map eI [])] (aQ 3 1 rfl) <| .au ?_; obtain ⟨x1, hx1, h⟩ := aC h; refine SP.rg <| .a 1 <| .e (x := .mp 1) [.arr 3 1 (List.map eI []), .map (List.map (eM (Value.int .i64) eI) x1)] (gQ [] (dh := [.d ((eL aA) ay)]) (dK := [.d ((eL aA) ay)]) (res' := .mp 1) (OC ay x1 hx1) ajn (by kernel_rfl) trivial ⟨.inl rfl, trivial⟩ rfl (by kernel_rfl) rfl) <| .a 1 <| .au <| SP.rg <| .e [.arr 3 1 (List.map eI []), .map (List.map (eM (Value.int .i64) eI) x1), .arr 3 1 (List.map eI [])] (aQ 3 1 rfl) <| .au <| SP.aJ <| SP.rg <| .a 1 <| .p (aW eI aX bT rfl) <| .a 1 <| .au <| SP.block ?_; refine SP.bn (Y6 ay aX x1) _ _ _ _ (aF (mk 37 57441) [(1, true), (2, true)]) h ?_; clear h; intro J13 k4 hk4 v2 v3 h; unfold BN at h; refine SP.rg <| .a 1 <| .au <| SP.aJ <| SP.cnd h (fun h => ?_) fun h => ?_
 · refine SP.skip ?_; refine SP.join (fun s => ∃ (v6 : (List Int)), Sub s (Y7 ay aX v3 x1 v6) ∧ wW k4 v3 v6 = some r) ?_ ?_
   · clear h; rintro s ⟨v6, hs, h⟩; refine SP.sub hs ?_; clear hs; unfold wW at h; refine SP.bU <| .a 2 <| .nil ?_; exact hk4 _ _ _ (aF (mk 37 57441) [(0, true), (1, true)]) h
   intro K7; refine SP.block ?_; obtain ⟨x8, je, h⟩ := aC h; refine SP.rg <| .p (aP (k := .i64) eI je bT iy (by kernel_rfl) rfl) <| .a 2 <| .au <| SP.rg <| .a 2 <| .p (x := .dW [.d (eI ((fB x1 x8).getD 0)), .d (eB ((fB x1 x8).isSome))]) (abV (k := 0) (key := x8) (m := x1) eI 0 Iy PY zero3 (by kernel_rfl) (by kernel_rfl) (by kernel_rfl) rfl) <| .a 5 <| .au <| SP.rg <| .a 1 <| .au <| SP.cnd h (fun h => ?_) fun h => ?_
   · obtain ⟨x10, lD, x11, gU, h⟩ := aY h; exact SP.bU <| .a 3 <| .p (aP (k := .i64) aA lD jH oI (by kernel_rfl) rfl) <| .a 2 <| .e [.map (List.map (eM (Value.int .i64) eI) x1), .dead, .arr 3 1 (List.map eI x11)] (dV (k := 1) eI gU eH (by kernel_rfl) (fun _ => rfl) (by decide) rfl) <| .a 1 <| .nil <| K7 _ ⟨x11, aF (mk 37 57441) [(0, true), (2, true)], h⟩
   exact SP.skip <| K7 _ ⟨v2, aF (mk 37 57441) [(0, true), (1, true)], h⟩
 refine SP.exit ?_; obtain ⟨x12, jE, h⟩ := aC h; refine SP.rg <| .a 2 <| .e [.map (List.map (eM (Value.int .i64) eI) x1), .arr 3 1 (List.map eI v2), .arr 3 1 (List.map eI x12)] (tV (dh := [.d ((eL aA) ay), .aO 1, .d (.fn (.func 88) [] [])]) (dK := [.d ((eL aA) ay), .d (.sl (List.map eI v2)), .d (.fn (.func 88) [] [])]) (Y4 ay v2 (fun a0 => mV a0) (.fn (.func 88) [] []) ⟨88, [], rfl, amF, fun a0 b hb => VW a0 b hb⟩ x12 jE) (fun x hx => by obtain ⟨a, _, rfl⟩ := List.mem_map.1 hx; rfl) amE ⟨rfl, ⟨3, 1, List.map eI v2, by kernel_rfl, rfl⟩, rfl, trivial⟩ rfl rfl) <| .a 1 <| .au ?_; rw [← aB h]; exact .ret (aU [(2, true)])
def QX (ay : (List ah)) (dF : (List aj)) (v2 : (List Int)) (v3 : Int) : St := ⟨cu 38 [(0, .d ((eL aA) ay)), (5, .aO 0), (12, .d ((eL ak) dF)), (13, .d (eI (dF.length : Int))), (14, .d (eI v3))], [.arr 3 1 (List.map eI v2)], 0⟩
def uN (dF : (List aj)) (ay : (List ah)) (k4 : ((List Int) → Int → Option (List Int))) : (List Int) → Int → Option (List Int) := fun v2 v3 => (bif decide (v3 < (dF.length : Int)) then (bf dF v3).bind fun x6 => (fP 8 v2 [x6.Id]).bind fun x7 => k4 x7 (IntKind.i64.wrap (v3 + 1)) else (qp ay v2).bind fun x8 => (fP 8 v2 x8).bind fun x9 => (fE x9).bind fun x10 => (iD x10).bind fun x11 => some x11)
def Gi (dF : (List aj)) (ay : (List ah)) : (List Int) → Int → Option (List Int) := bn (uN dF ay) fuel
def uf (ay : (List ah)) (dF : (List aj)) : Option (List Int) := (vY 8 0 0 (dF.length : Int)).bind fun x1 => Gi dF ay x1 0
theorem QY (ay dF r) (h : uf ay dF = some r) : Runs Tryz.prog 82 [.d ((eL aA) ay), .d ((eL ak) dF)] [] (.aO 0) [.arr 3 1 (List.map eI r)] := by
 refine Runs.aT Tryz.func82 rfl ?_; unfold uf at h; refine SP.rg <| .e [.arr 3 1 (List.map eI [])] (aQ 3 1 rfl) <| .au ?_; obtain ⟨x1, hx1, h⟩ := aC h; refine SP.rg <| .a 1 <| .p (aW ak dF dO rfl) <| .e [.arr 3 1 (List.map eI []), .arr 3 1 (List.map eI x1)] (TT eI 0 hx1 eH zero3 (by kernel_rfl) (by kernel_rfl) (by kernel_rfl) (by decide) rfl) <| .a 1 <| .au <| SP.aJ <| SP.rg <| .a 1 <| .p (aW ak dF dO rfl) <| .a 1 <| .au <| SP.block ?_; refine SP.bn (QX ay dF) _ _ _ _ (aF (mk 38 28705) [(1, true)]) h ?_; clear h; intro J12 k4 hk4 v2 v3 h; unfold uN at h; refine SP.rg <| .a 1 <| .au <| SP.aJ <| SP.cnd h (fun h => ?_) fun h => ?_
 · refine SP.skip <| SP.aJ <| SP.block ?_; obtain ⟨x6, hx6, h⟩ := aC h; refine SP.rg <| .p (aP (k := .i64) ak hx6 dO iH (by kernel_rfl) rfl) <| .a 3 <| .au ?_; obtain ⟨x7, hx7, h⟩ := aC h; refine SP.bU <| .a 3 <| .p (bZ eH zero3 (by kernel_rfl) (by kernel_rfl) (Nat.le_of_ble_eq_true (by kernel_rfl)) [.d (eI x6.Id)] [eI x6.Id] (by kernel_rfl) (by kernel_rfl) (by kernel_rfl) (by kernel_rfl) rfl) <| .e [.dead, .box (dc (ak x6)), .arr 3 1 (List.map eI x7)] (dV (k := 0) eI hx7 eH (by kernel_rfl) (fun _ => rfl) (by decide) rfl) <| .a 1 <| .nil <| SP.bU <| .a 2 <| .nil ?_; exact hk4 _ _ _ (aF (mk 38 28705) [(2, true)]) h
 refine SP.exit ?_; obtain ⟨x8, je, x9, iK, h⟩ := aY h; refine SP.yA (by kernel_rfl) (by kernel_rfl) (by kernel_rfl) (.a 2 <| .p (sV (k := 0) (e' := 3) (s := 1) eI v2 (by kernel_rfl) bT rfl) <| .a 1 <| .p (sV (k := 0) (e' := 3) (s := 1) eI v2 (by kernel_rfl) bT rfl) <| .p (aeW (e' := 3) (s := 1) (k := 0) (xs := List.map eI v2) (h := (v2.length : Int)) (by rw [List.length_map]) (by kernel_rfl) bT iy rfl) <| .a 2 <| .p (PV (dh := [.d ((eL aA) ay), .aO 0]) (dK := [.d ((eL aA) ay), .d (.sl (List.map eI v2))]) (GH ay v2 x8 je) (fun x hx => by obtain ⟨a, _, rfl⟩ := List.mem_map.1 hx; rfl) afC ⟨rfl, ⟨3, 1, List.map eI v2, by kernel_rfl, rfl⟩, trivial⟩ rfl rfl) <| .e [.dead, .arr 3 1 (List.map eI x9)] (aeX (k := 0) eI iK eH (by kernel_rfl) (fun _ => rfl) (by decide) rfl) <| .a 1 <| .nil _) ?_; obtain ⟨x10, lD, h⟩ := aC h; refine SP.rg <| .a 1 <| .e (x := .dW []) [.dead, .arr 3 1 (List.map eI x10)] (gQ [.ent 1] (dh := [.aO 1]) (dK := [.aO 0]) (res' := .dW []) (qO x9 x10 lD) abj (by kernel_rfl) (kN (by kernel_rfl) <| trivial) ⟨⟨0, rfl, rfl⟩, trivial⟩ rfl (by kernel_rfl) rfl) <| .au ?_; obtain ⟨x11, gU, h⟩ := aC h; refine SP.rg <| .a 1 <| .e (x := .aO 2) [.dead, .dead, .arr 3 1 (List.map eI x11)] (gQ [.ent 1] (dh := [.aO 1]) (dK := [.aO 0]) (res' := .aO 2) (tN x10 x11 gU) afA (by kernel_rfl) (kN (by kernel_rfl) <| trivial) ⟨⟨0, rfl, rfl⟩, trivial⟩ rfl (by kernel_rfl) rfl) <| .a 1 <| .au ?_; rw [← aB h]; exact .ret (aU [(2, true)])
def NQ (ay : (List ah)) (aG : (List (List aj))) (v1 : Int) (v2 : (List (Int × Int))) : St := ⟨cu 55 [(0, .d ((eL aA) ay)), (1, .d ((eL (eL ak)) aG)), (5, .mp 0), (14, .d ((eL (eL ak)) aG)), (15, .d (eI (aG.length : Int))), (16, .d (eI v1))], [.map (List.map (eM (Value.int .i64) eI) v2)], 0⟩
def NR (ay : (List ah)) (aG : (List (List aj))) (v1 : Int) (x6 : (List Int)) (v7 : Int) (v8 : (List (Int × Int))) : St := ⟨cu 55 [(0, .d ((eL aA) ay)), (1, .d ((eL (eL ak)) aG)), (5, .mp 0), (14, .d ((eL (eL ak)) aG)), (15, .d (eI (aG.length : Int))), (16, .d (eI v1)), (22, .d ((eL eI) x6)), (23, .d (eI (x6.length : Int))), (24, .d (eI v7))], [.map (List.map (eM (Value.int .i64) eI) v8)], 0⟩
def NS (aG : (List (List aj))) (v2 : (List (Int × Int))) (Ui : List Nat) (v14 : (List Int)) : St := ⟨cu 55 [(1, .d ((eL (eL ak)) aG)), (10, .aO 0), (38, .ptr 1 0)], [.arr 3 1 (List.map eI v14), .iter (List.map (eM (Value.int .i64) eI) v2) Ui], 0⟩
def qw (x6 : (List Int)) (k3 : (Int → (List (Int × Int)) → Option (List Int))) (v1 : Int) (k9 : (Int → (List (Int × Int)) → Option (List Int))) : Int → (List (Int × Int)) → Option (List Int) := fun v7 v8 => (bif decide (v7 < (x6.length : Int)) then (bf x6 v7).bind fun x11 => k9 (IntKind.i64.wrap (v7 + 1)) (kP v8 x11 (IntKind.i64.wrap (((fB v8 x11).getD 0) + 1))) else k3 (IntKind.i64.wrap (v1 + 1)) v8)
def Dh (x6 : (List Int)) (k3 : (Int → (List (Int × Int)) → Option (List Int))) (v1 : Int) : Int → (List (Int × Int)) → Option (List Int) := bn (qw x6 k3 v1) fuel
def gu (aG : (List (List aj))) (v14 : (List Int)) (p16 : (Int × Int)) : Option (List Int) := (bif decide (p16.2 < (aG.length : Int)) then (fP 8 v14 [p16.1]).bind fun x20 => some x20 else some v14)
def jY  (v14 : (List Int)) : Option (List Int) := (fE v14).bind fun x18 => some x18
def qx (aG : (List (List aj))) (ay : (List ah)) (k3 : (Int → (List (Int × Int)) → Option (List Int))) : Int → (List (Int × Int)) → Option (List Int) := fun v1 v2 => (bif decide (v1 < (aG.length : Int)) then (bf aG v1).bind fun x5 => (uf ay x5).bind fun x6 => Dh x6 k3 v1 0 v2 else (vY 8 0 0 (v2.length : Int)).bind fun ig => (List.foldlM (gu aG) ig v2).bind jY)
def Di (aG : (List (List aj))) (ay : (List ah)) : Int → (List (Int × Int)) → Option (List Int) := bn (qx aG ay) fuel
def pJ (ay : (List ah)) (aG : (List (List aj))) : Option (List Int) := Di aG ay 0 []
theorem NT (ay aG r) (h : pJ ay aG = some r) : Runs Tryz.prog 59 [.d ((eL aA) ay), .d ((eL (eL ak)) aG)] [] (.aO 0) [.arr 3 1 (List.map eI r)] := by
 refine Runs.aT Tryz.func59 rfl ?_; unfold pJ at h; refine SP.rg <| .e [.arr 3 1 (List.map eI [])] (aQ 3 1 rfl) <| .au <| SP.rg <| .e (x := .mp 1) [.arr 3 1 (List.map eI []), .map (List.map (eM (Value.int .i64) eI) [])] (PU rfl) <| .a 1 <| .au <| SP.aJ <| SP.rg <| .a 1 <| .p (aW (eL ak) aG jw rfl) <| .a 1 <| .au <| SP.block ?_; refine SP.bn (NQ ay aG) _ _ _ _ (aF (mk 55 114723) [(1, true)]) h ?_; clear h; intro J22 k3 hk3 v1 v2 h; unfold qx at h; refine SP.rg <| .a 1 <| .au <| SP.aJ <| SP.cnd h (fun h => ?_) fun h => ?_
 · refine SP.skip <| SP.aJ <| SP.block ?_; obtain ⟨x5, hx5, h⟩ := aC h; refine SP.rg <| .p (aP (k := .i64) (eL ak) hx5 jw zT (by kernel_rfl) rfl) <| .a 2 <| .au ?_; obtain ⟨x6, hx6, h⟩ := aC h; refine SP.rg <| .a 2 <| .call (QY ay x5 x6 hx6).view amG <| .p (aW eI x6 bT rfl) <| .a 1 <| .au <| SP.block ?_; refine SP.bn (NR ay aG v1 x6) _ _ _ _ (aF (mk 55 29474851) [(0, true)]) h ?_; clear h; intro J12 k9 hk9 v7 v8 h; unfold qw at h; refine SP.rg <| .a 1 <| .au <| SP.aJ <| SP.cnd h (fun h => ?_) fun h => ?_
   · refine SP.skip <| SP.aJ <| SP.block ?_; obtain ⟨x11, gU, h⟩ := aC h; refine SP.rg <| .p (aP (k := .i64) eI gU bT iy (by kernel_rfl) rfl) <| .a 2 <| .au <| SP.bU <| .a 2 <| .p (x := .d (eI ((fB v8 x11).getD 0))) (YS (k := 0) (key := x11) (m := v8) eI 0 Iy PY zero3 (by kernel_rfl) (by kernel_rfl) (by kernel_rfl) rfl) <| .a 1 <| .e [.map (List.map (eM (Value.int .i64) eI) (kP v8 x11 (IntKind.i64.wrap (((fB v8 x11).getD 0) + 1))))] (Ua (k := 0) (key := x11) (val := (IntKind.i64.wrap (((fB v8 x11).getD 0) + 1))) (m := v8) eI Iy PY (by kernel_rfl) rfl) <| .nil <| SP.bU <| .a 2 <| .nil ?_; exact hk9 _ _ _ (aF (mk 55 29474851) [(0, true)]) h
   refine SP.exit <| SP.bU <| .a 2 <| .nil ?_; exact hk3 _ _ _ (aF (mk 55 114723) [(0, true)]) h
 refine SP.exit ?_; obtain ⟨ig, tY, h⟩ := aC h; refine SP.rg <| .a 1 <| .p (x := .d (eI (v2.length : Int))) (ajS (k := 0) (es0 := List.map (eM (Value.int .i64) eI) v2) (List.length_map ..) Iy (by kernel_rfl) rfl) <| .e [.map (List.map (eM (Value.int .i64) eI) v2), .arr 3 1 (List.map eI ig)] (TT eI 0 tY eH zero3 (by kernel_rfl) (by kernel_rfl) (by kernel_rfl) (by decide) rfl) <| .a 1 <| .au <| SP.aJ <| SP.rg <| .a 1 <| .e (x := .ptr 2 0) [.dead, .arr 3 1 (List.map eI ig), .iter (List.map (eM (Value.int .i64) eI) v2) []] (ah5 (k := 0) (m := List.map (eM (Value.int .i64) eI) v2) Iy (by kernel_rfl) rfl) <| .au <| SP.block <| SP.ajX (NS aG v2) v2 (gu aG) jY r ig (aF (mk 55 274877907970) [(1, true), (2, true)]) ?_ ?_
 · intro vis hnd hin; exact ab4 (aib _ vis hnd hin) (fun x y hxy => by unfold jY; rw [VN hxy]) h
 clear h; intro J Ui v14 hend hstep; refine SP.rg <| ?_; refine LP.next (ty := false) (ek := (Value.int .i64)) (ev := eI) 1 v2 Ui (by kernel_rfl) rfl (by kernel_rfl) (by kernel_rfl) ?_ ?_
 · intro hc; have h := hend hc; unfold jY at h; refine .a 1 <| .au <| SP.aJ <| SP.JD (by kernel_rfl) <| SP.exit ?_; obtain ⟨x18, pV, h⟩ := aC h; refine SP.rg <| .a 1 <| .e (x := .dW []) [.arr 3 1 (List.map eI x18), .iter (List.map (eM (Value.int .i64) eI) v2) Ui] (gQ [.ent 0] (dh := [.aO 0]) (dK := [.aO 0]) (res' := .dW []) (qO v14 x18 pV) abj (by kernel_rfl) (kN (by kernel_rfl) <| trivial) ⟨⟨0, rfl, rfl⟩, trivial⟩ rfl (by kernel_rfl) rfl) <| .au <| SP.rg <| .a 2 <| .au ?_; rw [← aB h]; exact .ret (aU [(0, true)])
 intro i17 p16 hp hi; obtain ⟨r, h, hJ⟩ := hstep i17 p16 hp hi; unfold gu at h; refine .a 1 <| .au <| SP.aJ <| SP.Px (by kernel_rfl) <| SP.skip <| SP.block <| SP.rg <| .p (x := .dW [.d (eI p16.1), .d (eI p16.2)]) (ah6 (n := 1) (i := i17) (ek := (Value.int .i64)) (ev := eI) (m := v2) (vis := Ui) hp (by kernel_rfl) rfl) <| .a 4 <| .au <| SP.rg <| .a 2 <| .p (aW (eL ak) aG jw rfl) <| .a 1 <| .au <| SP.cnd h (fun h => ?_) fun h => ?_
 · obtain ⟨x20, CQ, h⟩ := aC h; refine SP.bU <| .a 2 <| .p (bZ eH zero3 (by kernel_rfl) (by kernel_rfl) (Nat.le_of_ble_eq_true (by kernel_rfl)) [.d (eI p16.1)] [eI p16.1] (by kernel_rfl) (by kernel_rfl) (by kernel_rfl) (by kernel_rfl) rfl) <| .e [.dead, .iter (List.map (eM (Value.int .i64) eI) v2) (Ui ++ [i17]), .arr 3 1 (List.map eI x20)] (dV (k := 0) eI CQ eH (by kernel_rfl) (fun _ => rfl) (by decide) rfl) <| .a 1 <| .nil ?_; obtain rfl := aB h; exact hJ _ (aF (mk 55 274877907970) [(2, true), (1, true)])
 refine SP.skip ?_; obtain rfl := aB h; exact hJ _ (aF (mk 55 274877907970) [(0, true), (1, true)])
def zk (ay : (List ah)) (aG : (List (List aj))) : Option (List Int) := (sW aG).bind fun x1 => (pJ ay aG).bind fun x2 => (fP 8 x1.2 x2).bind fun x3 => (fE x3).bind fun x4 => (iD x4).bind fun x5 => some x5
theorem VY (ay aG r) (h : zk ay aG = some r) : Runs Tryz.prog 40 [.d ((eL aA) ay), .d ((eL (eL ak)) aG)] [] (.aO 0) [.arr 3 1 (List.map eI r)] := by
 refine Runs.aT Tryz.func40 rfl ?_; unfold zk at h; refine SP.rg <| .e [.arr 3 1 (List.map eI [])] (aQ 3 1 rfl) <| .au ?_; obtain ⟨x1, hx1, h⟩ := aC h; refine SP.rg <| .a 1 <| .e (x := .dW [.aO 1, .aO 2]) [.arr 3 1 (List.map eI []), .arr 45 3 (List.map ak x1.1), .arr 3 1 (List.map eI x1.2)] (gQ [] (dh := [.d ((eL (eL ak)) aG)]) (dK := [.d ((eL (eL ak)) aG)]) (res' := .dW [.aO 1, .aO 2]) (Jq aG x1 hx1) ajo (by kernel_rfl) trivial ⟨.inl rfl, trivial⟩ rfl (by kernel_rfl) rfl) <| .a 2 <| .conv _ (kE (e := 45) (s := 3) 1 (xs := List.map ak x1.1) (by kernel_rfl)) <| .a 3 <| .au ?_; obtain ⟨x2, hx2, x3, hx3, h⟩ := aY h; refine SP.yA (by kernel_rfl) (by kernel_rfl) (by kernel_rfl) (.a 2 <| .p (sV (k := 2) (e' := 3) (s := 1) eI x1.2 (by kernel_rfl) bT rfl) <| .a 1 <| .p (sV (k := 2) (e' := 3) (s := 1) eI x1.2 (by kernel_rfl) bT rfl) <| .p (aeW (e' := 3) (s := 1) (k := 2) (xs := List.map eI x1.2) (h := (x1.2.length : Int)) (by rw [List.length_map]) (by kernel_rfl) bT iy rfl) <| .a 2 <| .call (NT ay aG x2 hx2).view amH <| .e [.arr 3 1 (List.map eI []), .dead, .dead, .arr 3 1 (List.map eI x3)] (aeX (k := 2) eI hx3 eH (by kernel_rfl) (fun _ => rfl) (by decide) rfl) <| .a 1 <| .nil _) ?_; obtain ⟨x4, hx4, h⟩ := aC h; refine SP.rg <| .a 1 <| .e (x := .dW []) [.arr 3 1 (List.map eI []), .dead, .dead, .arr 3 1 (List.map eI x4)] (gQ [.ent 3] (dh := [.aO 3]) (dK := [.aO 0]) (res' := .dW []) (qO x3 x4 hx4) abj (by kernel_rfl) (kN (by kernel_rfl) <| trivial) ⟨⟨0, rfl, rfl⟩, trivial⟩ rfl (by kernel_rfl) rfl) <| .au ?_; obtain ⟨x5, hx5, h⟩ := aC h; refine SP.rg <| .a 1 <| .e (x := .aO 4) [.arr 3 1 (List.map eI []), .dead, .dead, .dead, .arr 3 1 (List.map eI x5)] (gQ [.ent 3] (dh := [.aO 3]) (dK := [.aO 0]) (res' := .aO 4) (tN x4 x5 hx5) afA (by kernel_rfl) (kN (by kernel_rfl) <| trivial) ⟨⟨0, rfl, rfl⟩, trivial⟩ rfl (by kernel_rfl) rfl) <| .a 1 <| .au ?_; rw [← aB h]; exact .ret (aU [(4, true)])
def AU (aN : (List ah)) (Qb : D) (v1 : Int) : St := ⟨cu 19 [(0, .d ((eL aA) aN)), (1, .d Qb), (7, .d (eI (aN.length : Int))), (8, .d (eI v1))], [], 0⟩
def ji (aN : (List ah)) (Qc : (ah → Option Bool)) (k2 : (Int → Option Int)) : Int → Option Int := fun v1 => (bif decide (v1 < (aN.length : Int)) then (bf aN v1).bind fun x4 => (Qc x4).bind fun x5 => (bif x5 then some v1 else k2 (IntKind.i64.wrap (v1 + 1))) else some (-1))
def qC (aN : (List ah)) (Qc : (ah → Option Bool)) : Int → Option Int := bQ (ji aN Qc) fuel
def fJ (aN : (List ah)) (Qc : (ah → Option Bool)) : Option Int := qC aN Qc 0
theorem kR (aN : (List ah)) (Qc : (ah → Option Bool)) (Qb : D) (am7 : Fn1 Tryz.prog aA eB Qb Qc) (r : Int) (h : fJ aN Qc = some r) : Runs Tryz.prog 124 [.d ((eL aA) aN), .d Qb] [] (.d (eI r)) [] := by
 refine Runs.aT Tryz.func124 rfl ?_; unfold fJ at h; refine SP.rg <| .a 1 <| .au <| SP.aJ <| SP.rg <| .a 1 <| .p (aW aA aN jH rfl) <| .a 1 <| .au <| SP.block ?_; refine SP.bQ (AU aN Qb) _ _ _ (aF (mk 19 387) []) h ?_; clear h; intro J7 k2 hk2 v1 h; unfold ji at h; refine SP.rg <| .a 1 <| .au <| SP.aJ <| SP.cnd h (fun h => ?_) fun h => ?_
 · refine SP.skip <| SP.aJ <| SP.block <| SP.rg <| .a 2 <| .au ?_; obtain ⟨x4, hx4, x5, hx5, h⟩ := aY h; refine SP.rg <| .a 3 <| .p (aP (k := .i64) aA hx4 jH oI (by kernel_rfl) rfl) <| .a 1 <| .p (Oo (d := Qb) (am7 : Fn1 Tryz.prog aA eB Qb Qc) hx5 rfl) <| .au <| SP.cnd h (fun h => ?_) fun h => ?_
   · refine SP.rg <| .a 2 <| .au ?_; rw [← aB h]; exact .ret (aU [])
   refine SP.skip <| SP.bU <| .a 2 <| .nil ?_; exact hk2 _ _ (aF (mk 19 387) []) h
 refine SP.exit <| SP.rg <| .a 1 <| .au ?_; rw [← aB h]; exact .ret (aU [])
def zl (aS : ah) (c0 : Int) : Option Bool := some (aS.Id == c0)
theorem VZ (aS c0 r) (h : zl aS c0 = some r) : Runs Tryz.prog 125 [.d (aA aS), .d (.ref (eI c0).cells 0)] [] (.d (eB r)) [] := by
 refine Runs.aT Tryz.func125 rfl ?_; unfold zl at h; refine SP.rg <| .a 2 <| .au <| SP.rg <| .a 5 <| .au ?_; rw [← aB h]; exact .ret (aU [])
def Hl (ay : (List ah)) (iI : Int) : Option Int := (fJ ay (fun a0 => zl a0 iI)).bind fun x1 => some x1
theorem Y8 (ay iI r) (h : Hl ay iI = some r) : Runs Tryz.prog 85 [.d ((eL aA) ay), .d (eI iI)] [] (.d (eI r)) [] := by
 refine Runs.aT Tryz.func85 rfl ?_; unfold Hl at h; refine SP.rg <| .a 2 <| .au ?_; obtain ⟨x1, hx1, h⟩ := aC h; refine SP.rg <| .a 1 <| .conv _ (oC (cs := dc (eI iI)) 0 (by kernel_rfl) (by kernel_rfl)) <| .p (x := .d (.fn (.func 125) [] [(.ref (eI iI).cells 0)])) (qj [(.ref (eI iI).cells 0)] rfl rfl) <| .call (kR ay (fun a0 => zl a0 iI) (.fn (.func 125) [] [(.ref (eI iI).cells 0)]) ⟨125, [(.ref (eI iI).cells 0)], rfl, ak6, fun a0 b hb => VZ a0 iI b hb⟩ x1 hx1) acd <| .a 1 <| .au ?_; rw [← aB h]; exact .ret (aU [])
def l7 (ay : (List ah)) (iI : Int) : Option (ah × Bool) := (Hl ay iI).bind fun x1 => (bif decide (x1 < 0) then some (dB, false) else (bf ay x1).bind fun x3 => some (x3, true))
theorem mJ (ay iI r) (h : l7 ay iI = some r) : Runs Tryz.prog 62 [.d ((eL aA) ay), .d (eI iI)] [] (.dW [.d (aA r.1), .d (eB r.2)]) [] := by
 refine Runs.aT Tryz.func62 rfl ?_; unfold l7 at h; refine SP.rg <| .a 2 <| .au ?_; obtain ⟨x1, hx1, h⟩ := aC h; refine SP.rg <| .a 2 <| .call (Y8 ay iI x1 hx1) amI <| .a 1 <| .au <| SP.aJ <| SP.rg <| .a 2 <| .au <| SP.cnd h (fun h => ?_) fun h => ?_
 · refine SP.rg <| .a 3 <| .au <| SP.ret ?_; rw [← aB h]; exact ⟨[.d (aA dB), .d (eB false)], [], ⟨⟨0, dc (aA dB), true, 29, by kernel_rfl, by kernel_rfl, by kernel_rfl, oI, Nat.le_of_ble_eq_true (by kernel_rfl), (by intro hh; cases hh), by kernel_rfl⟩, rC (by kernel_rfl), trivial⟩, by kernel_rfl, by kernel_rfl, by kernel_rfl⟩
 refine SP.skip ?_; obtain ⟨x3, hx3, h⟩ := aC h; refine SP.rg <| .a 2 <| .p (aP (k := .i64) aA hx3 jH oI (by kernel_rfl) rfl) <| .a 3 <| .au <| SP.ret ?_; rw [← aB h]; exact ⟨[.d (aA x3), .d (eB true)], [], ⟨⟨0, dc (aA x3), true, 29, by kernel_rfl, by kernel_rfl, by kernel_rfl, oI, Nat.le_of_ble_eq_true (by kernel_rfl), (by intro hh; cases hh), by kernel_rfl⟩, rC (by kernel_rfl), trivial⟩, by kernel_rfl, by kernel_rfl, by kernel_rfl⟩
def ad4 (aS : ah) (v1 : Bool) : St := ⟨cu 27 [(1, .ptr 0 0), (4, .d (eI aS.Kind)), (5, .d (eB v1))], [.box (dc (aA aS))], 0⟩
def Dj (aS : ah) (v1 : Bool) : Option Bool := (bif v1 then some true else (bif (aS.Kind == 2) then (bif (aS.Content.N == 0) then some true else some (aS.Content.N == 4)).bind fun x4 => (bif x4 then some (!(aS.Key.toList == aS.bC.toList)) else some false).bind fun x6 => some x6 else some false))
def KR (aS : ah) : Option Bool := (bif (aS.Kind == 3) then Dj aS (aS.Kind == 3) else Dj aS (aS.Kind == 4))
theorem ad5 (aS r) (h : KR aS = some r) : Runs Tryz.prog 63 [.d (aA aS)] [] (.d (eB r)) [] := by
 refine Runs.aT Tryz.func63 rfl ?_; unfold KR at h; refine SP.rg <| .a 2 <| .au <| SP.aJ <| SP.rg <| .a 2 <| .au <| SP.block ?_; refine SP.join (fun s => ∃ (v1 : Bool), Sub s (ad4 aS v1) ∧ Dj aS v1 = some r) ?_ ?_
 · clear h; rintro s ⟨v1, hs, h⟩; refine SP.sub hs ?_; clear hs; unfold Dj at h; refine SP.cnd h (fun h => ?_) fun h => ?_
   · refine SP.rg <| .a 1 <| .au ?_; rw [← aB h]; exact .ret (aU [])
   refine SP.rg <| .a 2 <| .au <| SP.cnd h (fun h => ?_) fun h => ?_
   · refine SP.rg <| .a 4 <| ?_; obtain ⟨x4, hx4, h⟩ := aC h; refine .merge 6 [14, 15, 16, 17, 18] 19 (.d (eB x4)) ?_ ?_
     · rcases fF hx4 with ⟨hb5, h⟩ | ⟨hb5, h⟩
       · refine .c (congrArg some hb5) <| .a 5 <| .au ?_; obtain rfl := aB h; kernel_rfl
       refine .c (congrArg some hb5) <| .a 5 <| .au ?_; obtain rfl := aB h; kernel_rfl
     refine .a 1 <| ?_; obtain ⟨x6, hx6, h⟩ := aC h; refine .merge 6 [21, 22, 23, 24, 25] 26 (.d (eB x6)) ?_ ?_
     · replace h := hx6; cases x4 with
       | true =>
         replace h := bI rfl h; refine .a 6 <| .au ?_; obtain rfl := aB h; kernel_rfl
       | false =>
         replace h := bG rfl h; refine .a 6 <| .au ?_; obtain rfl := aB h; kernel_rfl
     refine .a 1 <| .au ?_; rw [← aB h]; exact .ret (aU [])
   refine SP.skip <| SP.rg <| .a 1 <| .au ?_; rw [← aB h]; exact .ret (aU [])
 intro K8; refine SP.rg <| .a 2 <| .au <| SP.cnd h (fun h => ?_) fun h => ?_
 · exact SP.skip <| K8 _ ⟨(aS.Kind == 3), aF (mk 27 50) [(0, true)], h⟩
 exact SP.bU <| .a 2 <| .nil <| K8 _ ⟨(aS.Kind == 4), aF (mk 27 50) [(0, true)], h⟩
def NU (aN : (List Int)) (AX : Int) (v1 : Int) : St := ⟨cu 19 [(0, .d ((eL eI) aN)), (1, .d (eI AX)), (7, .d (eI (aN.length : Int))), (8, .d (eI v1))], [], 0⟩
def qy (aN : (List Int)) (AX : Int) (k2 : (Int → Option Int)) : Int → Option Int := fun v1 => (bif decide (v1 < (aN.length : Int)) then (bf aN v1).bind fun x4 => (bif (AX == x4) then some v1 else k2 (IntKind.i64.wrap (v1 + 1))) else some (-1))
def Dk (aN : (List Int)) (AX : Int) : Int → Option Int := bQ (qy aN AX) fuel
def mF (aN : (List Int)) (AX : Int) : Option Int := Dk aN AX 0
theorem Dl (aN AX r) (h : mF aN AX = some r) : Runs Tryz.prog 126 [.d ((eL eI) aN), .d (eI AX)] [] (.d (eI r)) [] := by
 refine Runs.aT Tryz.func126 rfl ?_; unfold mF at h; refine SP.rg <| .a 1 <| .au <| SP.aJ <| SP.rg <| .a 1 <| .p (aW eI aN bT rfl) <| .a 1 <| .au <| SP.block ?_; refine SP.bQ (NU aN AX) _ _ _ (aF (mk 19 387) []) h ?_; clear h; intro J6 k2 hk2 v1 h; unfold qy at h; refine SP.rg <| .a 1 <| .au <| SP.aJ <| SP.cnd h (fun h => ?_) fun h => ?_
 · refine SP.skip <| SP.aJ <| SP.block <| SP.rg <| .a 2 <| .au ?_; obtain ⟨x4, hx4, h⟩ := aC h; refine SP.rg <| .a 3 <| .p (aP (k := .i64) eI hx4 bT iy (by kernel_rfl) rfl) <| .a 2 <| .au <| SP.cnd h (fun h => ?_) fun h => ?_
   · refine SP.rg <| .a 2 <| .au ?_; rw [← aB h]; exact .ret (aU [])
   refine SP.skip <| SP.bU <| .a 2 <| .nil ?_; exact hk2 _ _ (aF (mk 19 387) []) h
 refine SP.exit <| SP.rg <| .a 1 <| .au ?_; rw [← aB h]; exact .ret (aU [])
def jo (aN : (List Int)) (AX : Int) : Option Bool := (mF aN AX).bind fun x1 => some (decide (x1 ≥ 0))
theorem rW (aN AX r) (h : jo aN AX = some r) : Runs Tryz.prog 89 [.d ((eL eI) aN), .d (eI AX)] [] (.d (eB r)) [] := by
 refine Runs.aT Tryz.func89 rfl ?_; unfold jo at h; refine SP.rg <| .a 1 <| .au ?_; obtain ⟨x1, hx1, h⟩ := aC h; refine SP.rg <| .a 2 <| .call (Dl aN AX x1 hx1) ag4 <| .a 2 <| .au ?_; rw [← aB h]; exact .ret (aU [])
def GI (ay : (List Int)) (eP : Int) : Option Bool := (jo ay eP).bind fun x1 => some x1
theorem XG (ay eP r) (h : GI ay eP = some r) : Runs Tryz.prog 65 [.d ((eL eI) ay), .d (eI eP)] [] (.d (eB r)) [] := by
 refine Runs.aT Tryz.func65 rfl ?_; unfold GI at h; refine SP.rg <| .a 1 <| .au ?_; obtain ⟨x1, hx1, h⟩ := aC h; refine SP.rg <| .a 2 <| .call (rW ay eP x1 hx1) afD <| .a 1 <| .au ?_; rw [← aB h]; exact .ret (aU [])
def acB (ay : (List ah)) (fV : (List Int)) (v1 : (List Int)) (v2 : Int) : St := ⟨cu 54 [(0, .d ((eL aA) ay)), (1, .d ((eL eI) fV)), (5, .aO 0), (13, .d ((eL eI) fV)), (14, .d (eI (fV.length : Int))), (15, .d (eI v2))], [.arr 3 1 (List.map eI v1)], 0⟩
def acC (ay : (List ah)) (fV : (List Int)) (v2 : Int) (v5 : (List Int)) : St := ⟨cu 54 [(0, .d ((eL aA) ay)), (1, .d ((eL eI) fV)), (5, .aO 0), (13, .d ((eL eI) fV)), (14, .d (eI (fV.length : Int))), (15, .d (eI v2))], [.arr 3 1 (List.map eI v5)], 0⟩
def acD (x14 : (List Int)) (fV : (List Int)) (v15 : (List Int)) (v16 : Int) : St := ⟨cu 54 [(5, .aO 0), (10, .d ((eL eI) x14)), (38, .d ((eL eI) fV)), (39, .d (eI (fV.length : Int))), (40, .d (eI v16))], [.arr 3 1 (List.map eI v15)], 0⟩
def acE (x14 : (List Int)) (fV : (List Int)) (v16 : Int) (v19 : (List Int)) : St := ⟨cu 54 [(5, .aO 0), (10, .d ((eL eI) x14)), (38, .d ((eL eI) fV)), (39, .d (eI (fV.length : Int))), (40, .d (eI v16))], [.arr 3 1 (List.map eI v19)], 0⟩
def AY (k3 : ((List Int) → Int → Option (List Int))) (v2 : Int) (v5 : (List Int)) : Option (List Int) := k3 v5 (IntKind.i64.wrap (v2 + 1))
def AZ (k17 : ((List Int) → Int → Option (List Int))) (v16 : Int) (v19 : (List Int)) : Option (List Int) := k17 v19 (IntKind.i64.wrap (v16 + 1))
def EU (fV : (List Int)) (x14 : (List Int)) (k17 : ((List Int) → Int → Option (List Int))) : (List Int) → Int → Option (List Int) := fun v15 v16 => (bif decide (v16 < (fV.length : Int)) then (bf fV v16).bind fun x21 => (GI x14 x21).bind fun yg => (bif yg then (fP 8 v15 [x21]).bind fun x24 => AZ k17 v16 x24 else AZ k17 v16 v15) else (qo v15).bind fun x25 => some x25)
def KT (fV : (List Int)) (x14 : (List Int)) : (List Int) → Int → Option (List Int) := bn (EU fV x14) fuel
def EW (fV : (List Int)) (ay : (List ah)) (k3 : ((List Int) → Int → Option (List Int))) : (List Int) → Int → Option (List Int) := fun v1 v2 => (bif decide (v2 < (fV.length : Int)) then (bf fV v2).bind fun x7 => (l7 ay x7).bind fun x8 => (bif x8.2 then (KR x8.1).bind fun x11 => some x11 else some false).bind fun x9 => (bif x9 then (fP 8 v1 [x7]).bind fun ig => AY k3 v2 ig else AY k3 v2 v1) else (qp ay v1).bind fun x14 => KT fV x14 v1 0)
def SB (fV : (List Int)) (ay : (List ah)) : (List Int) → Int → Option (List Int) := bn (EW fV ay) fuel
def II (ay : (List ah)) (fV : (List Int)) : Option (List Int) := SB fV ay [] 0
theorem acF (ay fV r) (h : II ay fV = some r) : Runs Tryz.prog 41 [.d ((eL aA) ay), .d ((eL eI) fV)] [] (.aO 0) [.arr 3 1 (List.map eI r)] := by
 refine Runs.aT Tryz.func41 rfl ?_; unfold II at h; refine SP.rg <| .e [.arr 3 1 (List.map eI [])] (aQ 3 1 rfl) <| .au <| SP.rg <| .e [.arr 3 1 (List.map eI []), .arr 3 1 (List.map eI [])] (aQ 3 1 rfl) <| .au <| SP.aJ <| SP.rg <| .a 1 <| .p (aW eI fV bT rfl) <| .a 1 <| .au <| SP.block ?_; refine SP.bn (acB ay fV) _ _ _ _ (aF (mk 54 57379) [(1, true)]) h ?_; clear h; intro J27 k3 hk3 v1 v2 h; unfold EW at h; refine SP.rg <| .a 1 <| .au <| SP.aJ <| SP.cnd h (fun h => ?_) fun h => ?_
 · refine SP.skip ?_; refine SP.join (fun s => ∃ (v5 : (List Int)), Sub s (acC ay fV v2 v5) ∧ AY k3 v2 v5 = some r) ?_ ?_
   · clear h; rintro s ⟨v5, hs, h⟩; refine SP.sub hs ?_; clear hs; unfold AY at h; refine SP.bU <| .a 2 <| .nil ?_; exact hk3 _ _ _ (aF (mk 54 57379) [(0, true)]) h
   intro K6; refine SP.block ?_; obtain ⟨x7, hx7, h⟩ := aC h; refine SP.rg <| .p (aP (k := .i64) eI hx7 bT iy (by kernel_rfl) rfl) <| .a 2 <| .au ?_; obtain ⟨x8, je, h⟩ := aC h; refine SP.rg <| .a 2 <| .call (mJ ay x7 x8 je) G9 <| .a 6 <| .au <| SP.rg <| .a 1 <| ?_; obtain ⟨x9, iK, h⟩ := aC h; refine .merge 4 [26, 27, 28] 29 (.d (eB x9)) ?_ ?_
   · rcases fF iK with ⟨rX, h⟩ | ⟨rX, h⟩
     · obtain ⟨x11, gU, h⟩ := aC h; refine .c (congrArg some rX) <| .a 1 <| .call (ad5 x8.1 x11 gU) amJ <| .a 1 <| .au ?_; obtain rfl := aB h; kernel_rfl
     refine .c (congrArg some rX) <| .a 3 <| .au ?_; obtain rfl := aB h; kernel_rfl
   refine .au <| SP.cnd h (fun h => ?_) fun h => ?_
   · obtain ⟨ig, tY, h⟩ := aC h; exact SP.bU <| .a 2 <| .p (bZ eH zero3 (by kernel_rfl) (by kernel_rfl) (Nat.le_of_ble_eq_true (by kernel_rfl)) [.d (eI x7)] [eI x7] (by kernel_rfl) (by kernel_rfl) (by kernel_rfl) (by kernel_rfl) rfl) <| .e [.dead, .box (dc (aA x8.1)), .arr 3 1 (List.map eI ig)] (dV (k := 0) eI tY eH (by kernel_rfl) (fun _ => rfl) (by decide) rfl) <| .a 1 <| .nil <| K6 _ ⟨ig, aF (mk 54 57379) [(2, true)], h⟩
   exact SP.skip <| K6 _ ⟨v1, aF (mk 54 57379) [(0, true)], h⟩
 refine SP.exit ?_; obtain ⟨x14, vV, h⟩ := aC h; refine SP.rg <| .a 2 <| .p (PV (dh := [.d ((eL aA) ay), .aO 0]) (dK := [.d ((eL aA) ay), .d (.sl (List.map eI v1))]) (GH ay v1 x14 vV) (fun x hx => by obtain ⟨a, _, rfl⟩ := List.mem_map.1 hx; rfl) afC ⟨rfl, ⟨3, 1, List.map eI v1, by kernel_rfl, rfl⟩, trivial⟩ rfl rfl) <| .a 1 <| .au <| SP.aJ <| SP.rg <| .a 1 <| .p (aW eI fV bT rfl) <| .a 1 <| .au <| SP.block ?_; refine SP.bn (acD x14 fV) _ _ _ _ (aF (mk 54 1924145349664) [(0, true)]) h ?_; clear h; intro J26 k17 aiy v15 v16 h; unfold EU at h; refine SP.rg <| .a 1 <| .au <| SP.aJ <| SP.cnd h (fun h => ?_) fun h => ?_
 · refine SP.skip ?_; refine SP.join (fun s => ∃ (v19 : (List Int)), Sub s (acE x14 fV v16 v19) ∧ AZ k17 v16 v19 = some r) ?_ ?_
   · clear h; rintro s ⟨v19, hs, h⟩; refine SP.sub hs ?_; clear hs; unfold AZ at h; refine SP.bU <| .a 2 <| .nil ?_; exact aiy _ _ _ (aF (mk 54 1924145349664) [(0, true)]) h
   intro K20; refine SP.block ?_; obtain ⟨x21, D9, h⟩ := aC h; refine SP.rg <| .p (aP (k := .i64) eI D9 bT iy (by kernel_rfl) rfl) <| .a 2 <| .au ?_; obtain ⟨yg, KQ, h⟩ := aC h; refine SP.rg <| .a 2 <| .call (XG x14 x21 yg KQ) ajp <| .au <| SP.cnd h (fun h => ?_) fun h => ?_
   · obtain ⟨x24, hx24, h⟩ := aC h; exact SP.bU <| .a 2 <| .p (bZ eH zero3 (by kernel_rfl) (by kernel_rfl) (Nat.le_of_ble_eq_true (by kernel_rfl)) [.d (eI x21)] [eI x21] (by kernel_rfl) (by kernel_rfl) (by kernel_rfl) (by kernel_rfl) rfl) <| .e [.dead, .arr 3 1 (List.map eI x24)] (dV (k := 0) eI hx24 eH (by kernel_rfl) (fun _ => rfl) (by decide) rfl) <| .a 1 <| .nil <| K20 _ ⟨x24, aF (mk 54 1924145349664) [(1, true)], h⟩
   exact SP.skip <| K20 _ ⟨v15, aF (mk 54 1924145349664) [(0, true)], h⟩
 refine SP.exit ?_; obtain ⟨x25, hx25, h⟩ := aC h; refine SP.rg <| .a 1 <| .e [.arr 3 1 (List.map eI v15), .arr 3 1 (List.map eI x25)] (tV (dh := [.aO 0]) (dK := [.d (.sl (List.map eI v15))]) (uU v15 x25 hx25) (fun x hx => by obtain ⟨a, _, rfl⟩ := List.mem_map.1 hx; rfl) Ue ⟨⟨3, 1, List.map eI v15, by kernel_rfl, rfl⟩, trivial⟩ rfl rfl) <| .a 1 <| .au ?_; rw [← aB h]; exact .ret (aU [(1, true)])
def kK (aN : (List aj)) : Option (List aj) := (fP 32 [] aN).bind fun x1 => some x1
theorem Ea (aN r) (h : kK aN = some r) : Runs Tryz.prog 90 [.d ((eL ak) aN)] [] (.aO 0) [.arr 45 3 (List.map ak r)] := by
 refine Runs.aT Tryz.func90 rfl ?_; unfold kK at h; refine SP.rg <| .e [.arr 45 3 (List.map ak [])] (aQ 45 3 rfl) <| .au <| SP.aJ <| SP.Pz (x := .tmp 3) (t' := 28) (d := 4) (es := List.map ak aN) 1 rfl (.a 1 <| .nil _) (by kernel_rfl) (by kernel_rfl) (by kernel_rfl) dO (by kernel_rfl) ?_; intro b hn2; cases b
 · clear hn2; refine SP.JD (by kernel_rfl) <| SP.skip ?_; obtain ⟨x1, hx1, h⟩ := aC h; refine SP.rg <| .e [.arr 45 3 (List.map ak []), .arr 45 3 (List.map ak [])] (jm CP Dc (by kernel_rfl) (by kernel_rfl) (Nat.le_of_ble_eq_true (by kernel_rfl)) [] [] (by kernel_rfl) (by kernel_rfl) (by kernel_rfl) (by kernel_rfl) rfl) <| .a 1 <| .e [.arr 45 3 (List.map ak []), .dead, .arr 45 3 (List.map ak x1)] (dV (k := 1) ak hx1 CP (by kernel_rfl) (fun _ => rfl) (by decide) rfl) <| .a 1 <| .au ?_; rw [← aB h]; exact .ret (aU [(2, true)])
 replace hn2 := Xn hn2; replace h : some [] = some r := by rw [hn2] at h; exact h
 refine SP.Px (by kernel_rfl) <| SP.rg <| .e [.arr 45 3 (List.map ak []), .arr 45 3 (List.map ak [])] (aQ 45 3 rfl) <| .au ?_; rw [← aB h]; exact .ret (aU [(1, true)])
def uV (tX : Int) : Option Bool := (bif decide (tX ≥ 1) then some (decide (tX ≤ 10)) else some false).bind fun x1 => some x1
theorem Eb (tX r) (h : uV tX = some r) : Runs Tryz.prog 149 [.d (eI tX)] [] (.d (eB r)) [] := by
 refine Runs.aT Tryz.func149 rfl ?_; unfold uV at h; refine SP.rg <| .a 1 <| .au <| SP.rg <| .a 2 <| ?_; obtain ⟨x1, hx1, h⟩ := aC h; refine .merge 4 [5, 6, 7] 8 (.d (eB x1)) ?_ ?_
 · rcases fF hx1 with ⟨hb2, h⟩ | ⟨hb2, h⟩
   · refine .c (congrArg some hb2) <| .a 3 <| .au ?_; obtain rfl := aB h; kernel_rfl
   refine .c (congrArg some hb2) <| .a 3 <| .au ?_; obtain rfl := aB h; kernel_rfl
 refine .a 1 <| .au ?_; rw [← aB h]; exact .ret (aU [])
def ad6 (ay : (List ah)) (aX : (List Int)) (v2 : (List ah)) (v3 : Int) : St := ⟨cu 32 [(0, .d ((eL aA) ay)), (5, .aO 0), (13, .d ((eL eI) aX)), (14, .d (eI (aX.length : Int))), (15, .d (eI v3))], [.arr 56 29 (List.map aA v2)], 0⟩
def ad7 (ay : (List ah)) (aX : (List Int)) (v3 : Int) (v6 : (List ah)) : St := ⟨cu 32 [(0, .d ((eL aA) ay)), (5, .aO 0), (13, .d ((eL eI) aX)), (14, .d (eI (aX.length : Int))), (15, .d (eI v3))], [.arr 56 29 (List.map aA v6)], 0⟩
def Dn (k4 : ((List ah) → Int → Option (List ah))) (v3 : Int) (v6 : (List ah)) : Option (List ah) := k4 v6 (IntKind.i64.wrap (v3 + 1))
def Ho (aX : (List Int)) (ay : (List ah)) (k4 : ((List ah) → Int → Option (List ah))) : (List ah) → Int → Option (List ah) := fun v2 v3 => (bif decide (v3 < (aX.length : Int)) then (bf aX v3).bind fun x8 => (l7 ay x8).bind fun x9 => (bif x9.2 then (fP 376 v2 [x9.1]).bind fun x11 => Dn k4 v3 x11 else Dn k4 v3 v2) else some v2)
def U5 (aX : (List Int)) (ay : (List ah)) : (List ah) → Int → Option (List ah) := bn (Ho aX ay) fuel
def KU (ay : (List ah)) (aX : (List Int)) : Option (List ah) := (vY 376 dB 0 (aX.length : Int)).bind fun x1 => U5 aX ay x1 0
theorem ad8 (ay aX r) (h : KU ay aX = some r) : Runs Tryz.prog 172 [.d ((eL aA) ay), .d ((eL eI) aX)] [] (.aO 0) [.arr 56 29 (List.map aA r)] := by
 refine Runs.aT Tryz.func172 rfl ?_; unfold KU at h; refine SP.rg <| .e [.arr 56 29 (List.map aA [])] (aQ 56 29 rfl) <| .au ?_; obtain ⟨x1, hx1, h⟩ := aC h; refine SP.rg <| .a 1 <| .p (aW eI aX bT rfl) <| .e [.arr 56 29 (List.map aA []), .arr 56 29 (List.map aA x1)] (TT aA dB hx1 PZ Iz (by kernel_rfl) (by kernel_rfl) (by kernel_rfl) (by decide) rfl) <| .a 1 <| .au <| SP.aJ <| SP.rg <| .a 1 <| .p (aW eI aX bT rfl) <| .a 1 <| .au <| SP.block ?_; refine SP.bn (ad6 ay aX) _ _ _ _ (aF (mk 32 57377) [(1, true)]) h ?_; clear h; intro J12 k4 hk4 v2 v3 h; unfold Ho at h; refine SP.rg <| .a 1 <| .au <| SP.aJ <| SP.cnd h (fun h => ?_) fun h => ?_
 · refine SP.skip ?_; refine SP.join (fun s => ∃ (v6 : (List ah)), Sub s (ad7 ay aX v3 v6) ∧ Dn k4 v3 v6 = some r) ?_ ?_
   · clear h; rintro s ⟨v6, hs, h⟩; refine SP.sub hs ?_; clear hs; unfold Dn at h; refine SP.bU <| .a 2 <| .nil ?_; exact hk4 _ _ _ (aF (mk 32 57377) [(0, true)]) h
   intro K7; refine SP.block ?_; obtain ⟨x8, je, h⟩ := aC h; refine SP.rg <| .p (aP (k := .i64) eI je bT iy (by kernel_rfl) rfl) <| .a 2 <| .au ?_; obtain ⟨x9, iK, h⟩ := aC h; refine SP.rg <| .a 2 <| .call (mJ ay x8 x9 iK) G9 <| .a 6 <| .au <| SP.rg <| .a 1 <| .au <| SP.cnd h (fun h => ?_) fun h => ?_
   · obtain ⟨x11, gU, h⟩ := aC h; exact SP.bU <| .a 2 <| .p (bZ PZ Iz (by kernel_rfl) (by kernel_rfl) (Nat.le_of_ble_eq_true (by kernel_rfl)) [.d (aA x9.1)] [aA x9.1] (by kernel_rfl) (by kernel_rfl) (by kernel_rfl) (by kernel_rfl) rfl) <| .e [.dead, .box (dc (aA x9.1)), .arr 56 29 (List.map aA x11)] (dV (k := 0) aA gU PZ (by kernel_rfl) (fun _ => rfl) (by decide) rfl) <| .a 1 <| .nil <| K7 _ ⟨x11, aF (mk 32 57377) [(2, true)], h⟩
   exact SP.skip <| K7 _ ⟨v2, aF (mk 32 57377) [(0, true)], h⟩
 refine SP.exit <| SP.rg <| .a 2 <| .au ?_; rw [← aB h]; exact .ret (aU [(0, true)])
def XH (aN : (List aj)) (x4 : (List aj)) (v5 : Int) : St := ⟨cu 39 [(0, .d ((eL ak) aN)), (9, .d (eI v5)), (11, .aO 0)], [.arr 45 3 (List.map ak x4)], 0⟩
def vH (aN : (List aj)) (x4 : (List aj)) (v5 : Int) : Option (List aj) := (yx aN v5 ((aN).length)).bind fun x6 => (fP 32 x4 x6).bind fun x7 => some x7
def jU (aN : (List aj)) (dY : Int) (eU : ByteArray) (Uj : Int) : Option (List aj) := (uT aN dY eU).bind fun x1 => (yx aN 0 x1.1).bind fun x2 => (fP 32 [] x2).bind fun x3 => (fP 32 x3 [(⟨dY, eU, Uj⟩ : aj)]).bind fun x4 => (bif x1.2 then vH aN x4 (IntKind.i64.wrap (x1.1 + 1)) else vH aN x4 x1.1)
theorem oJ (aN dY eU Uj r) (h : jU aN dY eU Uj = some r) : Runs Tryz.prog 46 [.d ((eL ak) aN), .d (eI dY), .d (eS eU), .d (eI Uj)] [] (.aO 0) [.arr 45 3 (List.map ak r)] := by
 refine Runs.aT Tryz.func46 rfl ?_; unfold jU at h; refine SP.rg <| .e [.arr 45 3 (List.map ak [])] (aQ 45 3 rfl) <| .au ?_; obtain ⟨x1, hx1, h⟩ := aC h; refine SP.rg <| .a 3 <| .call (KP aN dY eU x1 hx1) ajm <| .a 5 <| .au ?_; obtain ⟨x2, hx2, x3, hx3, h⟩ := aY h; refine SP.rg <| .e [.arr 45 3 (List.map ak []), .arr 45 3 (List.map ak [])] (jm CP Dc (by kernel_rfl) (by kernel_rfl) (Nat.le_of_ble_eq_true (by kernel_rfl)) [] [] (by kernel_rfl) (by kernel_rfl) (by kernel_rfl) (by kernel_rfl) rfl) <| .a 2 <| .p (Gs ak hx2 (fun _ => rfl) (by intro hh; cases hh) dO iH (fun _ => rfl) rfl) <| .e [.arr 45 3 (List.map ak []), .dead, .arr 45 3 (List.map ak x3)] (dV (k := 1) ak hx3 CP (by kernel_rfl) (fun _ => rfl) (by decide) rfl) <| .a 1 <| .au ?_; obtain ⟨x4, hx4, h⟩ := aC h; refine SP.rg <| .a 5 <| .p (bZ CP Dc (by kernel_rfl) (by kernel_rfl) (Nat.le_of_ble_eq_true (by kernel_rfl)) [.d (ak (⟨dY, eU, Uj⟩ : aj))] [ak (⟨dY, eU, Uj⟩ : aj)] (by kernel_rfl) (by kernel_rfl) (by kernel_rfl) (by kernel_rfl) rfl) <| .e [.arr 45 3 (List.map ak []), .dead, .dead, .arr 45 3 (List.map ak x4)] (dV (k := 2) ak hx4 CP (by kernel_rfl) (fun _ => rfl) (by decide) rfl) <| .a 1 <| .au ?_; refine SP.join (fun s => ∃ (v5 : Int), Sub s (XH aN x4 v5) ∧ vH aN x4 v5 = some r) ?_ ?_
 · clear h; rintro s ⟨v5, hs, h⟩; refine SP.sub hs ?_; clear hs; unfold vH at h; obtain ⟨x6, hx6, x7, hx7, h⟩ := aY h; refine SP.rg <| .a 3 <| .p (Gs ak hx6 (by intro hh; cases hh) (fun _ => rfl) dO iH (fun _ => rfl) rfl) <| .e [.dead, .arr 45 3 (List.map ak x7)] (dV (k := 0) ak hx7 CP (by kernel_rfl) (fun _ => rfl) (by decide) rfl) <| .a 1 <| .au ?_; rw [← aB h]; exact .ret (aU [(1, true)])
 intro K8; refine SP.rg <| .a 1 <| .au <| SP.cnd h (fun h => ?_) fun h => ?_
 · exact SP.bU <| .a 3 <| .nil <| K8 _ ⟨(IntKind.i64.wrap (x1.1 + 1)), aF (mk 39 2561) [(3, true)], h⟩
 exact SP.skip <| K8 _ ⟨x1.1, aF (mk 39 2561) [(3, true)], h⟩
def XI (v5 : (List aj)) : St := ⟨cu 39 [(3, .aO 0)], [.arr 45 3 (List.map ak v5)], 0⟩
def oK (v5 : (List aj)) : Option (List aj) := some v5
def wX (aS : ah) : Option (List aj) := (bif (aS.Kind == 1) then some [] else (jU [] 1 s0 0).bind fun x2 => (jU x2 3 s0 0).bind fun x3 => (jU x3 2 aS.bC 0).bind fun x4 => (bif (aS.Kind == 2) then (jU x4 2 aS.Key 0).bind fun x8 => (bif (aS.Content.N == 3) then some true else some (aS.Content.N == 1)).bind fun x9 => (bif x9 then some true else some (aS.Content.N == 2)).bind fun x11 => (bif x11 then (jU x8 4 s0 0).bind fun x14 => oK x14 else oK x8) else oK x4))
theorem MQ (aS r) (h : wX aS = some r) : Runs Tryz.prog 173 [.d (aA aS)] [] (.aO 0) [.arr 45 3 (List.map ak r)] := by
 refine Runs.aT Tryz.func173 rfl ?_; unfold wX at h; refine SP.rg <| .a 1 <| .e [.box (dc (aA aS)), .arr 45 3 (List.map ak [])] (aQ 45 3 rfl) <| .au <| SP.aJ <| SP.rg <| .a 3 <| .au <| SP.cnd h (fun h => ?_) fun h => ?_
 · refine SP.rg <| .e [.box (dc (aA aS)), .arr 45 3 (List.map ak []), .arr 45 3 (List.map ak [])] (aQ 45 3 rfl) <| .au ?_; rw [← aB h]; exact .ret (aU [(2, true)])
 refine SP.skip <| SP.rg <| .e [.box (dc (aA aS)), .arr 45 3 (List.map ak []), .arr 45 3 (List.map ak [])] (aQ 45 3 rfl) <| .au ?_; obtain ⟨x2, hx2, h⟩ := aC h; refine SP.rg <| .a 1 <| .e [.box (dc (aA aS)), .arr 45 3 (List.map ak []), .arr 45 3 (List.map ak []), .arr 45 3 (List.map ak x2)] (tV (dh := [.aO 2, .d (eI 1), .d (eS s0), .d (eI 0)]) (dK := [.d (.sl (List.map ak [])), .d (eI 1), .d (eS s0), .d (eI 0)]) (oJ [] 1 s0 0 x2 hx2) (fun x hx => by obtain ⟨a, _, rfl⟩ := List.mem_map.1 hx; rfl) P5 ⟨⟨45, 3, List.map ak [], by kernel_rfl, rfl⟩, rfl, rfl, rfl, trivial⟩ rfl rfl) <| .a 1 <| .au ?_; obtain ⟨x3, hx3, h⟩ := aC h; refine SP.rg <| .a 1 <| .e [.box (dc (aA aS)), .arr 45 3 (List.map ak []), .arr 45 3 (List.map ak []), .arr 45 3 (List.map ak x2), .arr 45 3 (List.map ak x3)] (tV (dh := [.aO 3, .d (eI 3), .d (eS s0), .d (eI 0)]) (dK := [.d (.sl (List.map ak x2)), .d (eI 3), .d (eS s0), .d (eI 0)]) (oJ x2 3 s0 0 x3 hx3) (fun x hx => by obtain ⟨a, _, rfl⟩ := List.mem_map.1 hx; rfl) P5 ⟨⟨45, 3, List.map ak x2, by kernel_rfl, rfl⟩, rfl, rfl, rfl, trivial⟩ rfl rfl) <| .a 1 <| .au ?_; obtain ⟨x4, hx4, h⟩ := aC h; refine SP.rg <| .a 3 <| .e [.box (dc (aA aS)), .arr 45 3 (List.map ak []), .arr 45 3 (List.map ak []), .arr 45 3 (List.map ak x2), .arr 45 3 (List.map ak x3), .arr 45 3 (List.map ak x4)] (tV (dh := [.aO 4, .d (eI 2), .d (eS aS.bC), .d (eI 0)]) (dK := [.d (.sl (List.map ak x3)), .d (eI 2), .d (eS aS.bC), .d (eI 0)]) (oJ x3 2 aS.bC 0 x4 hx4) (fun x hx => by obtain ⟨a, _, rfl⟩ := List.mem_map.1 hx; rfl) P5 ⟨⟨45, 3, List.map ak x3, by kernel_rfl, rfl⟩, rfl, rfl, rfl, trivial⟩ rfl rfl) <| .a 1 <| .au ?_; refine SP.join (fun s => ∃ (v5 : (List aj)), Sub s (XI v5) ∧ oK v5 = some r) ?_ ?_
 · clear h; rintro s ⟨v5, hs, h⟩; refine SP.sub hs ?_; clear hs; unfold oK at h; refine SP.rg <| .a 2 <| .au ?_; rw [← aB h]; exact .ret (aU [(0, true)])
 intro K6; refine SP.rg <| .a 3 <| .au <| SP.cnd h (fun h => ?_) fun h => ?_
 · obtain ⟨x8, je, h⟩ := aC h; refine SP.rg <| .a 3 <| .e [.box (dc (aA aS)), .arr 45 3 (List.map ak []), .arr 45 3 (List.map ak []), .arr 45 3 (List.map ak x2), .arr 45 3 (List.map ak x3), .arr 45 3 (List.map ak x4), .arr 45 3 (List.map ak x8)] (tV (dh := [.aO 5, .d (eI 2), .d (eS aS.Key), .d (eI 0)]) (dK := [.d (.sl (List.map ak x4)), .d (eI 2), .d (eS aS.Key), .d (eI 0)]) (oJ x4 2 aS.Key 0 x8 je) (fun x hx => by obtain ⟨a, _, rfl⟩ := List.mem_map.1 hx; rfl) P5 ⟨⟨45, 3, List.map ak x4, by kernel_rfl, rfl⟩, rfl, rfl, rfl, trivial⟩ rfl rfl) <| .a 1 <| .au <| SP.rg <| .a 4 <| .au <| SP.rg <| .a 2 <| ?_; obtain ⟨x9, iK, h⟩ := aC h; refine .merge 4 [28, 29, 30] 31 (.d (eB x9)) ?_ ?_
   · rcases fF iK with ⟨rX, h⟩ | ⟨rX, h⟩
     · refine .c (congrArg some rX) <| .a 3 <| .au ?_; obtain rfl := aB h; kernel_rfl
     refine .c (congrArg some rX) <| .a 3 <| .au ?_; obtain rfl := aB h; kernel_rfl
   refine .a 1 <| ?_; obtain ⟨x11, gU, h⟩ := aC h; refine .merge 3 [33, 34] 35 (.d (eB x11)) ?_ ?_
   · replace h := gU; cases x9 with
     | true =>
       replace h := bI rfl h; refine .a 3 <| .au ?_; obtain rfl := aB h; kernel_rfl
     | false =>
       replace h := bG rfl h; refine .a 3 <| .au ?_; obtain rfl := aB h; kernel_rfl
   refine .au <| SP.cnd h (fun h => ?_) fun h => ?_
   · obtain ⟨x14, vV, h⟩ := aC h; exact SP.bU <| .a 1 <| .e [.box (dc (aA aS)), .arr 45 3 (List.map ak []), .arr 45 3 (List.map ak []), .arr 45 3 (List.map ak x2), .arr 45 3 (List.map ak x3), .arr 45 3 (List.map ak x4), .arr 45 3 (List.map ak x8), .arr 45 3 (List.map ak x14)] (tV (dh := [.aO 6, .d (eI 4), .d (eS s0), .d (eI 0)]) (dK := [.d (.sl (List.map ak x8)), .d (eI 4), .d (eS s0), .d (eI 0)]) (oJ x8 4 s0 0 x14 vV) (fun x hx => by obtain ⟨a, _, rfl⟩ := List.mem_map.1 hx; rfl) P5 ⟨⟨45, 3, List.map ak x8, by kernel_rfl, rfl⟩, rfl, rfl, rfl, trivial⟩ rfl rfl) <| .a 1 <| .nil <| K6 _ ⟨x14, aF (mk 39 8) [(7, true)], h⟩
   exact SP.skip <| K6 _ ⟨x8, aF (mk 39 8) [(6, true)], h⟩
 exact SP.skip <| K6 _ ⟨x4, aF (mk 39 8) [(5, true)], h⟩
def uX (aS : ah) (c0 : aj) : Option Bool := (bif (aS.Kind == c0.Kind) then some (aS.Key.toList == c0.Key.toList) else some false).bind fun x1 => some x1
theorem V3 (aS c0 r) (h : uX aS c0 = some r) : Runs Tryz.prog 186 [.d (aA aS), .d (.ref (ak c0).cells 0)] [] (.d (eB r)) [] := by
 refine Runs.aT Tryz.func186 rfl ?_; unfold uX at h; refine SP.rg <| .a 2 <| .au <| SP.rg <| .a 5 <| ?_; obtain ⟨x1, hx1, h⟩ := aC h; refine .merge 7 [9, 10, 11, 12, 13, 14] 15 (.d (eB x1)) ?_ ?_
 · rcases fF hx1 with ⟨hb2, h⟩ | ⟨hb2, h⟩
   · refine .c (congrArg some hb2) <| .a 6 <| .au ?_; obtain rfl := aB h; kernel_rfl
   refine .c (congrArg some hb2) <| .a 6 <| .au ?_; obtain rfl := aB h; kernel_rfl
 refine .a 1 <| .au ?_; rw [← aB h]; exact .ret (aU [])
def Dp (ay : (List ah)) (rF : aj) : Option (ah × Bool) := (fJ ay (fun a0 => uX a0 rF)).bind fun x1 => (bif decide (x1 < 0) then some (dB, false) else (bf ay x1).bind fun x3 => some (x3, true))
theorem Y9 (ay rF r) (h : Dp ay rF = some r) : Runs Tryz.prog 174 [.d ((eL aA) ay), .d (ak rF)] [] (.dW [.d (aA r.1), .d (eB r.2)]) [] := by
 refine Runs.aT Tryz.func174 rfl ?_; unfold Dp at h; refine SP.rg <| .a 3 <| .au ?_; obtain ⟨x1, hx1, h⟩ := aC h; refine SP.rg <| .a 1 <| .conv _ (oC (cs := dc (ak rF)) 0 (by kernel_rfl) (by kernel_rfl)) <| .p (x := .d (.fn (.func 186) [] [(.ref (ak rF).cells 0)])) (qj [(.ref (ak rF).cells 0)] rfl rfl) <| .call (kR ay (fun a0 => uX a0 rF) (.fn (.func 186) [] [(.ref (ak rF).cells 0)]) ⟨186, [(.ref (ak rF).cells 0)], rfl, ak7, fun a0 b hb => V3 a0 rF b hb⟩ x1 hx1) acd <| .a 1 <| .au <| SP.aJ <| SP.rg <| .a 2 <| .au <| SP.cnd h (fun h => ?_) fun h => ?_
 · refine SP.rg <| .a 3 <| .au <| SP.ret ?_; rw [← aB h]; exact ⟨[.d (aA dB), .d (eB false)], [], ⟨⟨1, dc (aA dB), true, 29, by kernel_rfl, by kernel_rfl, by kernel_rfl, oI, Nat.le_of_ble_eq_true (by kernel_rfl), (by intro hh; cases hh), by kernel_rfl⟩, rC (by kernel_rfl), trivial⟩, by kernel_rfl, by kernel_rfl, by kernel_rfl⟩
 refine SP.skip ?_; obtain ⟨x3, hx3, h⟩ := aC h; refine SP.rg <| .a 2 <| .p (aP (k := .i64) aA hx3 jH oI (by kernel_rfl) rfl) <| .a 3 <| .au <| SP.ret ?_; rw [← aB h]; exact ⟨[.d (aA x3), .d (eB true)], [], ⟨⟨1, dc (aA x3), true, 29, by kernel_rfl, by kernel_rfl, by kernel_rfl, oI, Nat.le_of_ble_eq_true (by kernel_rfl), (by intro hh; cases hh), by kernel_rfl⟩, rC (by kernel_rfl), trivial⟩, by kernel_rfl, by kernel_rfl, by kernel_rfl⟩
def XJ (ay : (List ah)) (dF : (List aj)) (x1 : (List ah)) (x3 : (List aj)) (v4 : (List ah)) (v5 : Int) : St := ⟨cu 56 [(0, .d ((eL aA) ay)), (1, .d ((eL ak) dF)), (7, .d ((eL aA) x1)), (8, .aO 0), (21, .d ((eL ak) x3)), (22, .d (eI (x3.length : Int))), (23, .d (eI v5))], [.arr 56 29 (List.map aA v4)], 0⟩
def XK (ay : (List ah)) (dF : (List aj)) (x1 : (List ah)) (x3 : (List aj)) (v5 : Int) (v8 : (List ah)) : St := ⟨cu 56 [(0, .d ((eL aA) ay)), (1, .d ((eL ak) dF)), (7, .d ((eL aA) x1)), (8, .aO 0), (21, .d ((eL ak) x3)), (22, .d (eI (x3.length : Int))), (23, .d (eI v5))], [.arr 56 29 (List.map aA v8)], 0⟩
def XL (ay : (List ah)) (dF : (List aj)) (x1 : (List ah)) (x3 : (List aj)) (v5 : Int) (v12 : Bool) (v13 : (List ah)) (v14 : ah) : St := ⟨cu 56 [(0, .d ((eL aA) ay)), (1, .d ((eL ak) dF)), (7, .d ((eL aA) x1)), (8, .aO 0), (11, .ptr 1 0), (12, .d (eB v12)), (21, .d ((eL ak) x3)), (22, .d (eI (x3.length : Int))), (23, .d (eI v5))], [.arr 56 29 (List.map aA v13), .box (dc (aA v14))], 0⟩
def vI (k6 : ((List ah) → Int → Option (List ah))) (v5 : Int) (v8 : (List ah)) : Option (List ah) := k6 v8 (IntKind.i64.wrap (v5 + 1))
def vJ (k6 : ((List ah) → Int → Option (List ah))) (v5 : Int) (v12 : Bool) (v13 : (List ah)) (v14 : ah) : Option (List ah) := (bif v12 then (fP 376 v13 [v14]).bind fun x16 => vI k6 v5 x16 else vI k6 v5 v13)
def Ac (x3 : (List aj)) (x1 : (List ah)) (dF : (List aj)) (ay : (List ah)) (k6 : ((List ah) → Int → Option (List ah))) : (List ah) → Int → Option (List ah) := fun v4 v5 => (bif decide (v5 < (x3.length : Int)) then (bf x3 v5).bind fun x10 => (Dp x1 x10).bind fun x11 => (tZ dF x10.Kind x10.Key).bind fun x18 => (bif x18.2 then (l7 ay x18.1).bind fun x20 => vJ k6 v5 x20.2 v4 x20.1 else vJ k6 v5 x11.2 v4 x11.1) else some v4)
def MR (x3 : (List aj)) (x1 : (List ah)) (dF : (List aj)) (ay : (List ah)) : (List ah) → Int → Option (List ah) := bn (Ac x3 x1 dF ay) fuel
def A8 (ay : (List ah)) (dF : (List aj)) (Qd : ah) : Option (List ah) := (KU ay Qd.fH).bind fun x1 => (vY 376 dB 0 5).bind fun x2 => (wX Qd).bind fun x3 => MR x3 x1 dF ay x2 0
theorem XM (ay dF Qd r) (h : A8 ay dF Qd = some r) : Runs Tryz.prog 151 [.d ((eL aA) ay), .d ((eL ak) dF), .d (aA Qd)] [] (.aO 0) [.arr 56 29 (List.map aA r)] := by
 refine Runs.aT Tryz.func151 rfl ?_; unfold A8 at h; refine SP.rg <| .a 1 <| .e [.box (dc (aA Qd)), .arr 56 29 (List.map aA [])] (aQ 56 29 rfl) <| .au ?_; obtain ⟨x1, hx1, h⟩ := aC h; refine SP.rg <| .a 3 <| .call (ad8 ay Qd.fH x1 hx1).view ak8 <| .a 1 <| .au ?_; obtain ⟨x2, hx2, h⟩ := aC h; refine SP.rg <| .e [.box (dc (aA Qd)), .arr 56 29 (List.map aA []), .arr 56 29 (List.map aA x2)] (TT aA dB hx2 PZ Iz (by kernel_rfl) (by kernel_rfl) (by kernel_rfl) (by decide) rfl) <| .a 1 <| .au <| SP.aJ ?_; obtain ⟨x3, hx3, h⟩ := aC h; refine SP.rg <| .a 1 <| .call (MQ Qd x3 hx3).view ag5 <| .p (aW ak x3 MO rfl) <| .a 1 <| .au <| SP.block ?_; refine SP.bn (XJ ay dF x1 x3) _ _ _ _ (aF (mk 56 14680451) [(2, true)]) h ?_; clear h; intro J21 k6 hk6 v4 v5 h; unfold Ac at h; refine SP.rg <| .a 1 <| .au <| SP.aJ <| SP.cnd h (fun h => ?_) fun h => ?_
 · refine SP.skip ?_; refine SP.join (fun s => ∃ (v8 : (List ah)), Sub s (XK ay dF x1 x3 v5 v8) ∧ vI k6 v5 v8 = some r) ?_ ?_
   · clear h; rintro s ⟨v8, hs, h⟩; refine SP.sub hs ?_; clear hs; unfold vI at h; refine SP.bU <| .a 2 <| .nil ?_; exact hk6 _ _ _ (aF (mk 56 14680451) [(0, true)]) h
   intro K9; refine SP.block ?_; obtain ⟨x10, lD, h⟩ := aC h; refine SP.rg <| .p (aP (k := .i64) ak lD MO iH (by kernel_rfl) rfl) <| .a 3 <| .au ?_; obtain ⟨x11, gU, h⟩ := aC h; refine SP.rg <| .a 2 <| .call (Y9 x1 x10 x11 gU) ak9 <| .a 6 <| .au ?_; refine SP.join (fun s => ∃ (v12 : Bool) (v13 : (List ah)) (v14 : ah), Sub s (XL ay dF x1 x3 v5 v12 v13 v14) ∧ vJ k6 v5 v12 v13 v14 = some r) ?_ ?_
   · clear h; rintro s ⟨v12, v13, v14, hs, h⟩; refine SP.sub hs ?_; clear hs; unfold vJ at h; refine SP.rg <| .a 1 <| .au <| SP.cnd h (fun h => ?_) fun h => ?_
     · obtain ⟨x16, hx16, h⟩ := aC h; exact SP.bU <| .a 2 <| .p (bZ PZ Iz (by kernel_rfl) (by kernel_rfl) (Nat.le_of_ble_eq_true (by kernel_rfl)) [.d (aA v14)] [aA v14] (by kernel_rfl) (by kernel_rfl) (by kernel_rfl) (by kernel_rfl) rfl) <| .e [.dead, .box (dc (aA v14)), .arr 56 29 (List.map aA x16)] (dV (k := 0) aA hx16 PZ (by kernel_rfl) (fun _ => rfl) (by decide) rfl) <| .a 1 <| .nil <| K9 _ ⟨x16, aF (mk 56 14680451) [(2, true)], h⟩
     exact SP.skip <| K9 _ ⟨v13, aF (mk 56 14680451) [(0, true)], h⟩
   intro K17; obtain ⟨x18, pV, h⟩ := aC h; refine SP.rg <| .a 5 <| .call (ET dF x10.Kind x10.Key x18 pV) afz <| .a 5 <| .au <| SP.rg <| .a 1 <| .au <| SP.cnd h (fun h => ?_) fun h => ?_
   · obtain ⟨x20, CQ, h⟩ := aC h; exact SP.bU <| .a 2 <| .call (mJ ay x18.1 x20 CQ) G9 <| .a 5 <| .nil <| K17 _ ⟨x20.2, v4, x20.1, aF (mk 56 14686595) [(0, true), (2, true)], h⟩
   exact SP.skip <| K17 _ ⟨x11.2, v4, x11.1, aF (mk 56 14686595) [(0, true), (2, true)], h⟩
 refine SP.exit <| SP.rg <| .a 2 <| .au ?_; rw [← aB h]; exact .ret (aU [(0, true)])
def XO (ay : (List ah)) (v1 : Int) (v2 : ah) : St := ⟨cu 18 [(2, .ptr 0 0), (6, .d ((eL aA) ay)), (7, .d (eI (ay.length : Int))), (8, .d (eI v1))], [.box (dc (aA v2))], 0⟩
def Ad (ay : (List ah)) (k3 : (Int → ah → Option (ah × Bool))) : Int → ah → Option (ah × Bool) := fun v1 v2 => (bif decide (v1 < (ay.length : Int)) then (bf ay v1).bind fun x5 => (bif (x5.Kind == 1) then some (x5, true) else k3 (IntKind.i64.wrap (v1 + 1)) v2) else some (dB, false))
def MS (ay : (List ah)) : Int → ah → Option (ah × Bool) := bn (Ad ay) fuel
def wY (ay : (List ah)) : Option (ah × Bool) := MS ay 0 dB
theorem MV (ay r) (h : wY ay = some r) : Runs Tryz.prog 165 [.d ((eL aA) ay)] [] (.dW [.d (aA r.1), .d (eB r.2)]) [] := by
 refine Runs.aT Tryz.func165 rfl ?_; unfold wY at h; refine SP.rg <| .a 2 <| .au <| SP.aJ <| SP.rg <| .a 1 <| .p (aW aA ay jH rfl) <| .a 1 <| .au <| SP.block ?_; refine SP.bn (XO ay) _ _ _ _ (aF (mk 18 452) [(0, true)]) h ?_; clear h; intro J7 k3 hk3 v1 v2 h; unfold Ad at h; refine SP.rg <| .a 1 <| .au <| SP.aJ <| SP.cnd h (fun h => ?_) fun h => ?_
 · refine SP.skip <| SP.aJ <| SP.block ?_; obtain ⟨x5, hx5, h⟩ := aC h; refine SP.rg <| .p (aP (k := .i64) aA hx5 jH oI (by kernel_rfl) rfl) <| .a 3 <| .au <| SP.rg <| .a 3 <| .au <| SP.cnd h (fun h => ?_) fun h => ?_
   · refine SP.rg <| .a 3 <| .au <| SP.ret ?_; rw [← aB h]; exact ⟨[.d (aA x5), .d (eB true)], [], ⟨⟨0, dc (aA x5), true, 29, by kernel_rfl, by kernel_rfl, by kernel_rfl, oI, Nat.le_of_ble_eq_true (by kernel_rfl), (by intro hh; cases hh), by kernel_rfl⟩, rC (by kernel_rfl), trivial⟩, by kernel_rfl, by kernel_rfl, by kernel_rfl⟩
   refine SP.skip <| SP.bU <| .a 2 <| .nil ?_; exact hk3 _ _ _ (aF (mk 18 452) [(0, true)]) h
 refine SP.exit <| SP.rg <| .a 3 <| .au <| SP.ret ?_; rw [← aB h]; exact ⟨[.d (aA dB), .d (eB false)], [], ⟨⟨0, dc (aA dB), true, 29, by kernel_rfl, by kernel_rfl, by kernel_rfl, oI, Nat.le_of_ble_eq_true (by kernel_rfl), (by intro hh; cases hh), by kernel_rfl⟩, rC (by kernel_rfl), trivial⟩, by kernel_rfl, by kernel_rfl, by kernel_rfl⟩
def oL (aN : ByteArray) (zn : ByteArray) : Option (ByteArray × ByteArray × Bool) := (mQ aN zn).bind fun x1 => (bif decide (x1 ≥ 0) then (Au aN 0 x1).bind fun x3 => (Au aN (IntKind.i64.wrap (x1 + (zn.size : Int))) ((aN).size)).bind fun x4 => some (x3, x4, true) else some (aN, s0, false))
theorem IJ (aN zn r) (h : oL aN zn = some r) : Runs Tryz.prog 201 [.d (eS aN), .d (eS zn)] [] (.dW [.d (eS r.1), .d (eS r.2.1), .d (eB r.2.2)]) [] := by
 refine Runs.aT Tryz.func201 rfl ?_; unfold oL at h; refine SP.rg <| .a 3 <| .au <| SP.aJ ?_; obtain ⟨x1, hx1, h⟩ := aC h; refine SP.rg <| .a 2 <| .call (Gf aN zn x1 hx1) alb <| .a 1 <| .au <| SP.rg <| .a 2 <| .au <| SP.cnd h (fun h => ?_) fun h => ?_
 · obtain ⟨x3, hx3, x4, hx4, h⟩ := aY h; refine SP.yA (by kernel_rfl) (by kernel_rfl) (by kernel_rfl) (.a 2 <| .p (YP hx3 (fun _ => rfl) (by intro hh; cases hh) KI rfl) <| .a 5 <| .p (YP hx4 (by intro hh; cases hh) (fun _ => rfl) KI rfl) <| .a 3 <| .nil _) ?_; rw [← aB h]; exact .ret (aU [])
 refine SP.skip <| SP.rg <| .a 4 <| .au ?_; rw [← aB h]; exact .ret (aU [])
def strings_Cut (aN : ByteArray) (zn : ByteArray) : Option (ByteArray × ByteArray × Bool) := (oL aN zn).bind fun x1 => some (x1.1, x1.2.1, x1.2.2)
theorem Za (aN zn r) (h : strings_Cut aN zn = some r) : Runs Tryz.prog 188 [.d (eS aN), .d (eS zn)] [] (.dW [.d (eS r.1), .d (eS r.2.1), .d (eB r.2.2)]) [] := by
 refine Runs.aT Tryz.func188 rfl ?_; unfold strings_Cut at h; refine SP.rg <| .a 3 <| .au ?_; obtain ⟨x1, hx1, h⟩ := aC h; refine SP.rg <| .a 2 <| .call (IJ aN zn x1 hx1) alc <| .a 6 <| .au ?_; rw [← aB h]; exact .ret (aU [])
def vK (qE : Int) : Option Bool := (bif decide (qE ≥ 97) then some (decide (qE ≤ 122)) else some false).bind fun x1 => (bif x1 then some true else (bif decide (qE ≥ 48) then some (decide (qE ≤ 57)) else some false).bind fun x5 => some x5).bind fun x3 => some x3
theorem DW (qE r) (h : vK qE = some r) : Runs Tryz.prog 205 [.d (eU8 qE)] [] (.d (eB r)) [] := by
 refine Runs.aT Tryz.func205 rfl ?_; unfold vK at h; refine SP.rg <| .a 1 <| .au <| SP.rg <| .a 2 <| ?_; obtain ⟨x1, hx1, h⟩ := aC h; refine .merge 4 [5, 6, 7] 8 (.d (eB x1)) ?_ ?_
 · rcases fF hx1 with ⟨hb2, h⟩ | ⟨hb2, h⟩
   · refine .c (congrArg some hb2) <| .a 3 <| .au ?_; obtain rfl := aB h; kernel_rfl
   refine .c (congrArg some hb2) <| .a 3 <| .au ?_; obtain rfl := aB h; kernel_rfl
 refine .a 1 <| ?_; obtain ⟨x3, hx3, h⟩ := aC h; refine .merge 7 [10, 11, 12, 13, 14, 15] 16 (.d (eB x3)) ?_ ?_
 · replace h := hx3; cases x1 with
   | true =>
     replace h := bI rfl h; refine .a 7 <| .au ?_; obtain rfl := aB h; kernel_rfl
   | false =>
     replace h := bG rfl h; refine .a 2 <| ?_; obtain ⟨x5, hx5, h⟩ := aC h; refine .merge 4 [12, 13, 14] 15 (.d (eB x5)) ?_ ?_
     · rcases fF hx5 with ⟨hb6, h⟩ | ⟨hb6, h⟩
       · refine .c (congrArg some hb6) <| .a 3 <| .au ?_; obtain rfl := aB h; kernel_rfl
       refine .c (congrArg some hb6) <| .a 3 <| .au ?_; obtain rfl := aB h; kernel_rfl
     refine .a 1 <| .au ?_; obtain rfl := aB h; kernel_rfl
 refine .a 1 <| .au ?_; rw [← aB h]; exact .ret (aU [])
def zK (qE : Int) : Option Bool := (bif (qE == 95) then some true else some (qE == 46)).bind fun x1 => (bif x1 then some true else some (qE == 45)).bind fun x3 => (bif x3 then some true else some (qE == 61)).bind fun x5 => some x5
theorem Zb (qE r) (h : zK qE = some r) : Runs Tryz.prog 203 [.d (eU8 qE)] [] (.d (eB r)) [] := by
 refine Runs.aT Tryz.func203 rfl ?_; unfold zK at h; refine SP.rg <| .a 1 <| .au <| SP.rg <| .a 2 <| ?_; obtain ⟨x1, hx1, h⟩ := aC h; refine .merge 4 [5, 6, 7] 8 (.d (eB x1)) ?_ ?_
 · rcases fF hx1 with ⟨hb2, h⟩ | ⟨hb2, h⟩
   · refine .c (congrArg some hb2) <| .a 3 <| .au ?_; obtain rfl := aB h; kernel_rfl
   refine .c (congrArg some hb2) <| .a 3 <| .au ?_; obtain rfl := aB h; kernel_rfl
 refine .a 1 <| ?_; obtain ⟨x3, hx3, h⟩ := aC h; refine .merge 3 [10, 11] 12 (.d (eB x3)) ?_ ?_
 · replace h := hx3; cases x1 with
   | true =>
     replace h := bI rfl h; refine .a 3 <| .au ?_; obtain rfl := aB h; kernel_rfl
   | false =>
     replace h := bG rfl h; refine .a 3 <| .au ?_; obtain rfl := aB h; kernel_rfl
 refine .a 1 <| ?_; obtain ⟨x5, hx5, h⟩ := aC h; refine .merge 3 [14, 15] 16 (.d (eB x5)) ?_ ?_
 · replace h := hx5; cases x3 with
   | true =>
     replace h := bI rfl h; refine .a 3 <| .au ?_; obtain rfl := aB h; kernel_rfl
   | false =>
     replace h := bG rfl h; refine .a 3 <| .au ?_; obtain rfl := aB h; kernel_rfl
 refine .a 1 <| .au ?_; rw [← aB h]; exact .ret (aU [])
def KW (aN : ByteArray) (v4 : Int) : St := ⟨cu 33 [(0, .d (eS aN)), (1, .d (.fn (.func 203) [] [])), (15, .d (eI (aN.size : Int))), (16, .d (eI v4))], [], 0⟩
def oM (aN : ByteArray) (k5 : (Int → Option Bool)) : Int → Option Bool := fun v4 => (bif decide (v4 < (aN.size : Int)) then (lq aN v4).bind fun x7 => (vK x7).bind fun x8 => (bif (!x8) then (lq aN v4).bind fun x11 => ((fun a0 => zK a0) x11).bind fun x12 => some (!x12) else some false).bind fun x9 => (bif x9 then some false else k5 (IntKind.i64.wrap (v4 + 1))) else some true)
def ug (aN : ByteArray) : Int → Option Bool := bQ (oM aN) fuel
def ni (aN : ByteArray) : Option Bool := (bif decide ((aN.size : Int) < 1) then some true else some (decide ((aN.size : Int) > 32))).bind fun x1 => (bif x1 then some false else ug aN 0)
theorem KX (aN r) (h : ni aN = some r) : Runs Tryz.prog 202 [.d (eS aN), .d (.fn (.func 203) [] [])] [] (.d (eB r)) [] := by
 refine Runs.aT Tryz.func202 rfl ?_; unfold ni at h; refine SP.rg <| .a 1 <| .au <| SP.aJ <| SP.rg <| .a 3 <| ?_; obtain ⟨x1, hx1, h⟩ := aC h; refine .merge 5 [9, 10, 11, 12] 13 (.d (eB x1)) ?_ ?_
 · rcases fF hx1 with ⟨hb2, h⟩ | ⟨hb2, h⟩
   · refine .c (congrArg some hb2) <| .a 4 <| .au ?_; obtain rfl := aB h; kernel_rfl
   refine .c (congrArg some hb2) <| .a 4 <| .au ?_; obtain rfl := aB h; kernel_rfl
 refine .au <| SP.cnd h (fun h => ?_) fun h => ?_
 · refine SP.rg <| .a 1 <| .au ?_; rw [← aB h]; exact .ret (aU [])
 refine SP.skip <| SP.aJ <| SP.rg <| .a 3 <| .au <| SP.block ?_; refine SP.bQ (KW aN) _ _ _ (aF (mk 33 98307) []) h ?_; clear h; intro J14 k5 hk5 v4 h; unfold oM at h; refine SP.rg <| .a 1 <| .au <| SP.aJ <| SP.cnd h (fun h => ?_) fun h => ?_
 · refine SP.skip <| SP.aJ <| SP.block <| SP.rg <| .a 2 <| .au ?_; obtain ⟨x7, hx7, x8, je, h⟩ := aY h; refine SP.rg <| .a 2 <| .p (D7 (k := .i64) hx7 KI rfl) <| .call (DW x7 x8 je) XD <| .a 1 <| ?_; obtain ⟨x9, iK, h⟩ := aC h; refine .merge 8 [24, 25, 26, 27, 28, 29, 30] 31 (.d (eB x9)) ?_ ?_
   · rcases fF iK with ⟨rX, h⟩ | ⟨rX, h⟩
     · obtain ⟨x11, gU, x12, jE, h⟩ := aY h; refine .c (congrArg some rX) <| .a 3 <| .p (D7 (k := .i64) gU KI rfl) <| .p (Oo (d := (.fn (.func 203) [] [])) (⟨203, [], rfl, ale, fun a0 b hb => Zb a0 b hb⟩ : Fn1 Tryz.prog eU8 eB (.fn (.func 203) [] []) (fun a0 => zK a0)) jE rfl) <| .a 2 <| .au ?_; obtain rfl := aB h; kernel_rfl
     refine .c (congrArg some rX) <| .a 7 <| .au ?_; obtain rfl := aB h; kernel_rfl
   refine .au <| SP.cnd h (fun h => ?_) fun h => ?_
   · refine SP.rg <| .a 1 <| .au ?_; rw [← aB h]; exact .ret (aU [])
   refine SP.skip <| SP.bU <| .a 2 <| .nil ?_; exact hk5 _ _ (aF (mk 33 98307) []) h
 refine SP.exit <| SP.rg <| .a 1 <| .au ?_; rw [← aB h]; exact .ret (aU [])
def IK (aN : ByteArray) : Option Bool := (ni aN).bind fun x1 => some x1
theorem acG (aN r) (h : IK aN = some r) : Runs Tryz.prog 189 [.d (eS aN)] [] (.d (eB r)) [] := by
 refine Runs.aT Tryz.func189 rfl ?_; unfold IK at h; refine SP.rg <| .a 1 <| .au ?_; obtain ⟨x1, hx1, h⟩ := aC h; refine SP.rg <| .a 1 <| .e (x := .d (eB x1)) [] (gQ [] (dh := [.d (eS aN), .d (.fn (.func 203) [] [])]) (dK := [.d (eS aN), .d (.fn (.func 203) [] [])]) (res' := .d (eB x1)) (KX aN x1 hx1) ag7 (by kernel_rfl) trivial ⟨.inl rfl, .inl rfl, trivial⟩ rfl (by kernel_rfl) rfl) <| .a 1 <| .au ?_; rw [← aB h]; exact .ret (aU [])
def wZ (qE : Int) : Option Bool := (bif (qE == 46) then some true else some (qE == 45)).bind fun x1 => some x1
theorem XP (qE r) (h : wZ qE = some r) : Runs Tryz.prog 204 [.d (eU8 qE)] [] (.d (eB r)) [] := by
 refine Runs.aT Tryz.func204 rfl ?_; unfold wZ at h; refine SP.rg <| .a 1 <| .au <| SP.rg <| .a 2 <| ?_; obtain ⟨x1, hx1, h⟩ := aC h; refine .merge 4 [5, 6, 7] 8 (.d (eB x1)) ?_ ?_
 · rcases fF hx1 with ⟨hb2, h⟩ | ⟨hb2, h⟩
   · refine .c (congrArg some hb2) <| .a 3 <| .au ?_; obtain rfl := aB h; kernel_rfl
   refine .c (congrArg some hb2) <| .a 3 <| .au ?_; obtain rfl := aB h; kernel_rfl
 refine .a 1 <| .au ?_; rw [← aB h]; exact .ret (aU [])
def JG (aN : ByteArray) (v4 : Int) : St := ⟨cu 33 [(0, .d (eS aN)), (1, .d (.fn (.func 204) [] [])), (15, .d (eI (aN.size : Int))), (16, .d (eI v4))], [], 0⟩
def nZ (aN : ByteArray) (k5 : (Int → Option Bool)) : Int → Option Bool := fun v4 => (bif decide (v4 < (aN.size : Int)) then (lq aN v4).bind fun x7 => (vK x7).bind fun x8 => (bif (!x8) then (lq aN v4).bind fun x11 => ((fun a0 => wZ a0) x11).bind fun x12 => some (!x12) else some false).bind fun x9 => (bif x9 then some false else k5 (IntKind.i64.wrap (v4 + 1))) else some true)
def rY (aN : ByteArray) : Int → Option Bool := bQ (nZ aN) fuel
def mM (aN : ByteArray) : Option Bool := (bif decide ((aN.size : Int) < 1) then some true else some (decide ((aN.size : Int) > 32))).bind fun x1 => (bif x1 then some false else rY aN 0)
theorem JH (aN r) (h : mM aN = some r) : Runs Tryz.prog 202 [.d (eS aN), .d (.fn (.func 204) [] [])] [] (.d (eB r)) [] := by
 refine Runs.aT Tryz.func202 rfl ?_; unfold mM at h; refine SP.rg <| .a 1 <| .au <| SP.aJ <| SP.rg <| .a 3 <| ?_; obtain ⟨x1, hx1, h⟩ := aC h; refine .merge 5 [9, 10, 11, 12] 13 (.d (eB x1)) ?_ ?_
 · rcases fF hx1 with ⟨hb2, h⟩ | ⟨hb2, h⟩
   · refine .c (congrArg some hb2) <| .a 4 <| .au ?_; obtain rfl := aB h; kernel_rfl
   refine .c (congrArg some hb2) <| .a 4 <| .au ?_; obtain rfl := aB h; kernel_rfl
 refine .au <| SP.cnd h (fun h => ?_) fun h => ?_
 · refine SP.rg <| .a 1 <| .au ?_; rw [← aB h]; exact .ret (aU [])
 refine SP.skip <| SP.aJ <| SP.rg <| .a 3 <| .au <| SP.block ?_; refine SP.bQ (JG aN) _ _ _ (aF (mk 33 98307) []) h ?_; clear h; intro J14 k5 hk5 v4 h; unfold nZ at h; refine SP.rg <| .a 1 <| .au <| SP.aJ <| SP.cnd h (fun h => ?_) fun h => ?_
 · refine SP.skip <| SP.aJ <| SP.block <| SP.rg <| .a 2 <| .au ?_; obtain ⟨x7, hx7, x8, je, h⟩ := aY h; refine SP.rg <| .a 2 <| .p (D7 (k := .i64) hx7 KI rfl) <| .call (DW x7 x8 je) XD <| .a 1 <| ?_; obtain ⟨x9, iK, h⟩ := aC h; refine .merge 8 [24, 25, 26, 27, 28, 29, 30] 31 (.d (eB x9)) ?_ ?_
   · rcases fF iK with ⟨rX, h⟩ | ⟨rX, h⟩
     · obtain ⟨x11, gU, x12, jE, h⟩ := aY h; refine .c (congrArg some rX) <| .a 3 <| .p (D7 (k := .i64) gU KI rfl) <| .p (Oo (d := (.fn (.func 204) [] [])) (⟨204, [], rfl, alg, fun a0 b hb => XP a0 b hb⟩ : Fn1 Tryz.prog eU8 eB (.fn (.func 204) [] []) (fun a0 => wZ a0)) jE rfl) <| .a 2 <| .au ?_; obtain rfl := aB h; kernel_rfl
     refine .c (congrArg some rX) <| .a 7 <| .au ?_; obtain rfl := aB h; kernel_rfl
   refine .au <| SP.cnd h (fun h => ?_) fun h => ?_
   · refine SP.rg <| .a 1 <| .au ?_; rw [← aB h]; exact .ret (aU [])
   refine SP.skip <| SP.bU <| .a 2 <| .nil ?_; exact hk5 _ _ (aF (mk 33 98307) []) h
 refine SP.exit <| SP.rg <| .a 1 <| .au ?_; rw [← aB h]; exact .ret (aU [])
def EX (aN : ByteArray) : Option Bool := (mM aN).bind fun x1 => (bif x1 then (lq aN 0).bind fun x4 => (vK x4).bind fun x5 => some x5 else some false).bind fun x2 => (bif x2 then (lq aN (IntKind.i64.wrap ((aN.size : Int) - 1))).bind fun x8 => (vK x8).bind fun x9 => some x9 else some false).bind fun x6 => some x6
theorem aaR (aN r) (h : EX aN = some r) : Runs Tryz.prog 190 [.d (eS aN)] [] (.d (eB r)) [] := by
 refine Runs.aT Tryz.func190 rfl ?_; unfold EX at h; refine SP.rg <| .a 1 <| .au ?_; obtain ⟨x1, hx1, h⟩ := aC h; refine SP.rg <| .a 1 <| .e (x := .d (eB x1)) [] (gQ [] (dh := [.d (eS aN), .d (.fn (.func 204) [] [])]) (dK := [.d (eS aN), .d (.fn (.func 204) [] [])]) (res' := .d (eB x1)) (JH aN x1 hx1) ag7 (by kernel_rfl) trivial ⟨.inl rfl, .inl rfl, trivial⟩ rfl (by kernel_rfl) rfl) <| .a 1 <| ?_; obtain ⟨x2, hx2, h⟩ := aC h; refine .merge 4 [6, 7, 8] 9 (.d (eB x2)) ?_ ?_
 · replace h := hx2; cases x1 with
   | true =>
     replace h := bI rfl h; obtain ⟨x4, hx4, x5, hx5, h⟩ := aY h; refine .a 1 <| .p (D7 (k := .i64) hx4 KI rfl) <| .call (DW x4 x5 hx5) XD <| .a 1 <| .au ?_; obtain rfl := aB h; kernel_rfl
   | false =>
     replace h := bG rfl h; refine .a 4 <| .au ?_; obtain rfl := aB h; kernel_rfl
 refine .a 1 <| ?_; obtain ⟨x6, hx6, h⟩ := aC h; refine .merge 7 [11, 12, 13, 14, 15, 16] 17 (.d (eB x6)) ?_ ?_
 · replace h := hx6; cases x2 with
   | true =>
     replace h := bI rfl h; obtain ⟨x8, je, x9, iK, h⟩ := aY h; refine .a 4 <| .p (D7 (k := .i64) je KI rfl) <| .call (DW x8 x9 iK) XD <| .a 1 <| .au ?_; obtain rfl := aB h; kernel_rfl
   | false =>
     replace h := bG rfl h; refine .a 7 <| .au ?_; obtain rfl := aB h; kernel_rfl
 refine .a 1 <| .au ?_; rw [← aB h]; exact .ret (aU [])
def Ep (rZ : ByteArray) (KY : ByteArray) : Option (ByteArray × ByteArray × Bool) := (bif (rZ.toList == s0.toList) then some true else (lq rZ 0).bind fun x3 => (strings_IndexByte KY x3).bind fun x4 => some (decide (x4 < 0))).bind fun x1 => (bif x1 then some (s0, s0, false) else (Au rZ 1 ((rZ).size)).bind fun x6 => (strings_Cut x6 Ub).bind fun x7 => (bif (!x7.2.2) then some true else (IK x7.1).bind fun x10 => some (!x10)).bind fun x8 => (bif x8 then some true else (EX x7.2.1).bind fun ig => some (!ig)).bind fun x11 => (bif x11 then some (s0, s0, false) else some (x7.1, x7.2.1, true)))
theorem acH (rZ KY r) (h : Ep rZ KY = some r) : Runs Tryz.prog 177 [.d (eS rZ), .d (eS KY)] [] (.dW [.d (eS r.1), .d (eS r.2.1), .d (eB r.2.2)]) [] := by
 refine Runs.aT Tryz.func177 rfl ?_; unfold Ep at h; refine SP.rg <| .a 3 <| .au <| SP.aJ <| SP.rg <| .a 2 <| ?_; obtain ⟨x1, hx1, h⟩ := aC h; refine .merge 7 [12, 13, 14, 15, 16, 17] 18 (.d (eB x1)) ?_ ?_
 · rcases fF hx1 with ⟨hb2, h⟩ | ⟨hb2, h⟩
   · refine .c (congrArg some hb2) <| .a 6 <| .au ?_; obtain rfl := aB h; kernel_rfl
   obtain ⟨x3, hx3, x4, hx4, h⟩ := aY h; refine .c (congrArg some hb2) <| .a 2 <| .p (D7 (k := .i64) hx3 KI rfl) <| .call (PI KY x3 x4 hx4) ala <| .a 2 <| .au ?_; obtain rfl := aB h; kernel_rfl
 refine .au <| SP.cnd h (fun h => ?_) fun h => ?_
 · refine SP.rg <| .a 3 <| .au ?_; rw [← aB h]; exact .ret (aU [])
 refine SP.skip ?_; obtain ⟨x6, hx6, x7, hx7, h⟩ := aY h; refine SP.rg <| .a 1 <| .p (YP hx6 (by intro hh; cases hh) (fun _ => rfl) KI rfl) <| .call (Za x6 Ub x7 hx7) ald <| .a 7 <| .au <| SP.aJ <| SP.rg <| .a 2 <| ?_; obtain ⟨x8, je, h⟩ := aC h; refine .merge 5 [28, 29, 30, 31] 32 (.d (eB x8)) ?_ ?_
 · rcases fF je with ⟨Sv, h⟩ | ⟨Sv, h⟩
   · refine .c (congrArg some Sv) <| .a 4 <| .au ?_; obtain rfl := aB h; kernel_rfl
   obtain ⟨x10, lD, h⟩ := aC h; refine .c (congrArg some Sv) <| .a 1 <| .call (acG x7.1 x10 lD) alf <| .a 2 <| .au ?_; obtain rfl := aB h; kernel_rfl
 refine .a 1 <| ?_; obtain ⟨x11, gU, h⟩ := aC h; refine .merge 4 [34, 35, 36] 37 (.d (eB x11)) ?_ ?_
 · replace h := gU; cases x8 with
   | true =>
     replace h := bI rfl h; refine .a 4 <| .au ?_; obtain rfl := aB h; kernel_rfl
   | false =>
     replace h := bG rfl h; obtain ⟨ig, tY, h⟩ := aC h; refine .a 1 <| .call (aaR x7.2.1 ig tY) alh <| .a 2 <| .au ?_; obtain rfl := aB h; kernel_rfl
 refine .au <| SP.cnd h (fun h => ?_) fun h => ?_
 · refine SP.rg <| .a 3 <| .au ?_; rw [← aB h]; exact .ret (aU [])
 refine SP.skip <| SP.rg <| .a 5 <| .au ?_; rw [← aB h]; exact .ret (aU [])
def xg (rZ : ByteArray) : Option ByteArray := (Ep rZ KF).bind fun x1 => some x1.2.1
theorem MW (rZ r) (h : xg rZ = some r) : Runs Tryz.prog 167 [.d (eS rZ)] [] (.d (eS r)) [] := by
 refine Runs.aT Tryz.func167 rfl ?_; unfold xg at h; refine SP.rg <| .a 1 <| .au ?_; obtain ⟨x1, hx1, h⟩ := aC h; refine SP.rg <| .a 1 <| .call (acH rZ KF x1 hx1) ali <| .a 7 <| .au <| SP.rg <| .a 2 <| .au ?_; rw [← aB h]; exact .ret (aU [])
def sN (jk : Int) : Option (Except Value Unit) := some (.error (.iface 187 (.agg #[.int .i64 ((⟨jk⟩ : zH).Xz)])))
theorem jZ (jk r) (h : sN jk = some r) : zZ Tryz.prog 168 [.d (eI jk)] r (fun r => .dW []) := by
 refine zZ.aT Tryz.func168 rfl ?_; unfold sN at h; refine SP.bU <| .a 2 <| .p (x := .d (.lit (.iface 187 (.agg #[.int .i64 ((⟨jk⟩ : zH).Xz)])))) (U2 [.int .i64 ((⟨jk⟩ : zH).Xz)] akl rfl) <| ?_; exact LP.panic (t := 187) (u := (.agg #[.int .i64 ((⟨jk⟩ : zH).Xz)])) rfl (by kernel_rfl) (by kernel_rfl) <| Or.inr ⟨_, (aB h).symm, rfl, by kernel_rfl⟩
def l9 (abn : Bool) (uQ : Int) : Option (Except Value Unit) := (bif (!abn) then (sN uQ).bind fun x2 => wS x2 fun y3 => some (.ok ()) else some (.ok ()))
theorem eX (abn uQ r) (h : l9 abn uQ = some r) : zZ Tryz.prog 166 [.d (eB abn), .d (eI uQ)] r (fun r => .dW []) := by
 refine zZ.aT Tryz.func166 rfl ?_; unfold l9 at h; refine SP.rg <| .a 2 <| .au <| SP.cnd h (fun h => ?_) fun h => ?_
 · obtain ⟨x2, hx2, h⟩ := aC h; cases x2 with
   | error u4 =>
     replace h := oU h; refine SP.bU <| .a 1 <| ?_; exact LP.vZ ((jZ uQ _ hx2).2 u4 rfl) Df <| Or.inr ⟨_, (aB h).symm, rfl, by kernel_rfl⟩
   | ok y3 =>
     replace h := rE h; refine SP.bU <| .a 1 <| ?_; refine .call ((jZ uQ _ hx2).1 y3 rfl) Df <| .nil <| Or.inl ⟨(), (aB h).symm, ?_⟩; exact ⟨[], [], trivial, by kernel_rfl, by kernel_rfl, by kernel_rfl⟩
 refine SP.skip <| Or.inl ⟨(), (aB h).symm, ?_⟩; exact ⟨[], [], trivial, by kernel_rfl, by kernel_rfl, by kernel_rfl⟩
end Go.Proofs.YtelpgcaiadpjpaaGreat
end
