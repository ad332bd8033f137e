/- Contracts of library functions by hand, in the form Runs: a row turned in place, a row cut, a row read. No program's code. No condition. -/
import Derived.Test.YtdhhcmdofnjhiaaAvG
import Derived.Lib.OwnBridge
import Derived.Sort.OwnSortedInts
import Derived.Lib.SliceRun
namespace Go.Proofs.Ytdhhcmdofnjhiaa
open Go.RowKit

/-- A step of the world that turns the block of v at most. -/
structure Turns (v : Value) (w w' : World) : Prop where
  os : w'.os = w.os
  tape : w'.tape = w.tape
  output : w'.output = w.output
  size : w.heap.size ≤ w'.heap.size
  block : ∀ c, c < w.heap.size → blkOf v ≠ some c → w'.heap[c]? = w.heap[c]?
theorem Turns.refl (v : Value) (w : World) : Turns v w w := ⟨rfl, rfl, rfl, Nat.le_refl _, fun _ _ _ => rfl⟩
theorem Turns.of_grown {g o n c : Nat} {s : Option Nat} {w w' : World} (h : w.grownBy w' (some g)) : Turns (.slice (some ⟨g, o, s⟩) n c) w w' :=
  ⟨h.os, h.tape, h.output, h.size, fun k hk hne => h.block k hk (fun e => hne (by cases e; rfl))⟩

theorem RD.lit_eq {ok : Nat → Prop} {w : World} {u v : Value} (h : RD ok w (.lit u) v) : v = u := by cases h; rfl
theorem flat_ints : ∀ (l : List Int), flat (l.map eI) = l.map fun n => .d (eI n)
  | [] => rfl
  | n :: l => by rw [List.map_cons, flat_cons, flat_ints l]; rfl
/-- An own row of integers, as the kit tells it. -/
theorem ints_ent {ok : Nat → Prop} {w : World} {H : List Hd} {h : Hd} {e : TypeId} {l : List Int} : EntOk ok w H h (.arr e 1 (List.map eI l)) ↔ h.size = 1 ∧ w.ownsRow 0 e 1 h.v l.length (l.map (.int .i64)) := by
  constructor
  · rintro ⟨h1, _, xs, h3, h4, h5⟩
    refine ⟨h1, ?_⟩
    rw [List.length_map] at h3
    have : xs = l.map (.int .i64) := by
      rw [flat_ints] at h4 h5
      rw [List.length_map] at h4
      refine List.ext_getElem (by simp [h4]) fun i hi hj => ?_
      have hil : i < l.length := by omega
      have h6 := (h5 i (by simpa using hil)).2
      simp only [List.getD, List.getElem?_map, List.getElem?_eq_getElem hil, Option.map_some, Option.getD_some, List.getElem?_eq_getElem hi] at h6
      cases h6 with | d _ _ h => rw [RD.lit_eq h]; simp
    rw [← this]; exact h3
  · rintro ⟨h1, h3⟩
    refine ⟨h1, fun x hx => ?_, l.map (.int .i64), by rw [List.length_map]; exact h3, ?_⟩
    · obtain ⟨n, _, rfl⟩ := List.mem_map.1 hx; rfl
    · rw [flat_ints]
      refine ⟨by simp, fun i hi => ?_⟩
      have hil : i < l.length := by simpa using hi
      simp only [List.getD, List.getElem?_map, List.getElem?_eq_getElem hil, Option.map_some, Option.getD_some]
      exact ⟨rfl, .d _ _ (.lit _)⟩

theorem one_arg {vals : Array Value} (hs : vals.size = 1) : vals = #[vals.getD 0 undef] := by
  refine Array.ext (by simp [hs]) fun i h1 h2 => ?_
  simp at h2
  subst h2
  simp [Array.getD, hs]

/-- A call that turns an own row of integers in place. -/
theorem Runs.inplace {P : Program} {f : FuncId} {e : TypeId} {l r : List Int}
    (h : ∀ (v : Value) (w : World), w.ownsRow 0 e 1 v l.length (l.map (.int .i64)) → Calls P f #[v] w fun x w' => x = .returned (.tuple #[]) ∧ w'.ownsRow 0 e 1 v r.length (r.map (.int .i64)) ∧ Turns v w w') :
    Runs P f [.osl 0] [.arr e 1 (List.map eI l)] (.tup []) [.arr e 1 (List.map eI r)] := by
  intro ok X H w vals hm hs ha
  have h0 := ha 0 (by decide)
  rw [one_arg hs]
  obtain ⟨hd, hh, hok⟩ := ent_at hm.ent hm.hlen (k := 0) rfl
  obtain hv := R_own_val h0 hh
  rw [hv]
  obtain ⟨hz, how⟩ := ints_ent.1 hok
  refine (h hd.v w how).mono ?_
  rintro x w' ⟨rfl, how', ht⟩
  have hb0 := fun b hb => hm.blk 0 _ hd b rfl rfl hh hb
  have hg := hm.change (ok' := ok) (H' := H) (w' := w') (es' := [.arr e 1 (List.map eI r)]) (fun c => blkOf hd.v = some c) ht.os ht.tape ht.output ht.size ht.block (fun c hc _ => ⟨(hb0 c hc).1, (hb0 c hc).2.2⟩) (fun _ h => h) (fun _ h => .inl h) (.refl _) hm.hlen (by
    intro k e' h' he' hh'
    match k, he' with
    | 0, he' =>
      simp at he'
      subst he'
      rw [hh] at hh'
      obtain rfl := Option.some.inj hh'
      refine .inr ⟨ints_ent.2 ⟨hz, how'⟩, fun _ b hb => ⟨(hb0 b hb).1, Nat.lt_of_lt_of_le (hb0 b hb).2.1 ht.size, (hb0 b hb).2.2, fun k' e'' h'' hne hk' => ?_⟩⟩
      match k', hk' with
      | 0, _ => exact absurd rfl hne
      | k' + 1, hk' => simp at hk'
    | k + 1, he' => simp at he')
  exact ⟨_, ok, H, rfl, hg.1, .tup [] #[] rfl (fun i hi => by simp at hi)⟩

/-- A call that gives up an own row of integers for another. -/
theorem Runs.turned {P : Program} {f : FuncId} {e : TypeId} {l r : List Int}
    (h : ∀ (v : Value) (w : World), w.ownsRow 0 e 1 v l.length (l.map (.int .i64)) → Calls P f #[v] w fun x w' => ∃ v', x = .returned v' ∧ w'.ownsRow 0 e 1 v' r.length (r.map (.int .i64)) ∧ Turns v w w' ∧ ∀ g, blkOf v' = some g → blkOf v = some g ∨ w.heap.size ≤ g) :
    Runs P f [.osl 0] [.arr e 1 (List.map eI l)] (.osl 1) [.dead, .arr e 1 (List.map eI r)] := by
  intro ok X H w vals hm hs ha
  have h0 := ha 0 (by decide)
  rw [one_arg hs]
  obtain ⟨hd, hh, hok⟩ := ent_at hm.ent hm.hlen (k := 0) rfl
  obtain hv := R_own_val h0 hh
  rw [hv]
  obtain ⟨hz, how⟩ := ints_ent.1 hok
  refine (h hd.v w how).mono ?_
  rintro x w' ⟨v', rfl, how', ht, hblk⟩
  have hg := hm.turn (e := .arr e 1 (List.map eI r)) (h' := ⟨v', 1⟩) (w' := w') (k := 0) rfl rfl hh ht.os ht.tape ht.output ht.size ht.block (fun g hg => ⟨own_blk_lt how' hg, hblk g hg⟩) (fun _ => ints_ent.2 ⟨rfl, how'⟩)
  refine ⟨v', ok, H ++ [⟨v', 1⟩], rfl, hg.1, ?_⟩
  have hl : H.length = 1 := hm.hlen
  have hr : (H ++ [(⟨v', 1⟩ : Hd)])[1]? = some ⟨v', 1⟩ := by rw [← hl]; simp
  rcases how'.2 with ⟨rfl, _⟩ | ⟨g, cap, cur, rfl, _⟩
  · exact .osl 1 _ _ _ 1 hr
  · exact .osl 1 _ _ _ 1 hr

/-- A call with plain arguments and plain results, that turns nothing that was there. -/
theorem Runs.plain {P : Program} {f : FuncId} {vs : List Value} {res : AV} {v : Value} (hv : ∀ ok w H, R ok w H res v)
    (h : ∀ w, Calls P f vs.toArray w fun x w' => x = .returned v ∧ Below w.heap.size w w') : Runs P f (vs.map fun u => .d (.lit u)) [] res [] := by
  intro ok X H w vals hm hs ha
  have e : vals = vs.toArray := by
    refine Array.ext (by simpa using hs) fun i h1 h2 => ?_
    have h2' : i < vs.length := by simpa using h2
    have h3 := ha i (by simpa using h2')
    simp only [List.getD, List.getElem?_map, List.getElem?_eq_getElem h2', Option.map_some, Option.getD_some] at h3
    cases h3 with | d _ _ h => have := RD.lit_eq h; simpa [Array.getD, h1] using this
  rw [e]
  refine (h w).mono ?_
  rintro x w' ⟨rfl, hb⟩
  have hg := hm.change (ok' := ok) (H' := H) (w' := w') (es' := []) (fun _ => False) hb.os hb.tape hb.output hb.size (fun c hc _ => hb.block c hc) (fun _ h => h.elim) (fun _ h => h) (fun _ h => .inl h) (.refl _) hm.hlen (by
    intro k e' h' he' hh'
    simp at he')
  exact ⟨v, ok, H, rfl, hg.1, hv _ _ _⟩

/-- A chain, with more operations behind it. -/
theorem Chain.sound_app {P : Program} {ops : Array Oper} {l rest2 : List Oper} {σ σ' : St} (h : Chain P ops l σ σ') {C : Cx} {H0 : List Hd} {Q : Exit → Act → World → Prop} :
    ∀ {ok : Nat → Prop} {H : List Hd} {a : Act} {w : World}, Holds C ok H σ a w → Names H0 H → (∀ ok' H' a' w', Holds C ok' H' σ' a' w' → Names H0 H' → wpList P ops Q rest2 a' w') → wpList P ops Q (l ++ rest2) a w := by
  induction h with
  | nil σ => intro ok H a w hh hn hQ; exact hQ ok H a w hh hn
  | @op o rest σ σ' ns x d ho hn hg hd k ih =>
    intro ok H a w hh hnm hQ
    subst hd
    rw [List.cons_append]
    unfold wpList
    rw [if_pos (wanted_yes hh hg)]
    refine .inl (Oper.wp_mono ?_ (ho C ok H a w Q hh.mem (fun n hn' => needs_mem hn n hn' ▸ hh.get n.1)))
    rintro a' w' ⟨v, ok', H', rfl, hgr, hnn, hm, hx⟩
    exact ih (hh.put o.dst hgr hnn hm hx) (hnm.trans hnn) hQ
  | @oe o rest σ σ' ns x es' d E ho he hn hg hd k ih =>
    intro ok H a w hh hnm hQ
    subst hd
    subst he
    rw [List.cons_append]
    unfold wpList
    rw [if_pos (wanted_yes hh hg)]
    refine .inl (Oper.wp_mono ?_ (ho C ok H a w Q hh.mem (fun n hn' => needs_mem hn n hn' ▸ hh.get n.1)))
    rintro a' w' ⟨v, ok', H', rfl, hgr, hnn, hm, hx⟩
    exact ih (hh.put o.dst hgr hnn hm hx) (hnm.trans hnn) hQ
  | @skip o rest σ σ' d hg hd k ih =>
    intro ok H a w hh hnm hQ
    subst hd
    rw [List.cons_append]
    unfold wpList
    rw [if_neg (by rw [wanted_no hh hg]; simp)]
    exact ih (hh.put o.dst (.refl _ _) (.refl _) hh.mem (.d _ _ (.lit _))) hnm hQ
  | @any o rest σ σ' x d hs hd k ih =>
    intro ok H a w hh hnm hQ
    subst hd
    rw [List.cons_append]
    unfold wpList
    rcases hs.1 with ⟨ns, ho, hn, _, hg⟩ | ⟨rfl, _, hg⟩
    · rw [if_pos (wanted_yes hh hg)]
      refine .inl (Oper.wp_mono ?_ (ho C ok H a w Q hh.mem (fun n hn' => needs_mem hn n hn' ▸ hh.get n.1)))
      rintro a' w' ⟨v, ok', H', rfl, hgr, hnn, hm, hx⟩
      exact ih (hh.put o.dst hgr hnn hm hx) (hnm.trans hnn) hQ
    · rw [if_neg (by rw [wanted_no hh hg]; simp)]
      exact ih (hh.put o.dst (.refl _ _) (.refl _) hh.mem (.d _ _ (.lit _))) hnm hQ
  | @anyE o rest σ σ' x E bar d hs hd k ih =>
    intro ok H a w hh hnm hQ
    subst hd
    rw [List.cons_append]
    unfold wpList
    rcases hs.1 with ⟨ns, ho, hn, _, hg⟩ | ⟨rfl, rfl, hg⟩
    · rw [if_pos (wanted_yes hh hg)]
      refine .inl (Oper.wp_mono ?_ (ho C ok H a w Q hh.mem (fun n hn' => needs_mem hn n hn' ▸ hh.get n.1)))
      rintro a' w' ⟨v, ok', H', rfl, hgr, hnn, hm, hx⟩
      exact ih (hh.put o.dst hgr hnn hm hx) (hnm.trans hnn) hQ
    · rw [if_neg (by rw [wanted_no hh hg]; simp)]
      exact ih (hh.put o.dst (.refl _ _) (.refl _) hh.mem (.d _ _ (.lit _))) hnm hQ
  | conv σ2 hc k ih =>
    intro ok H a w hh hnm hQ
    obtain ⟨ok', hh'⟩ := hc C ok H a w hh
    exact ih hh' hnm hQ

/-- A row is asked whether it is nil, at the end of a region. Either answer may come for an empty one. -/
theorem SP.region_nil {P : Program} {σ σ1 : St} {Q : Exit → St → Prop} {id : Nat} {ops : Array Oper} {q : Oper} {x : Operand} {t t' e d : Nat} {es : List D} (k : Nat) (hops : ops.toList.drop k = [q]) (h : Chain P ops (ops.toList.take k) σ σ1)
    (hq : q.op = .binOp .eql t x (.const (.slice none 0 0)) t') (hd : q.dst = some d) (hg : q.guard = none) (ht : P.underlying t = some (.slice e)) (hx : σ1.get x = .d (.sl es)) (hQ : ∀ b, (es ≠ [] → b = false) → Q .normal (σ1.put1 (some d) (.d (.lit (.bool b))))) : SP P (.region id ops false) σ Q := by
  refine ⟨fun C ok H a w hh => wp_region_list ?_⟩
  rw [← List.take_append_drop k ops.toList, hops]
  refine h.sound_app hh (.refl H) fun ok' H' a' w' h1 _ => ?_
  have hv := hx ▸ h1.get x
  obtain ⟨b, hb, hr⟩ : ∃ b, (es ≠ [] → b = false) ∧ (execOp a'.eval q).run P w' = .ok (.value (.bool b)) w' := by
    cases hv with
    | d _ _ hv =>
      generalize hav : a'.eval x = v at hv
      have key : ∀ (ad : Option Addr) (n c : Nat), v = .slice ad n c → (execOp a'.eval q).run P w' = .ok (.value (.bool ad.isNone)) w' := fun ad n c hvv => by
        have hgu : (eqGuard .eql t x (.const (.slice none 0 0)) (.slice ad n c) (.slice none 0 0)).run P w' = .ok () w' := by simp [eqGuard]
        have e0 : a'.eval (.const (.slice none 0 0)) = .slice none 0 0 := rfl
        rw [hvv] at hav
        simp only [execOp, hq, hav, e0, Sem.run_bind, hgu, Result.andThen_ok, Lib.run_eql_slice_nil w' t e ad n c 0 0 ht, Sem.run_pure]
      cases hv with
      | sl0 ad cap => exact ⟨ad.isNone, fun h => absurd rfl h, key _ _ _ rfl⟩
      | sl es b off cap size => exact ⟨false, fun _ => rfl, key _ _ _ rfl⟩
  unfold wpList
  rw [if_pos (by unfold Region.wanted; rw [hg])]
  refine .inl ?_
  unfold Oper.wp
  rw [hr, Oper.upon_value]
  unfold wpList
  exact ⟨ok', H', _, by rw [hd]; exact h1.put (some d) (.refl _ _) (.refl _) h1.mem (.d _ _ (.lit _)), hQ b hb⟩
theorem SP.rseq_nil {P : Program} {σ σ1 : St} {Q : Exit → St → Prop} {id : Nat} {ops : Array Oper} {y : Code} {q : Oper} {x : Operand} {t t' e d : Nat} {es : List D} (k : Nat) (hops : ops.toList.drop k = [q]) (h : Chain P ops (ops.toList.take k) σ σ1)
    (hq : q.op = .binOp .eql t x (.const (.slice none 0 0)) t') (hd : q.dst = some d) (hg : q.guard = none) (ht : P.underlying t = some (.slice e)) (hx : σ1.get x = .d (.sl es)) (hy : ∀ b, (es ≠ [] → b = false) → SP P y (σ1.put1 (some d) (.d (.lit (.bool b)))) Q) : SP P (.seq (.region id ops false) y) σ Q :=
  SP.seq (fun s => ∃ b, (es ≠ [] → b = false) ∧ s = σ1.put1 (some d) (.d (.lit (.bool b)))) (SP.region_nil k hops h hq hd hg ht hx fun b hb => ⟨b, hb, rfl⟩) (by rintro _ ⟨b, hb, rfl⟩; exact hy b hb)
theorem nil_of {α : Type} {l : List α} {e : α → D} (h : List.map e l ≠ [] → true = false) : l = [] := by
  cases l with
  | nil => rfl
  | cons a l => exact absurd (h (by simp)) (by decide)
end Go.Proofs.Ytdhhcmdofnjhiaa
