/- The operations that make or turn memory, each shown once over abstract states. No program's code. No condition. -/
import Derived.Test.YtdhhcmdofnjhiaaAvO
namespace Go.Proofs.Ytdhhcmdofnjhiaa
open Go.RowKit

/-- A step of the world that keeps most entities. -/
theorem Mem.change {C : Cx} {ok ok' : Nat → Prop} {H H' : List Hd} {es es' : List Ent} {w w' : World} (hm : Mem C ok H es w) (B : Nat → Prop)
    (hos : w'.os = w.os) (htape : w'.tape = w.tape) (hout : w'.output = w.output) (hsize : w.heap.size ≤ w'.heap.size)
    (hblk : ∀ b, b < w.heap.size → ¬ B b → w'.heap[b]? = w.heap[b]?) (hB : ∀ b, B b → b < w.heap.size → ¬ ok b ∧ (C.w0.heap.size ≤ b ∨ b ∈ C.X))
    (hok : ∀ b, ok b → ok' b) (hok' : ∀ b, ok' b → ok b ∨ (w.heap.size ≤ b ∧ b < w'.heap.size)) (hnames : Names H H') (hlen : H'.length = es'.length)
    (hent : ∀ (k : Nat) (e : Ent) (h : Hd), es'[k]? = some e → H'[k]? = some h →
      (es[k]? = some e ∧ H[k]? = some h ∧ (e.live = true → ∀ b, blkOf h.v = some b → ¬ B b)) ∨
      (EntOk ok' w' H' h e ∧ (e.live = true → ∀ b, blkOf h.v = some b → ¬ ok' b ∧ b < w'.heap.size ∧ (C.w0.heap.size ≤ b ∨ b ∈ C.X) ∧
        ∀ (k' : Nat) (e' : Ent) (h' : Hd), k' ≠ k → es'[k']? = some e' → e'.live = true → H'[k']? = some h' → blkOf h'.v ≠ some b))) :
    Mem C ok' H' es' w' ∧ Grow ok w ok' w' := by
  have hg : Grow ok w ok' w' := fun b hb => ⟨hok b hb, hblk b (hm.okLt b hb) (fun hb' => (hB b hb' (hm.okLt b hb)).1 hb)⟩
  refine ⟨⟨⟨hos.trans hm.fr.os, htape.trans hm.fr.tape, hout.trans hm.fr.output, Nat.le_trans hm.fr.size hsize, fun k hk hx => ?_⟩, fun b hb => hok b (hm.okSub b hb), ?_, ?_, hm.names.trans hnames, hlen, ?_, ?_, ?_⟩, hg⟩
  · have hkw : k < w.heap.size := Nat.lt_of_lt_of_le hk hm.fr.size
    rw [hblk k hkw (fun hb => (hB k hb hkw).2.elim (fun h => by omega) hx)]
    exact hm.fr.block k hk hx
  · intro b hb
    rcases hok' b hb with h | ⟨h, _⟩
    · exact hm.okSup b h
    · exact .inr (.inl (Nat.le_trans hm.fr.size h))
  · intro b hb
    rcases hok' b hb with h | ⟨_, h⟩
    · exact Nat.lt_of_lt_of_le (hm.okLt b h) hsize
    · exact h
  · intro k e h he hh
    rcases hent k e h he hh with ⟨h1, h2, h3⟩ | ⟨h1, _⟩
    · exact (hm.ent k e h h1 h2).mono hg hnames (fun hl b hb => hblk b (hm.blk k e h b h1 hl h2 hb).2.1 (h3 hl b hb))
    · exact h1
  · intro k e h b he hl hh hb
    rcases hent k e h he hh with ⟨h1, h2, h3⟩ | ⟨_, h1⟩
    · have := hm.blk k e h b h1 hl h2 hb
      refine ⟨fun hb' => ?_, Nat.lt_of_lt_of_le this.2.1 hsize, this.2.2⟩
      rcases hok' b hb' with h4 | ⟨h4, _⟩
      · exact this.1 h4
      · omega
    · exact ⟨(h1 hl b hb).1, (h1 hl b hb).2.1, (h1 hl b hb).2.2.1⟩
  · intro k k' e e' h h' b he he' hl hl' hh hh' hb hb'
    apply Classical.byContradiction
    intro hne
    rcases hent k e h he hh with ⟨h1, h2, h3⟩ | ⟨_, h1⟩
    · rcases hent k' e' h' he' hh' with ⟨h1', h2', h3'⟩ | ⟨_, h1'⟩
      · exact hne (hm.dis k k' e e' h h' b h1 h1' hl hl' h2 h2' hb hb')
      · exact (h1' hl' b hb').2.2.2 k e h hne he hl hh hb
    · exact (h1 hl b hb).2.2.2 k' e' h' (fun e => hne e.symm) he' hl' hh' hb'

theorem getD_of_lt {α : Type} {l : List α} {i : Nat} {z : α} (h : i < l.length) : l.getD i z = l[i] := by simp [List.getD, h]

theorem old_lt {H : List Hd} {k : Nat} {h : Hd} (hk : H[k]? = some h) : k < H.length := (List.getElem?_eq_some_iff.1 hk).1

theorem push_get {α : Type} {l : List α} {a x : α} {k : Nat} (h : (l ++ [a])[k]? = some x) : l[k]? = some x ∨ (k = l.length ∧ x = a) := by
  by_cases hk : k < l.length
  · rw [List.getElem?_append_left hk] at h; exact .inl h
  · have hk' := (List.getElem?_eq_some_iff.1 h).1
    simp at hk'
    have : k = l.length := by omega
    subst this
    simp at h
    exact .inr ⟨rfl, h.symm⟩

/-- A new block, for a new entity. -/
theorem Mem.push {C : Cx} {ok : Nat → Prop} {H : List Hd} {es : List Ent} {w : World} (hm : Mem C ok H es w) (o : Obj) (h : Hd) (e : Ent) (hb : ∀ b, blkOf h.v = some b → b = w.heap.size)
    (he : EntOk ok (w.alloc o) (H ++ [h]) h e) : Mem C ok (H ++ [h]) (es ++ [e]) (w.alloc o) ∧ Grow ok w ok (w.alloc o) := by
  refine hm.change (fun _ => False) rfl rfl rfl (by simp) (fun b hb _ => Below.heap_alloc _ _ _ hb) (fun _ h => h.elim) (fun _ h => h) (fun _ h => .inl h) (Names.push _ _) (by simp [hm.hlen]) ?_
  intro k e' h' he' hh'
  rcases push_get he' with h1 | ⟨h1, h2⟩
  · left
    refine ⟨h1, ?_, fun _ _ _ h => h⟩
    have hk : k < H.length := by rw [hm.hlen]; exact (List.getElem?_eq_some_iff.1 h1).1
    rwa [List.getElem?_append_left hk] at hh'
  · subst h2
    have hk : k = H.length := by rw [hm.hlen]; exact h1
    subst hk
    simp at hh'
    subst hh'
    refine .inr ⟨he, fun _ b hb' => ?_⟩
    obtain rfl := hb b hb'
    refine ⟨fun h3 => absurd (hm.okLt _ h3) (by omega), by simp, .inl hm.fr.size, fun k' e'' h'' hne hk' hl hh'' hb'' => ?_⟩
    rcases push_get hk' with h3 | ⟨h3, _⟩
    · have hk2 : k' < H.length := by rw [hm.hlen]; exact (List.getElem?_eq_some_iff.1 h3).1
      rw [List.getElem?_append_left hk2] at hh''
      exact absurd (hm.blk k' e'' h'' _ h3 hl hh'' hb'').2.1 (by omega)
    · rw [← hm.hlen] at h3; exact hne h3

/-- A new block that will not turn. -/
theorem Mem.fresh {C : Cx} {ok : Nat → Prop} {H : List Hd} {es : List Ent} {w : World} (hm : Mem C ok H es w) (o : Obj) :
    Mem C (fun b => ok b ∨ b = w.heap.size) H es (w.alloc o) ∧ Grow ok w (fun b => ok b ∨ b = w.heap.size) (w.alloc o) := by
  refine hm.change (fun _ => False) rfl rfl rfl (by simp) (fun b hb _ => Below.heap_alloc _ _ _ hb) (fun _ h => h.elim) (fun _ h => .inl h) (fun b h => ?_) (.refl _) hm.hlen ?_
  · rcases h with h | rfl
    · exact .inl h
    · exact .inr ⟨Nat.le_refl _, by simp⟩
  · intro k e h he hh
    exact .inl ⟨he, hh, fun _ _ _ h => h⟩

/-- A draw turns nothing. -/
theorem Mem.drew {C : Cx} {ok : Nat → Prop} {H : List Hd} {es : List Ent} {w : World} (hm : Mem C ok H es w) : Mem C ok H es w.drew ∧ Grow ok w ok w.drew :=
  hm.change (fun _ => False) rfl rfl rfl (Nat.le_refl _) (fun _ _ _ => rfl) (fun _ h => h.elim) (fun _ h => h) (fun _ h => .inl h) (.refl _) hm.hlen fun _ _ _ he hh => .inl ⟨he, hh, fun _ _ _ h => h⟩

theorem EntOk.dead {ok : Nat → Prop} {w : World} {H : List Hd} {h : Hd} : EntOk ok w H h .dead := trivial

/-- The cells of a value. -/
theorem R.cellsRs {ok : Nat → Prop} {w : World} {H : List Hd} {x : AV} {v : Value} (h : R ok w H x v) (hl : x.cells.all AV.leaf = true) : Rs ok w H x.cells v.cells.toList := by
  rw [List.all_eq_true] at hl
  cases h with
  | d x v h =>
    cases h with
    | agg cs vs hs hf hc =>
      refine ⟨by simp [AV.cells, D.cells, Value.cells, hs], fun i hi => ?_⟩
      simp only [AV.cells, D.cells, List.length_map] at hi
      have e1 : (AV.cells (.d (.agg cs))).getD i .junk = .d (cs.getD i dz) := by simp [AV.cells, D.cells, List.getD, hi]
      have hi2 : i < vs.size := by omega
      have e2 : (Value.cells (.agg vs)).toList.getD i undef = vs.getD i undef := by simp [Value.cells, List.getD, Array.getD, hi2]
      rw [e1, e2]
      exact ⟨hf i hi, .d _ _ (hc i hi)⟩
    | lit v =>
      have h1 := hl (.d (.lit v)) (by simp [AV.cells, D.cells])
      have e : v.cells = #[v] := by cases v <;> first | rfl | (simp [AV.leaf, D.leaf, Value.oneCell'] at h1)
      refine ⟨by simp [AV.cells, D.cells, e], fun i hi => ?_⟩
      simp [AV.cells, D.cells] at hi
      subst hi
      rw [e]
      exact ⟨h1, .d _ _ (.lit v)⟩
    | sl0 ad cap =>
      refine ⟨rfl, fun i hi => ?_⟩
      simp [AV.cells, D.cells] at hi
      subst hi
      exact ⟨rfl, .d _ _ (.sl0 ad cap)⟩
    | sl es b off cap size h1 h2 h3 h4 h5 h6 =>
      refine ⟨rfl, fun i hi => ?_⟩
      simp [AV.cells, D.cells] at hi
      subst hi
      exact ⟨rfl, .d _ _ (.sl es b off cap size h1 h2 h3 h4 h5 h6)⟩
    | ref cs off b o h1 h2 h3 h4 =>
      refine ⟨rfl, fun i hi => ?_⟩
      simp [AV.cells, D.cells] at hi
      subst hi
      exact ⟨rfl, .d _ _ (.ref cs off b o h1 h2 h3 h4)⟩
    | fn f first cap vs us h1 h2 h3 h4 =>
      refine ⟨rfl, fun i hi => ?_⟩
      simp [AV.cells, D.cells] at hi
      subst hi
      exact ⟨rfl, .d _ _ (.fn f first cap vs us h1 h2 h3 h4)⟩
  | ptr k off b s h =>
    exact ⟨rfl, fun i hi => by simp [AV.cells] at hi; subst hi; exact ⟨rfl, .ptr k off b s h⟩⟩
  | osl k ad n cap s h =>
    exact ⟨rfl, fun i hi => by simp [AV.cells] at hi; subst hi; exact ⟨rfl, .osl k ad n cap s h⟩⟩
  | eptr k i off b n cap s h =>
    exact ⟨rfl, fun j hi => by simp [AV.cells] at hi; subst hi; exact ⟨rfl, .eptr k i off b n cap s h⟩⟩
  | fn f first cap vs us h1 h2 h3 h4 =>
    exact ⟨rfl, fun i hi => by simp [AV.cells] at hi; subst hi; exact ⟨rfl, .fn f first cap vs us h1 h2 h3 h4⟩⟩
  | tup xs vs h1 h2 => have := hl (.tup xs) (by simp [AV.cells]); simp [AV.leaf] at this
  | junk v => have := hl .junk (by simp [AV.cells]); simp [AV.leaf] at this

section
variable {P : Program} {o : Oper} {es : List Ent}

theorem blk_new (w : World) : ∀ b, blkOf (Hd.v ⟨.pointer (some ⟨w.heap.size, 0, none⟩), 0⟩) = some b → b = w.heap.size := fun b hb => by simpa [blkOf] using hb.symm

/-- How an operation that yields a value and turns the world is shown. -/
theorem OpOk.eff {ns : List (Operand × AV)} {x : AV} {es' : List Ent}
    (h : ∀ (C : Cx) (ok : Nat → Prop) (H : List Hd) (a : Act) (w : World), Mem C ok H es w → (∀ n ∈ ns, R ok w H n.2 (a.eval n.1)) →
      ∃ v w' ok' H', ((execOp a.eval o).run P w = .ok (.value v) w' ∨ (v = undef ∧ (execOp a.eval o).run P w = .ok .skip w')) ∧ Grow ok w ok' w' ∧ Names H H' ∧ Mem C ok' H' es' w' ∧ R ok' w' H' x v) : OpOk P o ns es x es' := by
  intro C ok H a w Q hm hn
  obtain ⟨v, w', ok', H', hr, h1, h2, h3, h4⟩ := h C ok H a w hm hn
  unfold Oper.wp
  rcases hr with hr | ⟨rfl, hr⟩
  · rw [hr]; exact ⟨v, ok', H', rfl, h1, h2, h3, h4⟩
  · rw [hr]; exact ⟨undef, ok', H', rfl, h1, h2, h3, h4⟩

/-- A local variable that is made of a value. -/
theorem ok_box {t : TypeId} {x : Operand} {v : AV} (hl : v.cells.all AV.leaf = true) (ho : o.op = .box t x) : OpOk P o [(x, v)] es (.ptr es.length 0) (es ++ [.box v.cells]) :=
  .eff fun C ok H a w hm hn => by
    have h1 := mem1 hn
    simp only at h1
    have hb : EntOk ok (w.alloc (.cells (a.eval x).cells t)) (H ++ [⟨.pointer (some ⟨w.heap.size, 0, none⟩), 0⟩]) ⟨.pointer (some ⟨w.heap.size, 0, none⟩), 0⟩ (.box v.cells) :=
      ⟨w.heap.size, (a.eval x).cells, t, rfl, heap_alloc_new w _, (h1.cellsRs hl).mono (fun b hb => ⟨hb, Below.heap_alloc _ _ _ (hm.okLt b hb)⟩) (Names.push _ _)⟩
    obtain ⟨h2, h3⟩ := hm.push (.cells (a.eval x).cells t) ⟨.pointer (some ⟨w.heap.size, 0, none⟩), 0⟩ _ (blk_new w) hb
    refine ⟨_, _, ok, _, .inl ?_, h3, Names.push _ _, h2, .ptr _ _ w.heap.size 0 (by rw [← hm.hlen]; simp)⟩
    simp [execOp, ho, Instr.box, newVar, newRow]

/-- A zero value's cell. -/
def zD : Value → D
  | .slice none 0 0 => .sl []
  | v => .lit v
theorem zD_ok {ok : Nat → Prop} {w : World} (v : Value) : RD ok w (zD v) v := by
  unfold zD
  split
  · exact .sl0 none 0
  · exact .lit v
theorem zD_leaf {v : Value} (h : v.oneCell' = true) : (zD v).leaf = true := by
  unfold zD
  split
  · rfl
  · exact h
def zCells (z : Value) : List AV := z.cells.toList.map fun v => .d (zD v)

theorem ok_alloc {t : TypeId} {z : Value} (hz : (P.info? t).bind (·.zero) = some z) (hl : z.cells.all (·.oneCell') = true) (ho : o.op = .alloc t) : OpOk P o [] es (.ptr es.length 0) (es ++ [.box (zCells z)]) :=
  .eff fun C ok H a w hm hn => by
    have hb : EntOk ok (w.alloc (.cells z.cells t)) (H ++ [⟨.pointer (some ⟨w.heap.size, 0, none⟩), 0⟩]) ⟨.pointer (some ⟨w.heap.size, 0, none⟩), 0⟩ (.box (zCells z)) := by
      refine ⟨w.heap.size, z.cells, t, rfl, heap_alloc_new w _, by simp [zCells], fun i hi => ?_⟩
      simp only [zCells, List.length_map, Array.length_toList] at hi
      have e1 : (zCells z).getD i .junk = .d (zD z.cells[i]) := by simp [zCells, List.getD, hi]
      have e2 : z.cells.toList.getD i undef = z.cells[i] := by simp [List.getD, hi]
      rw [e1, e2]
      exact ⟨zD_leaf ((Array.all_eq_true_iff_forall_mem.1 hl) _ (by simp)), .d _ _ (zD_ok _)⟩
    obtain ⟨h2, h3⟩ := hm.push (.cells z.cells t) ⟨.pointer (some ⟨w.heap.size, 0, none⟩), 0⟩ _ (blk_new w) hb
    refine ⟨_, _, ok, _, .inl ?_, h3, Names.push _ _, h2, .ptr _ _ w.heap.size 0 (by rw [← hm.hlen]; simp)⟩
    obtain ⟨i, hi, hz'⟩ := Option.bind_eq_some_iff.1 hz
    simp [execOp, ho, Instr.alloc, zeroValue, typeInfo, hi, hz', newVar, newRow]

/-- The entities, one turned. -/
theorem set_get {l : List Ent} {k j : Nat} {a x : Ent} (hk : k < l.length) (h : (l.set k a)[j]? = some x) : (j = k ∧ x = a) ∨ (j ≠ k ∧ l[j]? = some x) := by
  by_cases e : k = j
  · subst e; simp [hk] at h; exact .inl ⟨rfl, h.symm⟩
  · rw [List.getElem?_set_ne e] at h; exact .inr ⟨fun h' => e h'.symm, h⟩

/-- A block of one entity is written. -/
theorem Mem.upd {C : Cx} {ok : Nat → Prop} {H : List Hd} {w w' : World} (hm : Mem C ok H es w) {k : Nat} {e0 e : Ent} {h : Hd} {b : Nat} (hk : es[k]? = some e0) (hl0 : e0.live = true) (hh : H[k]? = some h) (hb : blkOf h.v = some b)
    (hos : w'.os = w.os) (htape : w'.tape = w.tape) (hout : w'.output = w.output) (hsize : w'.heap.size = w.heap.size)
    (hblk : ∀ c, c ≠ b → w'.heap[c]? = w.heap[c]?) (he : Grow ok w ok w' → EntOk ok w' H h e) : Mem C ok H (es.set k e) w' ∧ Grow ok w ok w' := by
  have h0 := hm.blk k e0 h b hk hl0 hh hb
  have hg : Grow ok w ok w' := fun c hc => ⟨hc, hblk c (fun e => h0.1 (e ▸ hc))⟩
  refine hm.change (fun c => c = b) hos htape hout (by omega) (fun c _ hc => hblk c hc) (fun c hc _ => by subst hc; exact ⟨h0.1, h0.2.2⟩) (fun _ h => h) (fun _ h => .inl h) (.refl _) (by simp [hm.hlen]) ?_
  intro j e' h' hj hh'
  have hkl : k < es.length := (List.getElem?_eq_some_iff.1 hk).1
  rcases set_get hkl hj with ⟨rfl, rfl⟩ | ⟨hne, hj'⟩
  · rw [hh] at hh'
    obtain rfl := Option.some.inj hh'
    refine .inr ⟨he hg, fun _ c hc => ?_⟩
    rw [hb] at hc
    obtain rfl := Option.some.inj hc
    refine ⟨h0.1, by omega, h0.2.2, fun k' e'' h'' hne hk' hl' hh'' hb'' => hne ?_⟩
    rcases set_get hkl hk' with ⟨rfl, _⟩ | ⟨_, hk''⟩
    · rfl
    · exact hm.dis k' j e'' e0 h'' h b hk'' hk hl' hl0 hh'' hh hb'' hb
  · refine .inl ⟨hj', hh', fun hl c hc hcb => hne ?_⟩
    subst hcb
    exact hm.dis j k e' e0 h' h c hj' hk hl hl0 hh' hh hc hb

theorem setRow_same' (w : World) (g : Nat) (cs : Array Value) (k : Nat) (h : k ≠ g) : (w.setRow g cs).heap[k]? = w.heap[k]? := setRow_other w g k cs h

/-- Cells set in a list. -/
def setAt {α : Type} (cs : List α) (off : Nat) (ys : List α) : List α := cs.take off ++ ys ++ cs.drop (off + ys.length)
theorem setAt_length {α : Type} {cs ys : List α} {off : Nat} (h : off + ys.length ≤ cs.length) : (setAt cs off ys).length = cs.length := by simp [setAt]; omega
theorem setAt_getD {α : Type} {cs ys : List α} {off : Nat} (h : off + ys.length ≤ cs.length) (i : Nat) (z : α) : (setAt cs off ys).getD i z = if off ≤ i ∧ i < off + ys.length then ys.getD (i - off) z else cs.getD i z := by
  unfold setAt
  have h1 : (cs.take off).length = off := by simp; omega
  by_cases hi : i < off
  · rw [if_neg (by omega)]
    simp only [List.getD]
    rw [List.append_assoc, List.getElem?_append_left (by omega), List.getElem?_take_of_lt hi]
  · by_cases hj : i < off + ys.length
    · rw [if_pos (by omega)]
      simp only [List.getD]
      rw [List.append_assoc, List.getElem?_append_right (by omega), h1, List.getElem?_append_left (by omega)]
    · rw [if_neg (by omega)]
      simp only [List.getD]
      rw [List.getElem?_append_right (by simp; omega), List.getElem?_drop]
      congr 2
      simp; omega

/-- Cells of a local variable are stored. -/
theorem ok_store_box {t : TypeId} {x y : Operand} {k off n : Nat} {cs : List AV} {v : AV} (hk : es[k]? = some (.box cs)) (hl : v.cells.all AV.leaf = true) (hs : ∀ w, (sizeOf t).run P w = .ok n w) (hn : v.cells.length = n) (hle : off + n ≤ cs.length) (ho : o.op = .store t x y) :
    OpOk P o [(x, .ptr k off), (y, v)] es .junk (es.set k (.box (setAt cs off v.cells))) :=
  .eff fun C ok H a w hm hn' => by
    have h1 := (mem2 hn').1
    have h2 := (mem2 hn').2
    simp only at h1 h2
    generalize he : a.eval x = u at h1
    obtain ⟨h, hh, hok⟩ := ent_at hm.ent hm.hlen hk
    obtain ⟨b, vs, T, hb, hblk, hvs, hrs⟩ := hok
    have hcells := h2.cellsRs hl
    cases h1 with
    | ptr _ _ b' s hH =>
      rw [hh] at hH
      obtain rfl := Option.some.inj hH
      simp at hb
      subst hb
      have hvl : (a.eval y).cells.toList.length = n := by rw [hcells.1, hn]
      have hvsz : vs.size = cs.length := by simpa using hvs
      have hsz : (a.eval y).cells.size = n := by simpa using hvl
      have hst := run_storeCells_at (P := P) b' off T (a.eval y).cells.toList 0 vs w hblk (by rw [hvl]; omega) (fun u hu => by
        obtain ⟨i, hi, rfl⟩ := List.getElem_of_mem hu
        have h5 := hcells.2 i (by rw [← hcells.1]; exact hi)
        have := h5.2.leaf h5.1
        rwa [getD_of_lt hi] at this)
      simp only [Nat.add_zero] at hst
      have hlt : b' < w.heap.size := (Array.getElem?_eq_some_iff.1 hblk).1
      obtain ⟨h3, h4⟩ := hm.upd (e := .box (setAt cs off v.cells)) (w' := w.setRow b' (vs.toList.take off ++ (a.eval y).cells.toList ++ vs.toList.drop (off + (a.eval y).cells.toList.length)).toArray) hk rfl hh rfl rfl rfl rfl (by simp [World.setRow]) (fun c hc => setRow_same' _ _ _ _ hc) (fun hg => by
        refine ⟨b', _, T, rfl, setRow_heap w b' vs _ T (0, 0) hblk, ?_, fun i hi => ?_⟩
        · have e1 : (vs.toList.take off ++ (a.eval y).cells.toList ++ vs.toList.drop (off + (a.eval y).cells.toList.length)) = setAt vs.toList off (a.eval y).cells.toList := rfl
          rw [e1, List.toList_toArray, setAt_length (by have := vs.length_toList; omega), setAt_length (by omega)]
          simpa using hvs
        · have e1 : (vs.toList.take off ++ (a.eval y).cells.toList ++ vs.toList.drop (off + (a.eval y).cells.toList.length)) = setAt vs.toList off (a.eval y).cells.toList := rfl
          rw [setAt_length (by omega)] at hi
          rw [e1, List.toList_toArray, setAt_getD (by have := vs.length_toList; omega), setAt_getD (by omega), hvl, hn]
          split
          · have h5 := hcells.2 (i - off) (by omega)
            exact ⟨h5.1, h5.2.mono hg (.refl _)⟩
          · exact ⟨(hrs i hi).1, (hrs i hi).2.mono hg (.refl _)⟩)
      refine ⟨undef, _, ok, H, .inr ⟨rfl, ?_⟩, h4, .refl _, h3, .junk _⟩
      simp only [execOp, ho, he, Instr.storeAt, Instr.sureAddr, storeVar, Sem.run_bind, Sem.run_pure, Result.andThen_ok, hs, hsz, ne_eq, not_true_eq_false, if_false, hst]
end
end Go.Proofs.Ytdhhcmdofnjhiaa
