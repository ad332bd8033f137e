/- Abstract data and values: what a slot holds, told apart from where it lies; abstract entities: the memory that a call owns. No program. No condition. -/
import Derived.Test.YtdhhcmdofnjhiaaBase
namespace Go.Proofs.Ytdhhcmdofnjhiaa
open Go.RowKit

/-- Data, whatever its addresses, in memory that will not turn. -/
inductive D where
  | lit (v : Value)
  | agg (cs : List D)
  | sl (es : List D)
  | ref (cs : List D) (off : Nat)
  | fn (f : Fn) (first cap : List D)

def D.cells : D → List D
  | .agg cs => cs
  | x => [x]

/-- May it lie in one cell? -/
def D.leaf : D → Bool
  | .lit v => v.oneCell'
  | .agg _ => false
  | _ => true

abbrev dz : D := .lit undef
abbrev cellAt (w : World) (b o : Nat) : Value := (w.cell? ⟨b, o, none⟩).getD undef

/-- The value v is the datum x, in world w; ok: the blocks that will not turn. -/
inductive RD (ok : Nat → Prop) (w : World) : D → Value → Prop
  | lit (v : Value) : RD ok w (.lit v) v
  | agg (cs : List D) (vs : Array Value) (hl : vs.size = cs.length) (hf : ∀ i, i < cs.length → (cs.getD i dz).leaf = true)
      (h : ∀ i, i < cs.length → RD ok w (cs.getD i dz) (vs.getD i undef)) : RD ok w (.agg cs) (.agg vs)
  | sl0 (ad : Option Addr) (cap : Nat) : RD ok w (.sl []) (.slice ad 0 cap)
  | sl (es : List D) (b off cap size : Nat) (hcap : es.length ≤ cap) (hok : ok b) (hs : ∀ i, i < es.length → (es.getD i dz).cells.length = size)
      (hf : ∀ i, i < es.length → ∀ j, j < size → ((es.getD i dz).cells.getD j dz).leaf = true)
      (hx : ∀ i, i < es.length → ∀ j, j < size → (w.cell? ⟨b, off + (i * size + j), none⟩).isSome = true)
      (hc : ∀ i, i < es.length → ∀ j, j < size → RD ok w ((es.getD i dz).cells.getD j dz) (cellAt w b (off + (i * size + j)))) :
      RD ok w (.sl es) (.slice (some ⟨b, off, none⟩) es.length cap)
  | ref (cs : List D) (off b o : Nat) (hok : ok b) (hf : ∀ i, i < cs.length → (cs.getD i dz).leaf = true)
      (hx : ∀ j, j < cs.length → (w.cell? ⟨b, o + j, none⟩).isSome = true)
      (hc : ∀ j, j < cs.length → RD ok w (cs.getD j dz) (cellAt w b (o + j))) : RD ok w (.ref cs off) (.pointer (some ⟨b, o + off, none⟩))
  | fn (f : Fn) (first cap : List D) (vs us : Array Value) (hl : vs.size = first.length) (hm : us.size = cap.length)
      (h : ∀ i, i < first.length → RD ok w (first.getD i dz) (vs.getD i undef)) (h' : ∀ i, i < cap.length → RD ok w (cap.getD i dz) (us.getD i undef)) :
      RD ok w (.fn f first cap) (.func f vs us)

/-- What was known stays known. -/
def Grow (ok : Nat → Prop) (w : World) (ok' : Nat → Prop) (w' : World) : Prop := ∀ b, ok b → ok' b ∧ w'.heap[b]? = w.heap[b]?

theorem Grow.refl (ok : Nat → Prop) (w : World) : Grow ok w ok w := fun _ h => ⟨h, rfl⟩
theorem Grow.trans {ok ok1 ok2 : Nat → Prop} {w w1 w2 : World} (h : Grow ok w ok1 w1) (k : Grow ok1 w1 ok2 w2) : Grow ok w ok2 w2 :=
  fun b hb => ⟨(k b (h b hb).1).1, ((k b (h b hb).1).2).trans (h b hb).2⟩
theorem Grow.cell {ok ok' : Nat → Prop} {w w' : World} (h : Grow ok w ok' w') {b o : Nat} (hb : ok b) : w'.cell? ⟨b, o, none⟩ = w.cell? ⟨b, o, none⟩ :=
  World.cell?_of_block (w := w) (a := ⟨b, o, none⟩) (h b hb).2

theorem RD.mono {ok ok' : Nat → Prop} {w w' : World} (hg : Grow ok w ok' w') {x : D} {v : Value} (h : RD ok w x v) : RD ok' w' x v := by
  induction h with
  | lit v => exact .lit v
  | agg cs vs hl hf _ ih => exact .agg cs vs hl hf ih
  | sl0 ad cap => exact .sl0 ad cap
  | sl es b off cap size hcap hok hs hf hx _ ih =>
    refine .sl es b off cap size hcap (hg b hok).1 hs hf (fun i hi j hj => ?_) (fun i hi j hj => ?_)
    · rw [hg.cell hok]; exact hx i hi j hj
    · unfold cellAt; rw [hg.cell hok]; exact ih i hi j hj
  | ref cs off b o hok hf hx _ ih =>
    refine .ref cs off b o (hg b hok).1 hf (fun j hj => ?_) (fun j hj => ?_)
    · rw [hg.cell hok]; exact hx j hj
    · unfold cellAt; rw [hg.cell hok]; exact ih j hj
  | fn f first cap vs us hl hm _ _ ih ih' => exact .fn f first cap vs us hl hm ih ih'

theorem RD.leaf {ok : Nat → Prop} {w : World} {x : D} {v : Value} (h : RD ok w x v) (hl : x.leaf = true) : v.oneCell' = true := by
  cases h <;> first | rfl | exact hl | (simp [D.leaf] at hl)

/-- What a slot holds: a datum; a pointer into an entity; the header of an own row; a pointer into an own row (element, cell); results; whatever. -/
inductive AV where
  | d (x : D)
  | ptr (k off : Nat)
  | osl (k : Nat)
  | eptr (k i off : Nat)
  | fn (f : Fn) (first cap : List AV)
  | tup (vs : List AV)
  | junk

/-- How many cells an element of an own row has. -/
def AV.leaf : AV → Bool
  | .d x => x.leaf
  | .tup _ | .junk => false
  | _ => true
def AV.cells : AV → List AV
  | .d x => x.cells.map .d
  | x => [x]

/-- What a call owns. -/
inductive Ent where
  | dead
  | box (cs : List AV)
  | arr (e : TypeId) (size : Nat) (es : List D)

def Ent.live : Ent → Bool
  | .dead => false
  | _ => true

/-- A handle: its value, and for a row the cells of an element. -/
structure Hd where
  v : Value
  size : Nat := 0

inductive R (ok : Nat → Prop) (w : World) (H : List Hd) : AV → Value → Prop
  | d (x : D) (v : Value) (h : RD ok w x v) : R ok w H (.d x) v
  | ptr (k off b s : Nat) (h : H[k]? = some ⟨.pointer (some ⟨b, 0, none⟩), s⟩) : R ok w H (.ptr k off) (.pointer (some ⟨b, off, none⟩))
  | osl (k : Nat) (ad : Option Addr) (n cap s : Nat) (h : H[k]? = some ⟨.slice ad n cap, s⟩) : R ok w H (.osl k) (.slice ad n cap)
  | eptr (k i off b n cap s : Nat) (h : H[k]? = some ⟨.slice (some ⟨b, 0, none⟩) n cap, s⟩) : R ok w H (.eptr k i off) (.pointer (some ⟨b, i * s + off, none⟩))
  | fn (f : Fn) (first cap : List AV) (vs us : Array Value) (hl : vs.size = first.length) (hm : us.size = cap.length) (h : ∀ i, i < first.length → R ok w H (first.getD i .junk) (vs.getD i undef))
      (h' : ∀ i, i < cap.length → R ok w H (cap.getD i .junk) (us.getD i undef)) : R ok w H (.fn f first cap) (.func f vs us)
  | tup (xs : List AV) (vs : Array Value) (hl : vs.size = xs.length) (h : ∀ i, i < xs.length → R ok w H (xs.getD i .junk) (vs.getD i undef)) : R ok w H (.tup xs) (.tuple vs)
  | junk (v : Value) : R ok w H .junk v

def Names (H H' : List Hd) : Prop := ∀ (k : Nat) (v : Hd), H[k]? = some v → H'[k]? = some v
theorem Names.refl (H : List Hd) : Names H H := fun _ _ h => h
theorem Names.trans {H H1 H2 : List Hd} (h : Names H H1) (k : Names H1 H2) : Names H H2 := fun i v hv => k i v (h i v hv)
theorem Names.push (H H' : List Hd) : Names H (H ++ H') := fun k v h => by
  rw [List.getElem?_append_left (List.getElem?_eq_some_iff.1 h).1]; exact h

theorem R.mono {ok ok' : Nat → Prop} {w w' : World} {H H' : List Hd} (hg : Grow ok w ok' w') (hn : Names H H') {x : AV} {v : Value} (h : R ok w H x v) : R ok' w' H' x v := by
  induction h with
  | d x v h => exact .d x v (h.mono hg)
  | ptr k off b s h => exact .ptr k off b s (hn _ _ h)
  | osl k ad n cap s h => exact .osl k ad n cap s (hn _ _ h)
  | eptr k i off b n cap s h => exact .eptr k i off b n cap s (hn _ _ h)
  | fn f first cap vs us hl hm _ _ ih ih' => exact .fn f first cap vs us hl hm ih ih'
  | tup xs vs hl _ ih => exact .tup xs vs hl ih
  | junk v => exact .junk v

theorem R.leaf {ok : Nat → Prop} {w : World} {H : List Hd} {x : AV} {v : Value} (h : R ok w H x v) (hl : x.leaf = true) : v.oneCell' = true := by
  cases h with
  | d x v h => exact h.leaf hl
  | tup => simp [AV.leaf] at hl
  | junk => simp [AV.leaf] at hl
  | _ => rfl

/-- Pointwise, each in one cell. -/
def Rs (ok : Nat → Prop) (w : World) (H : List Hd) (xs : List AV) (vs : List Value) : Prop :=
  vs.length = xs.length ∧ ∀ i, i < xs.length → (xs.getD i .junk).leaf = true ∧ R ok w H (xs.getD i .junk) (vs.getD i undef)
theorem Rs.mono {ok ok' : Nat → Prop} {w w' : World} {H H' : List Hd} (hg : Grow ok w ok' w') (hn : Names H H') {xs : List AV} {vs : List Value} (h : Rs ok w H xs vs) : Rs ok' w' H' xs vs :=
  ⟨h.1, fun i hi => ⟨(h.2 i hi).1, (h.2 i hi).2.mono hg hn⟩⟩

/-- The cells of a row of elements. -/
def flat (es : List D) : List AV := es.flatMap fun x => x.cells.map .d

def EntOk (ok : Nat → Prop) (w : World) (H : List Hd) (h : Hd) : Ent → Prop
  | .dead => True
  | .box cs => ∃ b vs T, h.v = .pointer (some ⟨b, 0, none⟩) ∧ w.heap[b]? = some (.cells vs T (0, 0)) ∧ Rs ok w H cs vs.toList
  | .arr e size es => h.size = size ∧ (∀ x ∈ es, x.cells.length = size) ∧ ∃ xs, w.ownsRow 0 e size h.v es.length xs ∧ Rs ok w H (flat es) xs

/-- The block behind a handle. -/
def blkOf : Value → Option Nat
  | .pointer (some a) => some a.block
  | .slice (some a) _ _ => some a.block
  | _ => none

/-- Against the world at the call nothing has turned but the blocks X. -/
structure Fr (w0 : World) (X : List Nat) (w : World) : Prop where
  os : w.os = w0.os
  tape : w.tape = w0.tape
  output : w.output = w0.output
  size : w0.heap.size ≤ w.heap.size
  block : ∀ k, k < w0.heap.size → k ∉ X → w.heap[k]? = w0.heap[k]?

theorem Fr.refl (w : World) (X : List Nat) : Fr w X w := ⟨rfl, rfl, rfl, Nat.le_refl _, fun _ _ _ => rfl⟩
theorem Fr.below {w0 w : World} (h : Fr w0 [] w) : Below w0.heap.size w0 w := ⟨h.os, h.tape, h.output, h.size, fun k hk => h.block k hk (by simp)⟩

/-- The call: the world in which it began, the blocks that may be read for good, those that may turn, its entities' handles. -/
structure Cx where
  w0 : World
  ok0 : Nat → Prop
  X : List Nat
  H0 : List Hd

/-- The memory in the middle of a call. -/
structure Mem (C : Cx) (ok : Nat → Prop) (H : List Hd) (es : List Ent) (w : World) : Prop where
  fr : Fr C.w0 C.X w
  okSub : ∀ b, C.ok0 b → ok b
  okSup : ∀ b, ok b → C.ok0 b ∨ C.w0.heap.size ≤ b ∨ b ∈ C.X
  okLt : ∀ b, ok b → b < w.heap.size
  names : Names C.H0 H
  hlen : H.length = es.length
  ent : ∀ (k : Nat) (e : Ent) (h : Hd), es[k]? = some e → H[k]? = some h → EntOk ok w H h e
  blk : ∀ (k : Nat) (e : Ent) (h : Hd) (b : Nat), es[k]? = some e → e.live = true → H[k]? = some h → blkOf h.v = some b → ¬ ok b ∧ b < w.heap.size ∧ (C.w0.heap.size ≤ b ∨ b ∈ C.X)
  dis : ∀ (k k' : Nat) (e e' : Ent) (h h' : Hd) (b : Nat), es[k]? = some e → es[k']? = some e' → e.live = true → e'.live = true → H[k]? = some h → H[k']? = some h' → blkOf h.v = some b → blkOf h'.v = some b → k = k'

theorem EntOk.mono {ok ok' : Nat → Prop} {w w' : World} {H H' : List Hd} {h : Hd} {e : Ent} (hg : Grow ok w ok' w') (hn : Names H H') (hb : e.live = true → ∀ b, blkOf h.v = some b → w'.heap[b]? = w.heap[b]?) (he : EntOk ok w H h e) : EntOk ok' w' H' h e := by
  cases e with
  | dead => trivial
  | box cs =>
    obtain ⟨b, vs, T, h1, h2, h3⟩ := he
    exact ⟨b, vs, T, h1, by rw [hb rfl b (by rw [h1]; rfl)]; exact h2, h3.mono hg hn⟩
  | arr e s es =>
    obtain ⟨h1, h2, xs, ⟨h3, h4⟩, h5⟩ := he
    refine ⟨h1, h2, xs, ⟨h3, ?_⟩, h5.mono hg hn⟩
    rcases h4 with h4 | ⟨g, cap, cur, h6, h7, h8, h9⟩
    · exact .inl h4
    · exact .inr ⟨g, cap, cur, h6, h7, by rw [hb rfl g (by rw [h6]; rfl)]; exact h8, h9⟩

theorem EntOk.drew {ok : Nat → Prop} {w : World} {H : List Hd} {h : Hd} {e : Ent} {n : Nat} (he : EntOk ok w H h e) : EntOk ok { w with drawn := n } H h e :=
  EntOk.mono (w := w) (ok := ok) (fun _ hb => ⟨hb, rfl⟩) (.refl _) (fun _ _ _ => rfl) he

/-- How operation o is shown: with its operands as told and the entities es it yields x, and the entities are es'. -/
def OpOk (P : Program) (o : Oper) (ns : List (Operand × AV)) (es : List Ent) (x : AV) (es' : List Ent) : Prop :=
  ∀ (C : Cx) (ok : Nat → Prop) (H : List Hd) (a : Act) (w : World) (Q : Exit → Act → World → Prop),
    Mem C ok H es w → (∀ n ∈ ns, R ok w H n.2 (a.eval n.1)) →
    o.wp P a w (fun a' w' => ∃ v ok' H', a' = a.put o.dst v ∧ Grow ok w ok' w' ∧ Names H H' ∧ Mem C ok' H' es' w' ∧ R ok' w' H' x v) Q

/-- An operation that turns nothing. -/
theorem OpOk.pure {P : Program} {o : Oper} {ns : List (Operand × AV)} {es : List Ent} {x : AV}
    (h : ∀ (ok : Nat → Prop) (H : List Hd) (a : Act) (w : World), (∀ (k : Nat) (e : Ent) (h : Hd), es[k]? = some e → H[k]? = some h → EntOk ok w H h e) → H.length = es.length → (∀ n ∈ ns, R ok w H n.2 (a.eval n.1)) → ∃ v, (execOp a.eval o).run P w = .ok (.value v) w ∧ R ok w H x v) : OpOk P o ns es x es := by
  intro C ok H a w Q hm hn
  obtain ⟨v, hr, hx⟩ := h ok H a w hm.ent hm.hlen hn
  unfold Oper.wp
  rw [hr]
  exact ⟨v, ok, H, rfl, .refl _ _, .refl _, hm, hx⟩

structure St where
  slots : List AV
  ents : List Ent
  base : Nat := 0

def St.get (σ : St) : Operand → AV
  | .tmp t => σ.slots.getD t .junk
  | .const v => .d (.lit v)
  | .global g => .d (.lit (.pointer (some ⟨g, 0, none⟩)))
  | .func f => .d (.fn (.func f) [] [])

def St.put (σ : St) (d : Option Tmp) (x : AV) (es : List Ent) : St :=
  ⟨match d with | some t => σ.slots.set t x | none => σ.slots, es, σ.base⟩

/-- One slot is written, the entities stay. -/
def St.put1 (σ : St) (d : Option Tmp) (x : AV) : St :=
  ⟨match d with | some t => σ.slots.set t x | none => σ.slots, σ.ents, σ.base⟩
theorem St.put1_eq (σ : St) (d : Option Tmp) (x : AV) : σ.put1 d x = σ.put d x σ.ents := rfl

structure Holds (C : Cx) (ok : Nat → Prop) (H : List Hd) (σ : St) (a : Act) (w : World) : Prop where
  mem : Mem C ok H σ.ents w
  size : a.tmps.size = σ.slots.length
  defers : a.defers = []
  base : C.H0.length = σ.base
  slot : ∀ t, t < σ.slots.length → R ok w H (σ.slots.getD t .junk) (a.tmps.getD t undef)

theorem getD_junk {l : List AV} {t : Nat} (h : ¬ t < l.length) : l.getD t .junk = .junk := by
  simp [List.getD, List.getElem?_eq_none (Nat.le_of_not_lt h)]

theorem Holds.get {C : Cx} {ok : Nat → Prop} {H : List Hd} {σ : St} {a : Act} {w : World} (h : Holds C ok H σ a w) (x : Operand) : R ok w H (σ.get x) (a.eval x) := by
  cases x with
  | tmp t =>
    show R ok w H (σ.slots.getD t .junk) (a.tmps.getD t undef)
    by_cases ht : t < σ.slots.length
    · exact h.slot t ht
    · rw [getD_junk ht]; exact .junk _
  | const v => exact .d _ _ (.lit v)
  | global g => exact .d _ _ (.lit _)
  | func f => exact .d _ _ (.fn (.func f) [] [] #[] #[] rfl rfl (fun i hi => by simp at hi) (fun i hi => by simp at hi))

theorem Holds.put {C : Cx} {ok ok' : Nat → Prop} {H H' : List Hd} {σ : St} {a : Act} {w w' : World} (h : Holds C ok H σ a w) (d : Option Tmp) {x : AV} {v : Value} {es' : List Ent}
    (hg : Grow ok w ok' w') (hn : Names H H') (hm : Mem C ok' H' es' w') (hx : R ok' w' H' x v) : Holds C ok' H' (σ.put d x es') (a.put d v) w' := by
  cases d with
  | none => exact ⟨hm, h.size, h.defers, h.base, fun t ht => (h.slot t ht).mono hg hn⟩
  | some d =>
    refine ⟨hm, by simp [St.put, Act.put, h.size], h.defers, h.base, fun t ht => ?_⟩
    simp only [St.put, List.length_set] at ht
    simp only [St.put, Act.put]
    by_cases e : d = t
    · subst e
      have e1 : (σ.slots.set d x).getD d .junk = x := by simp [List.getD, ht]
      have e2 : (a.tmps.setIfInBounds d v).getD d undef = v := by simp [Array.getD, h.size, ht]
      rw [e1, e2]; exact hx
    · have e1 : (σ.slots.set d x).getD t .junk = σ.slots.getD t .junk := by simp [List.getD, List.getElem?_set_ne e]
      have e2 : (a.tmps.setIfInBounds d v).getD t undef = a.tmps.getD t undef := by simp [Array.getD_eq_getD_getElem?, Array.getElem?_setIfInBounds_ne e]
      rw [e1, e2]; exact (h.slot t ht).mono hg hn

/-- The same value where the entities have new numbers. -/
def AV.back1 (π : List (Nat × Bool)) : AV → AV
  | .d x => .d x
  | .ptr k off => match π.idxOf? (k, true) with | some j => .ptr j off | none => .junk
  | .osl k => match π.idxOf? (k, true) with | some j => .osl j | none => .junk
  | .eptr k i off => match π.idxOf? (k, true) with | some j => .eptr j i off | none => .junk
  | _ => .junk
def AV.back (π : List (Nat × Bool)) : AV → AV
  | .fn f first cap => .fn f (first.map (AV.back1 π)) (cap.map (AV.back1 π))
  | .tup vs => .tup (vs.map (AV.back1 π))
  | x => x.back1 π
def Ent.back (π : List (Nat × Bool)) : Ent → Ent
  | .dead => .dead
  | .box cs => .box (cs.map (AV.back1 π))
  | .arr e s es => .arr e s es

theorem idx_names {π : List (Nat × Bool)} {H : List Hd} {k j : Nat} {h : Hd} (hj : π.idxOf? (k, true) = some j) (hk : H[k]? = some h) : (π.map fun p => H.getD p.1 ⟨undef, 0⟩)[j]? = some h := by
  rw [List.idxOf?, List.findIdx?_eq_some_iff_getElem] at hj
  obtain ⟨hlt, he, -⟩ := hj
  have e : π[j] = (k, true) := by simpa using he
  simp [hlt, e, List.getD, hk]

theorem R.back1 {ok : Nat → Prop} {w : World} {H : List Hd} (π : List (Nat × Bool)) {x : AV} {v : Value} (h : R ok w H x v) : R ok w (π.map fun p => H.getD p.1 ⟨undef, 0⟩) (x.back1 π) v := by
  cases h with
  | d x v h => exact .d x v h
  | ptr k off b s h =>
    simp only [AV.back1]
    split <;> rename_i j hj
    · exact .ptr _ off b s (idx_names hj h)
    · exact .junk _
  | osl k ad n cap s h =>
    simp only [AV.back1]
    split <;> rename_i j hj
    · exact .osl _ ad n cap s (idx_names hj h)
    · exact .junk _
  | eptr k i off b n cap s h =>
    simp only [AV.back1]
    split <;> rename_i j hj
    · exact .eptr _ i off b n cap s (idx_names hj h)
    · exact .junk _
  | fn f first cap vs us hl hm h h' => exact .junk _
  | tup xs vs hl h => exact .junk _
  | junk v => exact .junk _

theorem getD_map_junk (f : AV → AV) (l : List AV) (i : Nat) (h : i < l.length) : (l.map f).getD i .junk = f (l.getD i .junk) := by
  simp [List.getD, h]

theorem R.back {ok : Nat → Prop} {w : World} {H : List Hd} (π : List (Nat × Bool)) {x : AV} {v : Value} (h : R ok w H x v) : R ok w (π.map fun p => H.getD p.1 ⟨undef, 0⟩) (x.back π) v := by
  cases h with
  | fn f first cap vs us hl hm h h' =>
    exact .fn f _ _ vs us (by simp [hl]) (by simp [hm]) (fun i hi => by rw [List.length_map] at hi; rw [getD_map_junk _ _ _ hi]; exact (h i hi).back1 π) (fun i hi => by rw [List.length_map] at hi; rw [getD_map_junk _ _ _ hi]; exact (h' i hi).back1 π)
  | tup xs vs hl h => exact .tup _ vs (by simp [hl]) (fun i hi => by rw [List.length_map] at hi; rw [getD_map_junk _ _ _ hi]; exact (h i hi).back1 π)
  | d x v h => exact (R.d x v h).back1 π
  | ptr k off b s h => exact (R.ptr k off b s h).back1 π
  | osl k ad n cap s h => exact (R.osl k ad n cap s h).back1 π
  | eptr k i off b n cap s h => exact (R.eptr k i off b n cap s h).back1 π
  | junk v => exact .junk _

/-- The cells of a box stay in one cell each. -/
def Ent.backOk (π : List (Nat × Bool)) : Ent → Bool
  | .box cs => cs.all fun x => (x.back1 π).leaf
  | _ => true

/-- May the entities be numbered anew so? -/
def normOk (base : Nat) (es : List Ent) (π : List (Nat × Bool)) : Bool :=
  π.all (fun p => decide (p.1 < es.length)) && decide ((π.filterMap fun p => if p.2 then some p.1 else none).Nodup) && ((π.take base).map (·.1) == List.range base) && π.all fun p => (es.getD p.1 .dead).backOk π

def entsNorm (es : List Ent) (π : List (Nat × Bool)) : List Ent := π.map fun p => if p.2 then (es.getD p.1 .dead).back π else .dead

theorem nodup_kept : ∀ {π : List (Nat × Bool)}, (π.filterMap fun p => if p.2 then some p.1 else none).Nodup → ∀ (i j k : Nat), π[i]? = some (k, true) → π[j]? = some (k, true) → i = j
  | [], _, i, j, k, h, _ => by simp at h
  | p :: π, hn, i, j, k, hi, hj => by
    have hmem : ∀ (n : Nat), π[n]? = some (k, true) → k ∈ π.filterMap fun p => if p.2 then some p.1 else none := fun n h => by
      rw [List.mem_filterMap]; exact ⟨_, List.mem_of_getElem? h, rfl⟩
    have hn2 : (π.filterMap fun p => if p.2 then some p.1 else none).Nodup := by
      rw [List.filterMap_cons] at hn
      split at hn
      · exact hn
      · exact (List.nodup_cons.1 hn).2
    match i, j with
    | 0, 0 => rfl
    | 0, j + 1 =>
      simp at hi hj
      subst hi
      simp only [List.filterMap_cons, if_true] at hn
      exact absurd (hmem j hj) (List.nodup_cons.1 hn).1
    | i + 1, 0 =>
      simp at hi hj
      subst hj
      simp only [List.filterMap_cons, if_true] at hn
      exact absurd (hmem i hi) (List.nodup_cons.1 hn).1
    | i + 1, j + 1 => rw [nodup_kept hn2 i j k (by simpa using hi) (by simpa using hj)]

theorem EntOk.back {ok : Nat → Prop} {w : World} {H : List Hd} {h : Hd} {e : Ent} (π : List (Nat × Bool)) (hb : e.backOk π = true) (he : EntOk ok w H h e) : EntOk ok w (π.map fun p => H.getD p.1 ⟨undef, 0⟩) h (e.back π) := by
  cases e with
  | dead => trivial
  | box cs =>
    obtain ⟨b, vs, T, h1, h2, h3, h4⟩ := he
    refine ⟨b, vs, T, h1, h2, by simpa using h3, fun i hi => ?_⟩
    rw [List.length_map] at hi
    rw [getD_map_junk _ _ _ hi]
    refine ⟨?_, (h4 i hi).2.back1 π⟩
    simp only [Ent.backOk, List.all_eq_true] at hb
    exact hb _ (by simp [List.getD, hi])
  | arr e s es =>
    obtain ⟨h1, h2, xs, h3, h4, h5⟩ := he
    refine ⟨h1, h2, xs, h3, h4, fun i hi => ⟨(h5 i hi).1, ?_⟩⟩
    have h6 := (h5 i hi).2
    have hm : (flat es).getD i .junk ∈ flat es := by simp [List.getD, hi]
    unfold flat at hm ⊢
    simp only [List.mem_flatMap, List.mem_map] at hm
    obtain ⟨x, _, y, _, hy⟩ := hm
    unfold flat at h6
    rw [← hy] at h6 ⊢
    cases h6 with | d _ _ h => exact .d _ _ h

theorem back_live {π : List (Nat × Bool)} {e : Ent} : (e.back π).live = e.live := by cases e <;> rfl

theorem Mem.norm {C : Cx} {ok : Nat → Prop} {H : List Hd} {es : List Ent} {w : World} (hm : Mem C ok H es w) (π : List (Nat × Bool)) (hok : normOk C.H0.length es π = true) :
    Mem C ok (π.map fun p => H.getD p.1 ⟨undef, 0⟩) (entsNorm es π) w := by
  unfold normOk at hok
  simp only [Bool.and_eq_true, decide_eq_true_eq, beq_iff_eq, List.all_eq_true] at hok
  obtain ⟨⟨⟨hlt, hnd⟩, hpre⟩, hbk⟩ := hok
  have hget : ∀ (j : Nat) (h : Hd), (π.map fun p => H.getD p.1 ⟨undef, 0⟩)[j]? = some h → ∃ p, π[j]? = some p ∧ p.1 < es.length ∧ H[p.1]? = some h := by
    intro j h hj
    rw [List.getElem?_map] at hj
    cases hp : π[j]? with
    | none => rw [hp] at hj; simp at hj
    | some p =>
      rw [hp] at hj
      have hk : p.1 < es.length := hlt p (List.mem_of_getElem? hp)
      refine ⟨p, rfl, hk, ?_⟩
      have hkH : p.1 < H.length := by rw [hm.hlen]; exact hk
      simp [List.getD, hkH] at hj ⊢
      exact hj
  have hent : ∀ (j : Nat) (p : Nat × Bool) (e : Ent), (entsNorm es π)[j]? = some e → π[j]? = some p → p.1 < es.length → (p.2 = false ∧ e = .dead) ∨ (p.2 = true ∧ ∃ e0, es[p.1]? = some e0 ∧ e = e0.back π ∧ p ∈ π) := by
    intro j p e hj hp hk
    unfold entsNorm at hj
    rw [List.getElem?_map, hp] at hj
    cases hb : p.2 with
    | false => simp [hb] at hj; exact .inl ⟨rfl, hj.symm⟩
    | true =>
      simp [hb, List.getD, hk] at hj
      exact .inr ⟨rfl, es[p.1], by simp [hk], hj.symm, List.mem_of_getElem? hp⟩
  refine ⟨hm.fr, hm.okSub, hm.okSup, hm.okLt, ?_, by simp [entsNorm], ?_, ?_, ?_⟩
  · intro k v hv
    have hk : k < C.H0.length := (List.getElem?_eq_some_iff.1 hv).1
    have h1 : ((π.take C.H0.length).map (·.1))[k]? = some k := by rw [hpre]; simp [hk]
    rw [List.getElem?_map, List.getElem?_take_of_lt hk] at h1
    have h2 := hm.names k v hv
    cases hp : π[k]? with
    | none => rw [hp] at h1; simp at h1
    | some p =>
      rw [hp] at h1
      have hpk : p.1 = k := by simpa using h1
      rw [List.getElem?_map, hp]
      simp [List.getD, hpk, h2]
  · intro j e h hj hh
    obtain ⟨p, hp, hk, hH⟩ := hget j h hh
    rcases hent j p e hj hp hk with ⟨_, rfl⟩ | ⟨_, e0, he0, rfl, hmem⟩
    · trivial
    · refine (hm.ent p.1 e0 h he0 hH).back π ?_
      have := hbk p hmem
      simpa [List.getD, he0] using this
  · intro j e h b hj hl hh hb
    obtain ⟨p, hp, hk, hH⟩ := hget j h hh
    rcases hent j p e hj hp hk with ⟨_, rfl⟩ | ⟨_, e0, he0, rfl, hmem⟩
    · cases hl
    · rw [back_live] at hl
      exact hm.blk p.1 e0 h b he0 hl hH hb
  · intro j j' e e' h h' b hj hj' hl hl' hh hh' hb hb'
    obtain ⟨p, hp, hk, hH⟩ := hget j h hh
    obtain ⟨p', hp', hk', hH'⟩ := hget j' h' hh'
    rcases hent j p e hj hp hk with ⟨_, rfl⟩ | ⟨hpt, e0, he0, rfl, hmem⟩
    · cases hl
    · rcases hent j' p' e' hj' hp' hk' with ⟨_, rfl⟩ | ⟨hpt', e0', he0', rfl, hmem'⟩
      · cases hl'
      · rw [back_live] at hl hl'
        have hkk := hm.dis p.1 p'.1 e0 e0' h h' b he0 he0' hl hl' hH hH' hb hb'
        obtain ⟨k, bb⟩ := p
        obtain ⟨k', bb'⟩ := p'
        simp only at hkk hpt hpt'
        subst hkk; subst hpt; subst hpt'
        exact nodup_kept hnd j j' k hp hp'

def slotsNorm (π : List (Nat × Bool)) : List Bool → List AV → List AV
  | _, [] => []
  | true :: m, x :: xs => x.back π :: slotsNorm π m xs
  | false :: m, _ :: xs => .junk :: slotsNorm π m xs
  | [], _ :: xs => .junk :: slotsNorm π [] xs
theorem slotsNorm_length (π : List (Nat × Bool)) : ∀ (m : List Bool) (l : List AV), (slotsNorm π m l).length = l.length
  | _, [] => by unfold slotsNorm; rfl
  | true :: m, x :: xs => by simp [slotsNorm, slotsNorm_length π m xs]
  | false :: m, x :: xs => by simp [slotsNorm, slotsNorm_length π m xs]
  | [], x :: xs => by simp [slotsNorm, slotsNorm_length π [] xs]
theorem slotsNorm_get (π : List (Nat × Bool)) : ∀ (m : List Bool) (l : List AV) (t : Nat), (slotsNorm π m l).getD t .junk = (l.getD t .junk).back π ∨ (slotsNorm π m l).getD t .junk = .junk
  | _, [], t => by unfold slotsNorm; right; simp
  | true :: m, x :: xs, 0 => by left; simp [slotsNorm]
  | false :: m, x :: xs, 0 => by right; simp [slotsNorm]
  | [], x :: xs, 0 => by right; simp [slotsNorm]
  | true :: m, x :: xs, t + 1 => by simpa [slotsNorm] using slotsNorm_get π m xs t
  | false :: m, x :: xs, t + 1 => by simpa [slotsNorm] using slotsNorm_get π m xs t
  | [], x :: xs, t + 1 => by simpa [slotsNorm] using slotsNorm_get π [] xs t

/-- A state of which less is told: some slots are forgotten, some entities given up, the others numbered anew. -/
def Sub (σ S : St) : Prop := ∃ (m : List Bool) (π : List (Nat × Bool)), normOk σ.base σ.ents π = true ∧ S = ⟨slotsNorm π m σ.slots, entsNorm σ.ents π, σ.base⟩

theorem Holds.sub {C : Cx} {ok : Nat → Prop} {H : List Hd} {σ S : St} {a : Act} {w : World} (h : Holds C ok H σ a w) (hs : Sub σ S) : ∃ H', Holds C ok H' S a w := by
  obtain ⟨m, π, hok, rfl⟩ := hs
  refine ⟨π.map fun p => H.getD p.1 ⟨undef, 0⟩, h.mem.norm π (h.base ▸ hok), by simp [slotsNorm_length, h.size], h.defers, h.base, fun t ht => ?_⟩
  rcases slotsNorm_get π m σ.slots t with e | e
  · simp only [e]
    exact (h.get (.tmp t)).back π
  · simp only [e]; exact .junk _
end Go.Proofs.Ytdhhcmdofnjhiaa
