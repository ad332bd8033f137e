/- Control over abstract states: chains of operations, code, loops, calls. No program. No condition. -/
import Derived.Test.YtdhhcmdofnjhiaaAv
import Derived.Test.YtdhhcmdofnjhiaaStab
namespace Go.Proofs.Ytdhhcmdofnjhiaa
open Go.RowKit

/-- The guard of an operation, decided: it is taken. -/
def GuardYes (ops : Array Oper) (σ : St) (g : Option (Nat × Bool)) : Prop := g = none ∨
  ∃ j want d b, g = some (j, want) ∧ (ops[j]?).bind (·.dst) = some d ∧ σ.slots.getD d .junk = .d (.lit (.bool b)) ∧ b = want
def GuardNo (ops : Array Oper) (σ : St) (g : Option (Nat × Bool)) : Prop :=
  ∃ j want d v, g = some (j, want) ∧ (ops[j]?).bind (·.dst) = some d ∧ σ.slots.getD d .junk = .d (.lit v) ∧ (v = .bool (!want) ∨ v = undef)
theorem guardNo_of {ops : Array Oper} {σ : St} {g : Option (Nat × Bool)} (j : Nat) (want : Bool) (d : Nat) (b : Bool) (hg : g = some (j, want)) (hd : (ops[j]?).bind (·.dst) = some d) (hs : σ.slots.getD d .junk = .d (.lit (.bool b))) (hb : b = !want) : GuardNo ops σ g := ⟨j, want, d, _, hg, hd, hs, .inl (by rw [hb])⟩
theorem guardNo_undef {ops : Array Oper} {σ : St} {g : Option (Nat × Bool)} (j : Nat) (want : Bool) (d : Nat) (hg : g = some (j, want)) (hd : (ops[j]?).bind (·.dst) = some d) (hs : σ.slots.getD d .junk = .d (.lit undef)) : GuardNo ops σ g := ⟨j, want, d, _, hg, hd, hs, .inr rfl⟩

theorem R.bool {ok : Nat → Prop} {w : World} {H : List Hd} {u v : Value} (h : R ok w H (.d (.lit u)) v) : v = u := by
  cases h with | d _ _ h => cases h; rfl

theorem yielded_lit {C : Cx} {ok : Nat → Prop} {H : List Hd} {σ : St} {a : Act} {w : World} (h : Holds C ok H σ a w) {ops : Array Oper} {j d : Nat} {v : Value}
    (hj : (ops[j]?).bind (·.dst) = some d) (hb : σ.slots.getD d .junk = .d (.lit v)) : yielded ops a.tmps j = (match v with | .bool b => some b | _ => none) := by
  have hd : d < σ.slots.length := by
    apply Classical.byContradiction
    intro hn
    rw [getD_junk hn] at hb; cases hb
  have hv := (hb ▸ h.slot d hd).bool
  have hs : a.tmps[d]? = some v := by
    have : d < a.tmps.size := by rw [h.size]; exact hd
    simp [Array.getD, this] at hv
    simp [this, hv]
  unfold yielded
  rw [hj]
  simp only [Option.bind_some, hs]
  cases v <;> rfl
theorem yielded_of {C : Cx} {ok : Nat → Prop} {H : List Hd} {σ : St} {a : Act} {w : World} (h : Holds C ok H σ a w) {ops : Array Oper} {j d : Nat} {b : Bool}
    (hj : (ops[j]?).bind (·.dst) = some d) (hb : σ.slots.getD d .junk = .d (.lit (.bool b))) : yielded ops a.tmps j = some b := by
  have hd : d < σ.slots.length := by
    apply Classical.byContradiction
    intro hn
    rw [getD_junk hn] at hb; cases hb
  have hv := (hb ▸ h.slot d hd).bool
  have hs : a.tmps[d]? = some (.bool b) := by
    have : d < a.tmps.size := by rw [h.size]; exact hd
    simp [Array.getD, this] at hv
    simp [this, hv]
  unfold yielded
  rw [hj]
  simp only [Option.bind_some, hs]

theorem wanted_yes {C : Cx} {ok : Nat → Prop} {H : List Hd} {σ : St} {a : Act} {w : World} (h : Holds C ok H σ a w) {ops : Array Oper} {o : Oper} (hg : GuardYes ops σ o.guard) : Region.wanted o (yielded ops a.tmps) = true := by
  unfold Region.wanted
  rcases hg with hg | ⟨j, want, d, b, hg, hj, hb, rfl⟩
  · rw [hg]
  · rw [hg]
    show (yielded ops a.tmps j == some b) = true
    rw [yielded_of h hj hb]; simp
theorem wanted_no {C : Cx} {ok : Nat → Prop} {H : List Hd} {σ : St} {a : Act} {w : World} (h : Holds C ok H σ a w) {ops : Array Oper} {o : Oper} (hg : GuardNo ops σ o.guard) : Region.wanted o (yielded ops a.tmps) = false := by
  unfold Region.wanted
  obtain ⟨j, want, d, v, hg, hj, hb, hv⟩ := hg
  rw [hg]
  show (yielded ops a.tmps j == some want) = false
  rw [yielded_lit h hj hb]
  rcases hv with rfl | rfl
  · simp
  · rfl

/-- What the operands are asked to be. -/
def needs (σ : St) : List (Operand × AV) → Prop
  | [] => True
  | n :: ns => σ.get n.1 = n.2 ∧ needs σ ns
theorem needs_mem {σ : St} : ∀ {ns : List (Operand × AV)}, needs σ ns → ∀ n ∈ ns, σ.get n.1 = n.2
  | [], _, n, h => by simp at h
  | m :: ns, hn, n, h => by
    rcases List.mem_cons.1 h with rfl | h
    · exact hn.1
    · exact needs_mem hn.2 n h

def tmpsOf (o : Oper) : List Tmp := o.op.operands.toList.filterMap fun | .tmp t => some t | _ => none
def needTmps (ns : List (Operand × AV)) : List Tmp := ns.filterMap fun n => match n.1 with | .tmp t => some t | _ => none
def StepFact (P : Program) (ops : Array Oper) (σ : St) (x : AV) (E : List Ent) (bar : Bool) (o : Oper) : Prop :=
  ((∃ ns, OpOk P o ns σ.ents x E ∧ needs σ ns ∧ (needTmps ns).all (tmpsOf o).contains = true ∧ GuardYes ops σ o.guard) ∨ (x = .d (.lit undef) ∧ E = σ.ents ∧ GuardNo ops σ o.guard)) ∧ (bar = false → E = σ.ents)
theorem step_yes {P : Program} {ops : Array Oper} {σ : St} {x : AV} {o : Oper} {ns : List (Operand × AV)} (h : OpOk P o ns σ.ents x σ.ents) (hn : needs σ ns) (hg : GuardYes ops σ o.guard) (ht : (needTmps ns).all (tmpsOf o).contains = true) : StepFact P ops σ x σ.ents false o :=
  ⟨.inl ⟨ns, h, hn, ht, hg⟩, fun _ => rfl⟩
theorem step_no {P : Program} {ops : Array Oper} {σ : St} {o : Oper} (hg : GuardNo ops σ o.guard) : StepFact P ops σ (.d (.lit undef)) σ.ents false o := ⟨.inr ⟨rfl, rfl, hg⟩, fun _ => rfl⟩
theorem OpOk.cast {P : Program} {o : Oper} {ns : List (Operand × AV)} {es es' : List Ent} {x x' : AV} (h : OpOk P o ns es x es') (e : x = x') : OpOk P o ns es x' es' := e ▸ h
theorem condAV {b c : Bool} (h : some b = some c) : AV.d (.lit (.bool b)) = AV.d (.lit (.bool c)) := by rw [Option.some.inj h]

/-- The operations, one after the other. -/
inductive Chain (P : Program) (ops : Array Oper) : List Oper → St → St → Prop
  | nil (σ : St) : Chain P ops [] σ σ
  | op {o : Oper} {rest : List Oper} {σ σ' : St} {ns : List (Operand × AV)} {x : AV} (d : Option Tmp) (h : OpOk P o ns σ.ents x σ.ents) (hn : needs σ ns) (hg : GuardYes ops σ o.guard) (hd : o.dst = d)
      (k : Chain P ops rest (σ.put1 d x) σ') : Chain P ops (o :: rest) σ σ'
  | oe {o : Oper} {rest : List Oper} {σ σ' : St} {ns : List (Operand × AV)} {x : AV} {es' : List Ent} (d : Option Tmp) (E : List Ent) (h : OpOk P o ns σ.ents x es') (he : es' = E) (hn : needs σ ns) (hg : GuardYes ops σ o.guard) (hd : o.dst = d)
      (k : Chain P ops rest (σ.put d x E) σ') : Chain P ops (o :: rest) σ σ'
  | skip {o : Oper} {rest : List Oper} {σ σ' : St} (d : Option Tmp) (hg : GuardNo ops σ o.guard) (hd : o.dst = d) (k : Chain P ops rest (σ.put1 d (.d (.lit undef))) σ') : Chain P ops (o :: rest) σ σ'
  | any {o : Oper} {rest : List Oper} {σ σ' : St} {x : AV} (d : Option Tmp) (h : StepFact P ops σ x σ.ents false o) (hd : o.dst = d) (k : Chain P ops rest (σ.put1 d x) σ') : Chain P ops (o :: rest) σ σ'
  | anyE {o : Oper} {rest : List Oper} {σ σ' : St} {x : AV} {E : List Ent} {bar : Bool} (d : Option Tmp) (h : StepFact P ops σ x E bar o) (hd : o.dst = d) (k : Chain P ops rest (σ.put d x E) σ') : Chain P ops (o :: rest) σ σ'
  | conv {rest : List Oper} {σ σ' : St} (σ2 : St) (h : ∀ C ok H a w, Holds C ok H σ a w → ∃ ok', Holds C ok' H σ2 a w) (k : Chain P ops rest σ2 σ') : Chain P ops rest σ σ'

theorem Chain.sound {P : Program} {ops : Array Oper} {l : List Oper} {σ σ' : St} (h : Chain P ops l σ σ') {C : Cx} {H0 : List Hd} {Q : Exit → Act → World → Prop} :
    ∀ {ok : Nat → Prop} {H : List Hd} {a : Act} {w : World}, Holds C ok H σ a w → Names H0 H → (∀ ok' H' a' w', Holds C ok' H' σ' a' w' → Names H0 H' → Q .normal a' w') → wpList P ops Q l a w := by
  induction h with
  | nil σ => intro ok H a w hh hn hQ; exact hQ ok H a w hh hn
  | @op o rest σ σ' ns x d ho hn hg hd k ih =>
    intro ok H a w hh hnm hQ
    subst hd
    unfold wpList
    rw [if_pos (wanted_yes hh hg)]
    refine .inl (Oper.wp_mono ?_ (ho C ok H a w Q hh.mem (fun n hn' => needs_mem hn n hn' ▸ hh.get n.1)))
    rintro a' w' ⟨v, ok', H', rfl, hgr, hnn, hm, hx⟩
    exact ih (hh.put o.dst hgr hnn hm hx) (hnm.trans hnn) hQ
  | @oe o rest σ σ' ns x es' d E ho he hn hg hd k ih =>
    intro ok H a w hh hnm hQ
    subst hd
    subst he
    unfold wpList
    rw [if_pos (wanted_yes hh hg)]
    refine .inl (Oper.wp_mono ?_ (ho C ok H a w Q hh.mem (fun n hn' => needs_mem hn n hn' ▸ hh.get n.1)))
    rintro a' w' ⟨v, ok', H', rfl, hgr, hnn, hm, hx⟩
    exact ih (hh.put o.dst hgr hnn hm hx) (hnm.trans hnn) hQ
  | @skip o rest σ σ' d hg hd k ih =>
    intro ok H a w hh hnm hQ
    subst hd
    unfold wpList
    rw [if_neg (by rw [wanted_no hh hg]; simp)]
    exact ih (hh.put o.dst (.refl _ _) (.refl _) hh.mem (.d _ _ (.lit _))) hnm hQ
  | @any o rest σ σ' x d hs hd k ih =>
    intro ok H a w hh hnm hQ
    subst hd
    unfold wpList
    rcases hs.1 with ⟨ns, ho, hn, _, hg⟩ | ⟨rfl, _, hg⟩
    · rw [if_pos (wanted_yes hh hg)]
      refine .inl (Oper.wp_mono ?_ (ho C ok H a w Q hh.mem (fun n hn' => needs_mem hn n hn' ▸ hh.get n.1)))
      rintro a' w' ⟨v, ok', H', rfl, hgr, hnn, hm, hx⟩
      exact ih (hh.put o.dst hgr hnn hm hx) (hnm.trans hnn) hQ
    · rw [if_neg (by rw [wanted_no hh hg]; simp)]
      exact ih (hh.put o.dst (.refl _ _) (.refl _) hh.mem (.d _ _ (.lit _))) hnm hQ
  | @anyE o rest σ σ' x E bar d hs hd k ih =>
    intro ok H a w hh hnm hQ
    subst hd
    unfold wpList
    rcases hs.1 with ⟨ns, ho, hn, _, hg⟩ | ⟨rfl, rfl, hg⟩
    · rw [if_pos (wanted_yes hh hg)]
      refine .inl (Oper.wp_mono ?_ (ho C ok H a w Q hh.mem (fun n hn' => needs_mem hn n hn' ▸ hh.get n.1)))
      rintro a' w' ⟨v, ok', H', rfl, hgr, hnn, hm, hx⟩
      exact ih (hh.put o.dst hgr hnn hm hx) (hnm.trans hnn) hQ
    · rw [if_neg (by rw [wanted_no hh hg]; simp)]
      exact ih (hh.put o.dst (.refl _ _) (.refl _) hh.mem (.d _ _ (.lit _))) hnm hQ
  | conv σ2 hc k ih =>
    intro ok H a w hh hnm hQ
    obtain ⟨ok', hh'⟩ := hc C ok H a w hh
    exact ih hh' hnm hQ

/-- Code over abstract states. -/
def SPr (P : Program) (c : Code) (σ : St) (Q : Exit → St → Prop) : Prop :=
  ∀ (C : Cx) (ok : Nat → Prop) (H : List Hd) (a : Act) (w : World), Holds C ok H σ a w → c.wp P (fun e a' w' => ∃ ok' H' σ', Holds C ok' H' σ' a' w' ∧ Q e σ') a w
/-- The same, sealed. -/
structure SP (P : Program) (c : Code) (σ : St) (Q : Exit → St → Prop) : Prop where
  run : SPr P c σ Q

section
variable {P : Program} {σ σ' : St} {Q : Exit → St → Prop}

theorem SP.mono {c : Code} {Q' : Exit → St → Prop} (h : SP P c σ Q) (hq : ∀ e σ, Q e σ → Q' e σ) : SP P c σ Q' :=
  ⟨fun C ok H a w hh => wp_mono (h.run C ok H a w hh) fun _ _ _ ⟨ok', H', σ', h1, h2⟩ => ⟨ok', H', σ', h1, hq _ _ h2⟩⟩

theorem SP.region {id : Nat} {ops : Array Oper} (h : Chain P ops ops.toList σ σ') (hQ : Q .normal σ') : SP P (.region id ops false) σ Q := ⟨fun C ok H a w hh =>
  wp_region_list (h.sound hh (.refl H) fun ok' H' a' w' h1 _ => ⟨ok', H', σ', h1, hQ⟩)⟩

theorem SP.skip (h : Q .normal σ) : SP P .skip σ Q := ⟨fun _ ok H a w hh => wp_skip ⟨ok, H, σ, hh, h⟩⟩
theorem SP.label {l : Nat} (h : Q .normal σ) : SP P (.label l) σ Q := ⟨fun _ ok H a w hh => wp_label ⟨ok, H, σ, hh, h⟩⟩
theorem SP.exit {i : Nat} (h : Q (.exit i) σ) : SP P (.exit i) σ Q := ⟨fun _ ok H a w hh => wp_exit ⟨ok, H, σ, hh, h⟩⟩
theorem SP.ret (h : Q .ret σ) : SP P .ret σ Q := ⟨fun _ ok H a w hh => wp_ret ⟨ok, H, σ, hh, h⟩⟩

/-- What behind a first part is asked. -/
def seqQ (K : St → Prop) (Q : Exit → St → Prop) : Exit → St → Prop
  | .normal, σ => K σ
  | e, σ => Q e σ
theorem SP.seq {x y : Code} (K : St → Prop) (hx : SP P x σ (seqQ K Q)) (hy : ∀ σ', K σ' → SP P y σ' Q) : SP P (.seq x y) σ Q := ⟨fun C ok H a w hh =>
  wp_seq (wp_mono (hx.run C ok H a w hh) (by
    rintro e a' w' ⟨ok', H', σ', h1, h2⟩
    cases e with
    | normal => exact (hy σ' h2).run C ok' H' a' w' h1
    | _ => exact ⟨ok', H', σ', h1, h2⟩))⟩
/-- The first part ends in one state. -/
theorem SP.seq1 {x y : Code} (σ1 : St) (hx : SP P x σ (seqQ (fun σ' => σ' = σ1) Q)) (hy : SP P y σ1 Q) : SP P (.seq x y) σ Q := SP.seq _ hx (fun _ e => e ▸ hy)
/-- A region first. -/
theorem SP.rseq {id : Nat} {ops : Array Oper} {y : Code} (h : Chain P ops ops.toList σ σ') (hy : SP P y σ' Q) : SP P (.seq (.region id ops false) y) σ Q :=
  SP.seq (fun s => s = σ') (.region h rfl) (fun _ e => e ▸ hy)

theorem SP.cond {c : Operand} {x y : Code} (b : Bool) (hc : σ.get c = .d (.lit (.bool b))) (ht : b = true → SP P x σ Q) (hf : b = false → SP P y σ Q) : SP P (.cond c x y) σ Q := by
  refine ⟨fun C ok H a w hh => ?_⟩
  have e := (hc ▸ hh.get c).bool
  exact wp_cond_split e (fun h => (ht h).run C ok H a w hh) (fun h => (hf h).run C ok H a w hh)

def blockQ (i : Nat) (Q : Exit → St → Prop) : Exit → St → Prop
  | .exit j, σ => if j = i then Q .normal σ else Q (.exit j) σ
  | e, σ => Q e σ
theorem SP.block {i : Nat} {c : Code} (h : SP P c σ (blockQ i Q)) : SP P (.block i c) σ Q := ⟨fun C ok H a w hh =>
  wp_block (wp_mono (h.run C ok H a w hh) (by
    rintro e a' w' ⟨ok', H', σ', h1, h2⟩
    cases e with
    | exit j =>
      show if j = i then _ else _
      simp only [blockQ] at h2
      split <;> rename_i hj
      · rw [if_pos hj] at h2; exact ⟨ok', H', σ', h1, h2⟩
      · rw [if_neg hj] at h2; exact ⟨ok', H', σ', h1, h2⟩
    | _ => exact ⟨ok', H', σ', h1, h2⟩))⟩

theorem wp_loop_ix {P : Program} {Q : Exit → Act → World → Prop} {c : Code} (I : Nat → Act → World → Prop)
    (round : ∀ n a w, I n a w → c.wp P (Exit.then (fun a' w' => ∃ m, m < n ∧ I m a' w') Q) a w) : ∀ n a w, I n a w → (Code.loop c).wp P Q a w := by
  intro n a w h₀ b k cs
  have key : ∀ n a w, I n a w → ∃ e a' w', Q e a' w' ∧ Arrives P (lone (b.at a (.code c :: .inLoop c :: k)) cs w) b k cs e a' w' := by
    intro n
    induction n using Nat.strongRecOn with
    | _ n ih =>
      intro a w hI
      obtain ⟨e, a₁, w₁, hq, harr⟩ := round n a w hI b (.inLoop c :: k) cs
      cases e with
      | normal =>
        obtain ⟨m, hlt, hI₁⟩ := hq
        obtain ⟨e₂, a₂, w₂, hq₂, harr₂⟩ := ih m hlt a₁ w₁ hI₁
        exact ⟨e₂, a₂, w₂, hq₂, .of_steps (Steps.trans harr (.one step_inLoop)) harr₂⟩
      | exit id => exact ⟨_, a₁, w₁, hq, .pass (x := .inLoop c) rfl (fun _ _ => .inl (by simp)) harr⟩
      | goto l => exact ⟨_, a₁, w₁, hq, .pass (x := .inLoop c) rfl (fun _ _ => .inl (by simp)) harr⟩
      | ret => exact ⟨_, a₁, w₁, hq, .pass (x := .inLoop c) rfl (fun _ _ => .inl (by simp)) harr⟩
      | panic ch => exact ⟨_, a₁, w₁, hq, .pass (x := .inLoop c) rfl (fun _ _ => .inl (by simp)) harr⟩
      | outgrown => exact ⟨_, a₁, w₁, hq, .pass (x := .inLoop c) rfl (fun _ _ => .inl (by simp)) harr⟩
  obtain ⟨e, a', w', hq, harr⟩ := key n a w h₀
  exact ⟨e, a', w', hq, .of_steps (.one step_loop) harr⟩

/-- A loop: I n: what holds where at most n rounds are left. -/
theorem SP.loop {c : Code} (I : Nat → St → Prop) (n : Nat) (h : I n σ) (round : ∀ n σ, I n σ → SP P c σ (seqQ (fun σ' => ∃ m, m < n ∧ I m σ') Q)) : SP P (.loop c) σ Q := by
  refine ⟨fun C ok H a w hh => ?_⟩
  refine wp_loop_ix (fun n a w => ∃ ok H σ, Holds C ok H σ a w ∧ I n σ) ?_ n a w ⟨ok, H, σ, hh, h⟩
  rintro n a w ⟨ok, H, σ, hh, hI⟩
  refine wp_mono ((round n σ hI).run C ok H a w hh) ?_
  rintro e a' w' ⟨ok', H', σ', h1, h2⟩
  cases e with
  | normal => obtain ⟨m, hm, hI'⟩ := h2; exact ⟨m, hm, ok', H', σ', h1, hI'⟩
  | _ => exact ⟨ok', H', σ', h1, h2⟩
end

theorem SP.sub {P : Program} {σ S : St} {Q : Exit → St → Prop} {c : Code} (hs : Sub σ S) (h : SP P c S Q) : SP P c σ Q := ⟨fun C ok H a w hh => by
  obtain ⟨H', h'⟩ := hh.sub hs
  exact h.run C ok H' a w h'⟩


/-! A region whose order is drawn, each of whose operations writes its own slot alone and leaves the entities. -/
def edgeTo (o : Oper) (j : Nat) : Bool := o.after.toList.any fun e => decide (e.on = j) && Region.binds .any e
/-- Every slot that an operation reads, if the region writes it, is written by one that it waits for. -/
def calmOk (ops : Array Oper) : Bool := (List.range ops.size).all fun i => match ops[i]? with
  | some o => ((List.range ops.size).all fun j => match (ops[j]?).bind (·.dst) with
      | some d => !(tmpsOf o).contains d || edgeTo o j || (match ops[j]? with | some o' => edgeTo o' i | none => false)
      | none => true) && (match o.guard with | some (j, _) => edgeTo o j | none => true)
  | none => true

inductive SChain (P : Program) (ops : Array Oper) : List Oper → St → List AV → List (List Ent) → List Bool → St → Prop
  | nil (σ : St) : SChain P ops [] σ [] [] [] σ
  | op {o : Oper} {rest : List Oper} {σ σ' : St} {ns : List (Operand × AV)} {x : AV} {rs : List AV} {ess : List (List Ent)} {bs : List Bool} (d : Option Tmp) (h : OpOk P o ns σ.ents x σ.ents) (hn : needs σ ns)
      (hg : GuardYes ops σ o.guard) (hd : o.dst = d) (ht : (needTmps ns).all (tmpsOf o).contains = true) (k : SChain P ops rest (σ.put1 d x) rs ess bs σ') : SChain P ops (o :: rest) σ (x :: rs) (σ.ents :: ess) (false :: bs) σ'
  | oe {o : Oper} {rest : List Oper} {σ σ' : St} {ns : List (Operand × AV)} {x : AV} {es' : List Ent} {rs : List AV} {ess : List (List Ent)} {bs : List Bool} (d : Option Tmp) (E : List Ent) (h : OpOk P o ns σ.ents x es') (he : es' = E) (hn : needs σ ns)
      (hg : GuardYes ops σ o.guard) (hd : o.dst = d) (ht : (needTmps ns).all (tmpsOf o).contains = true) (k : SChain P ops rest (σ.put d x E) rs ess bs σ') : SChain P ops (o :: rest) σ (x :: rs) (E :: ess) (true :: bs) σ'
  | any {o : Oper} {rest : List Oper} {σ σ' : St} {x : AV} {rs : List AV} {ess : List (List Ent)} {bs : List Bool} (d : Option Tmp) (h : StepFact P ops σ x σ.ents false o) (hd : o.dst = d) (k : SChain P ops rest (σ.put1 d x) rs ess bs σ') : SChain P ops (o :: rest) σ (x :: rs) (σ.ents :: ess) (false :: bs) σ'
  | anyE {o : Oper} {rest : List Oper} {σ σ' : St} {x : AV} {E : List Ent} {bar : Bool} {rs : List AV} {ess : List (List Ent)} {bs : List Bool} (d : Option Tmp) (h : StepFact P ops σ x E bar o) (hd : o.dst = d) (k : SChain P ops rest (σ.put d x E) rs ess bs σ') : SChain P ops (o :: rest) σ (x :: rs) (E :: ess) (bar :: bs) σ'
  | skip {o : Oper} {rest : List Oper} {σ σ' : St} {rs : List AV} {ess : List (List Ent)} {bs : List Bool} (d : Option Tmp) (hg : GuardNo ops σ o.guard) (hd : o.dst = d) (k : SChain P ops rest (σ.put1 d (.d (.lit undef))) rs ess bs σ') : SChain P ops (o :: rest) σ (.d (.lit undef) :: rs) (σ.ents :: ess) (false :: bs) σ'

section
variable {P : Program} {ops : Array Oper} {es : List Ent}

/-- The state behind the first i operations in the order of the text. -/
def upTo' (ops : Array Oper) (σ0 : St) (r : Nat → AV) (ev : Nat → List Ent) : Nat → St
  | 0 => σ0
  | i + 1 => match ops[i]? with
    | some o => (upTo' ops σ0 r ev i).put o.dst (r i) (ev i)
    | none => upTo' ops σ0 r ev i

theorem SChain.facts {l : List Oper} {σ σ' : St} {rs : List AV} {ess : List (List Ent)} {bs : List Bool} (h : SChain P ops l σ rs ess bs σ') (σ0 : St) (r : Nat → AV) (ev : Nat → List Ent) (bar : Nat → Bool) : ∀ i, (∀ k : Nat, l[k]? = ops[i + k]?) → i + l.length = ops.size → σ = upTo' ops σ0 r ev i →
    (∀ (k : Nat) y, rs[k]? = some y → r (i + k) = y) → (∀ (k : Nat) y, ess[k]? = some y → ev (i + k) = y) → (∀ (k : Nat) y, bs[k]? = some y → bar (i + k) = y) →
    (∀ j (o : Oper), i ≤ j → ops[j]? = some o → StepFact P ops (upTo' ops σ0 r ev j) (r j) (ev j) (bar j) o) ∧ σ' = upTo' ops σ0 r ev ops.size := by
  induction h with
  | nil σ =>
    intro i hl hsz hσ hr _ _
    have : i = ops.size := by simpa using hsz
    subst this
    refine ⟨fun j o hij ho => ?_, hσ⟩
    have := (Array.getElem?_eq_some_iff.1 ho).1
    omega
  | @op o rest σ σ' ns x rs ess bs d ho hn hg hd ht k ih =>
    intro i hl hsz hσ hr he hb
    subst hd
    have h0 : ops[i]? = some o := by simpa using (hl 0).symm
    have hx : r i = x := by simpa using hr 0 x (by simp)
    have hev : ev i = σ.ents := by simpa using he 0 σ.ents (by simp)
    obtain ⟨h1, h2⟩ := ih (i + 1) (fun k => by have := hl (k + 1); simpa [Nat.add_assoc, Nat.add_comm 1 k] using this) (by simp at hsz; omega) (by
      rw [St.put1_eq]; simp only [upTo', h0, hx, hev]; rw [← hσ]) (fun k y hy => by have := hr (k + 1) y (by simpa using hy); simpa [Nat.add_assoc, Nat.add_comm 1 k] using this)
      (fun k y hy => by have := he (k + 1) y (by simpa using hy); simpa [Nat.add_assoc, Nat.add_comm 1 k] using this) (fun k y hy => by have := hb (k + 1) y (by simpa using hy); simpa [Nat.add_assoc, Nat.add_comm 1 k] using this)
    refine ⟨fun j o' hij ho' => ?_, h2⟩
    by_cases e : i = j
    · subst e
      rw [h0] at ho'
      obtain rfl := Option.some.inj ho'
      exact ⟨.inl ⟨ns, by rw [hx, hev, ← hσ]; exact ho, hσ ▸ hn, ht, hσ ▸ hg⟩, fun _ => by rw [hev, ← hσ]⟩
    · exact h1 j o' (by omega) ho'
  | @oe o rest σ σ' ns x es' rs ess bs d E ho hE hn hg hd ht k ih =>
    intro i hl hsz hσ hr he hb
    subst hd
    subst hE
    have h0 : ops[i]? = some o := by simpa using (hl 0).symm
    have hx : r i = x := by simpa using hr 0 x (by simp)
    have hev : ev i = es' := by simpa using he 0 es' (by simp)
    have hbr : bar i = true := by simpa using hb 0 true (by simp)
    obtain ⟨h1, h2⟩ := ih (i + 1) (fun k => by have := hl (k + 1); simpa [Nat.add_assoc, Nat.add_comm 1 k] using this) (by simp at hsz; omega) (by
      simp only [upTo', h0, hx, hev]; rw [← hσ]) (fun k y hy => by have := hr (k + 1) y (by simpa using hy); simpa [Nat.add_assoc, Nat.add_comm 1 k] using this)
      (fun k y hy => by have := he (k + 1) y (by simpa using hy); simpa [Nat.add_assoc, Nat.add_comm 1 k] using this) (fun k y hy => by have := hb (k + 1) y (by simpa using hy); simpa [Nat.add_assoc, Nat.add_comm 1 k] using this)
    refine ⟨fun j o' hij ho' => ?_, h2⟩
    by_cases e : i = j
    · subst e
      rw [h0] at ho'
      obtain rfl := Option.some.inj ho'
      exact ⟨.inl ⟨ns, by rw [hx, hev, ← hσ]; exact ho, hσ ▸ hn, ht, hσ ▸ hg⟩, fun hf => by rw [hbr] at hf; cases hf⟩
    · exact h1 j o' (by omega) ho'
  | @any o rest σ σ' x rs ess bs d hs hd k ih =>
    intro i hl hsz hσ hr he hb
    subst hd
    have h0 : ops[i]? = some o := by simpa using (hl 0).symm
    have hx : r i = x := by simpa using hr 0 x (by simp)
    have hev : ev i = σ.ents := by simpa using he 0 σ.ents (by simp)
    obtain ⟨h1, h2⟩ := ih (i + 1) (fun k => by have := hl (k + 1); simpa [Nat.add_assoc, Nat.add_comm 1 k] using this) (by simp at hsz; omega) (by
      rw [St.put1_eq]; simp only [upTo', h0, hx, hev]; rw [← hσ]) (fun k y hy => by have := hr (k + 1) y (by simpa using hy); simpa [Nat.add_assoc, Nat.add_comm 1 k] using this)
      (fun k y hy => by have := he (k + 1) y (by simpa using hy); simpa [Nat.add_assoc, Nat.add_comm 1 k] using this) (fun k y hy => by have := hb (k + 1) y (by simpa using hy); simpa [Nat.add_assoc, Nat.add_comm 1 k] using this)
    refine ⟨fun j o' hij ho' => ?_, h2⟩
    by_cases e : i = j
    · subst e
      rw [h0] at ho'
      obtain rfl := Option.some.inj ho'
      refine ⟨?_, fun _ => by rw [hev, ← hσ]⟩
      rw [hx, hev, ← hσ]
      exact hs.1
    · exact h1 j o' (by omega) ho'
  | @anyE o rest σ σ' x E br rs ess bs d hs hd k ih =>
    intro i hl hsz hσ hr he hb
    subst hd
    have h0 : ops[i]? = some o := by simpa using (hl 0).symm
    have hx : r i = x := by simpa using hr 0 x (by simp)
    have hev : ev i = E := by simpa using he 0 E (by simp)
    have hbr : bar i = br := by simpa using hb 0 br (by simp)
    obtain ⟨h1, h2⟩ := ih (i + 1) (fun k => by have := hl (k + 1); simpa [Nat.add_assoc, Nat.add_comm 1 k] using this) (by simp at hsz; omega) (by
      simp only [upTo', h0, hx, hev]; rw [← hσ]) (fun k y hy => by have := hr (k + 1) y (by simpa using hy); simpa [Nat.add_assoc, Nat.add_comm 1 k] using this)
      (fun k y hy => by have := he (k + 1) y (by simpa using hy); simpa [Nat.add_assoc, Nat.add_comm 1 k] using this) (fun k y hy => by have := hb (k + 1) y (by simpa using hy); simpa [Nat.add_assoc, Nat.add_comm 1 k] using this)
    refine ⟨fun j o' hij ho' => ?_, h2⟩
    by_cases e : i = j
    · subst e
      rw [h0] at ho'
      obtain rfl := Option.some.inj ho'
      rw [hx, hev, hbr, ← hσ]
      exact hs
    · exact h1 j o' (by omega) ho'
  | @skip o rest σ σ' rs ess bs d hg hd k ih =>
    intro i hl hsz hσ hr he hb
    subst hd
    have h0 : ops[i]? = some o := by simpa using (hl 0).symm
    have hx : r i = .d (.lit undef) := by simpa using hr 0 (.d (.lit undef)) (by simp)
    have hev : ev i = σ.ents := by simpa using he 0 σ.ents (by simp)
    obtain ⟨h1, h2⟩ := ih (i + 1) (fun k => by have := hl (k + 1); simpa [Nat.add_assoc, Nat.add_comm 1 k] using this) (by simp at hsz; omega) (by
      rw [St.put1_eq]; simp only [upTo', h0, hx, hev]; rw [← hσ]) (fun k y hy => by have := hr (k + 1) y (by simpa using hy); simpa [Nat.add_assoc, Nat.add_comm 1 k] using this)
      (fun k y hy => by have := he (k + 1) y (by simpa using hy); simpa [Nat.add_assoc, Nat.add_comm 1 k] using this) (fun k y hy => by have := hb (k + 1) y (by simpa using hy); simpa [Nat.add_assoc, Nat.add_comm 1 k] using this)
    refine ⟨fun j o' hij ho' => ?_, h2⟩
    by_cases e : i = j
    · subst e
      rw [h0] at ho'
      obtain rfl := Option.some.inj ho'
      exact ⟨.inr ⟨hx, by rw [hev, ← hσ], hσ ▸ hg⟩, fun _ => by rw [hev, ← hσ]⟩
    · exact h1 j o' (by omega) ho'

theorem upTo_other {σ0 : St} {r : Nat → AV} {ev : Nat → List Ent} {t : Nat} : ∀ i, (∀ j (o : Oper), j < i → ops[j]? = some o → o.dst ≠ some t) → (upTo' ops σ0 r ev i).slots.getD t .junk = σ0.slots.getD t .junk
  | 0, _ => rfl
  | i + 1, h => by
    have ih := upTo_other (σ0 := σ0) (r := r) (ev := ev) i (fun j o hj ho => h j o (by omega) ho)
    simp only [upTo']
    split
    · rename_i o ho
      have hne := h i o (by omega) ho
      cases hd : o.dst with
      | none => exact ih
      | some d =>
        have hdt : d ≠ t := fun e => hne (by rw [hd, e])
        show ((upTo' ops σ0 r ev i).slots.set d (r i)).getD t .junk = _
        rw [← ih]
        simp [List.getD, List.getElem?_set_ne hdt]
    · exact ih

theorem upTo_length {σ0 : St} {r : Nat → AV} {ev : Nat → List Ent} : ∀ i, (upTo' ops σ0 r ev i).slots.length = σ0.slots.length
  | 0 => rfl
  | i + 1 => by
    simp only [upTo']
    split
    · rename_i o ho
      cases hd : o.dst with
      | none => exact upTo_length i
      | some d => show ((upTo' ops σ0 r ev i).slots.set d (r i)).length = _; rw [List.length_set]; exact upTo_length i
    · exact upTo_length i
theorem upTo_base {σ0 : St} {r : Nat → AV} {ev : Nat → List Ent} : ∀ i, (upTo' ops σ0 r ev i).base = σ0.base
  | 0 => rfl
  | i + 1 => by
    simp only [upTo']
    split
    · exact upTo_base i
    · exact upTo_base i
theorem upTo_mine {σ0 : St} {r : Nat → AV} {ev : Nat → List Ent} (hinj : ∀ (i j : Nat) (o o' : Oper) (d : Tmp), ops[i]? = some o → ops[j]? = some o' → o.dst = some d → o'.dst = some d → i = j) {t j : Nat} {o : Oper} (ho : ops[j]? = some o) (hd : o.dst = some t) (ht : t < σ0.slots.length) :
    ∀ i, j < i → (upTo' ops σ0 r ev i).slots.getD t .junk = r j
  | 0, h => by omega
  | i + 1, h => by
    by_cases e : j = i
    · subst e
      simp only [upTo', ho, hd]
      have hl : t < (upTo' ops σ0 r ev j).slots.length := by rw [upTo_length]; exact ht
      show ((upTo' ops σ0 r ev j).slots.set t (r j)).getD t .junk = _
      simp [List.getD, hl]
    · have ih := upTo_mine (r := r) (ev := ev) hinj ho hd ht i (by omega)
      simp only [upTo']
      split
      · rename_i o' ho'
        cases hd' : o'.dst with
        | none => exact ih
        | some d =>
          have hdt : d ≠ t := fun e' => e (hinj j i o o' t ho ho' hd (by rw [hd', e']))
          show ((upTo' ops σ0 r ev i).slots.set d (r i)).getD t .junk = _
          rw [← ih]
          simp [List.getD, List.getElem?_set_ne hdt]
      · exact ih

theorem calmOk_spec (h : calmOk ops = true) : ∀ (i : Nat) (o : Oper), ops[i]? = some o → (∀ (j : Nat) (o' : Oper) (d : Tmp), ops[j]? = some o' → o'.dst = some d → d ∈ tmpsOf o → edgeTo o j = true ∨ edgeTo o' i = true) ∧ (∀ j b, o.guard = some (j, b) → edgeTo o j = true) := by
  intro i o ho
  unfold calmOk at h
  rw [List.all_eq_true] at h
  have hi : i < ops.size := (Array.getElem?_eq_some_iff.1 ho).1
  have h1 := h i (by simpa using hi)
  rw [ho] at h1
  simp only [Bool.and_eq_true, List.all_eq_true] at h1
  refine ⟨fun j o' d ho' hd hm => ?_, fun j b hg => ?_⟩
  · have hj : j < ops.size := (Array.getElem?_eq_some_iff.1 ho').1
    have h2 := h1.1 j (by simpa using hj)
    rw [ho'] at h2
    simp only [Option.bind_some, hd, Bool.or_eq_true, Bool.not_eq_true'] at h2
    rcases h2 with (h2 | h2) | h2
    · have : (tmpsOf o).contains d = true := by simpa using hm
      rw [this] at h2; cases h2
    · exact .inl h2
    · exact .inr h2
  · have h2 := h1.2
    rw [hg] at h2
    exact h2

/-- An operation that turns the entities: all ahead of it are waited for, and all behind it wait for it. -/
def barsOk (ops : Array Oper) (bs : List Bool) : Bool := (List.range ops.size).all fun i => !(bs.getD i false) ||
  (((List.range i).all fun j => (List.range (i + 1)).any fun m => decide (j < m) && (match ops[m]? with | some o => edgeTo o j | none => false)) &&
   ((List.range ops.size).all fun k => !decide (i < k) || (List.range k).any fun m => decide (i ≤ m) && (match ops[k]? with | some o => edgeTo o m | none => false)))
theorem barsOk_down {bs : List Bool} (h : barsOk ops bs = true) {i : Nat} (hi : i < ops.size) (hb : bs.getD i false = true) {D : Nat → Prop} (hd : ∀ (j : Nat) (o : Oper), ops[j]? = some o → D j → ∀ m, edgeTo o m = true → D m)
    (h0 : ∀ (o : Oper), ops[i]? = some o → ∀ m, edgeTo o m = true → D m) : ∀ j, j < i → D j := by
  unfold barsOk at h
  rw [List.all_eq_true] at h
  have h1 := h i (by simpa using hi)
  simp only [hb, Bool.not_true, Bool.false_or, Bool.and_eq_true, List.all_eq_true] at h1
  have key : ∀ n j, i - j ≤ n → j < i → D j := by
    intro n
    induction n with
    | zero => intro j h2 h3; omega
    | succ n ih =>
      intro j h2 h3
      have h4 := h1.1 j (by simpa using h3)
      rw [List.any_eq_true] at h4
      obtain ⟨m, hm, h5⟩ := h4
      simp only [List.mem_range] at hm
      simp only [Bool.and_eq_true, decide_eq_true_eq] at h5
      obtain ⟨h6, h7⟩ := h5
      have hml : m < ops.size := by omega
      have ho : ops[m]? = some ops[m] := by simp [hml]
      rw [ho] at h7
      by_cases e : m = i
      · subst e; exact h0 _ ho j h7
      · exact hd m _ ho (ih m (by omega) (by omega)) j h7
  exact fun j hj => key (i - j) j (Nat.le_refl _) hj
theorem barsOk_up {bs : List Bool} (h : barsOk ops bs = true) {i : Nat} (hi : i < ops.size) (hb : bs.getD i false = true) {D : Nat → Prop} (hd : ∀ (j : Nat) (o : Oper), ops[j]? = some o → D j → ∀ m, edgeTo o m = true → D m) :
    ∀ k, i < k → ∀ (o : Oper), ops[k]? = some o → (∀ m, edgeTo o m = true → D m) → D i := by
  unfold barsOk at h
  rw [List.all_eq_true] at h
  have h1 := h i (by simpa using hi)
  simp only [hb, Bool.not_true, Bool.false_or, Bool.and_eq_true, List.all_eq_true] at h1
  intro k
  induction k using Nat.strongRecOn with
  | _ k ih =>
    intro hik o ho hedges
    have hk : k < ops.size := (Array.getElem?_eq_some_iff.1 ho).1
    have h4 := h1.2 k (by simpa using hk)
    simp only [hik, decide_true, Bool.not_true, Bool.false_or, List.any_eq_true] at h4
    obtain ⟨m, hm, h5⟩ := h4
    simp only [List.mem_range] at hm
    simp only [Bool.and_eq_true, decide_eq_true_eq, ho] at h5
    obtain ⟨h6, h7⟩ := h5
    have hDm := hedges m h7
    by_cases e : m = i
    · subst e; exact hDm
    · have hml : m < ops.size := by omega
      have hom : ops[m]? = some ops[m] := by simp [hml]
      exact ih m hm (by omega) _ hom (hd m _ hom hDm)

/-- What an operation waits for stands ahead of it. -/
def edgesOkB (ops : Array Oper) : Bool := (List.range ops.size).all fun i => match ops[i]? with
  | some o => o.after.toList.all fun (e : Edge) => !Region.binds .any e || decide (e.on < i)
  | none => true
theorem edgesOkB_spec (h : edgesOkB ops = true) : ∀ (i : Nat) (o : Oper), ops[i]? = some o → ∀ e ∈ o.after.toList, Region.binds .any e = true → e.on < i := by
  intro i o ho e he hb
  unfold edgesOkB at h
  rw [List.all_eq_true] at h
  have hi : i < ops.size := (Array.getElem?_eq_some_iff.1 ho).1
  have := h i (by simpa using hi)
  rw [ho] at this
  rw [List.all_eq_true] at this
  have := this e he
  simpa [hb] using this
theorem SP.draw {id : Nat} {σ σ' : St} {Q : Exit → St → Prop} {rs : List AV} {ess : List (List Ent)} {bs : List Bool} (hm : P.follows .mixedOrders = true) (hcalm : (edgesOkB ops && dstsOk ops && slotsOk ops σ.slots.length && calmOk ops) = true) (hbars : barsOk ops bs = true)
    (h : SChain P ops ops.toList σ rs ess bs σ') (hQ : Q .normal σ') : SP P (.region id ops true) σ Q := by
  refine ⟨fun C ok H a w hh => ?_⟩
  simp only [Bool.and_eq_true] at hcalm
  obtain ⟨⟨⟨he, hd⟩, hs⟩, hc⟩ := hcalm
  have hedge := edgesOkB_spec he
  have hinj := dstsOk_spec hd
  have hcalm := calmOk_spec hc
  have hslot : ∀ (i : Nat) (o : Oper) (d : Tmp), ops[i]? = some o → o.dst = some d → d < σ.slots.length := by
    intro i o d h1 h2
    unfold slotsOk at hs
    rw [List.all_eq_true] at hs
    simpa using hs d (mem_written h1 h2)
  let r : Nat → AV := fun i => rs.getD i .junk
  let ev : Nat → List Ent := fun i => ess.getD i []
  let bar : Nat → Bool := fun i => bs.getD i false
  obtain ⟨hfacts, hend⟩ := h.facts σ r ev bar 0 (fun k => by simp) (by simp) rfl (fun k y hy => by simp [r, List.getD, hy]) (fun k y hy => by simp [ev, List.getD, hy]) (fun k y hy => by simp [bar, List.getD, hy])
  let U : Nat → St := upTo' ops σ r ev
  have hU : ∀ i, i < ops.size → (U (i + 1)).ents = ev i := by
    intro i hi
    have ho : ops[i]? = some ops[i] := by simp [hi]
    show (upTo' ops σ r ev (i + 1)).ents = _
    simp only [upTo', ho]
    rfl
  have hconst : ∀ n lo, (∀ b, lo ≤ b → b < lo + n → bar b = false) → lo + n ≤ ops.size → (U (lo + n)).ents = (U lo).ents := by
    intro n
    induction n with
    | zero => intro lo _ _; rfl
    | succ n ih =>
      intro lo hb hle
      have h1 := ih lo (fun b h1 h2 => hb b h1 (by omega)) (by omega)
      have hi : lo + n < ops.size := by omega
      have ho : ops[lo + n]? = some ops[lo + n] := by simp [hi]
      have h2 := (hfacts (lo + n) _ (by omega) ho).2 (hb (lo + n) (by omega) (by omega))
      rw [← Nat.add_assoc, hU _ hi, h2]
      exact h1
  have hconst' : ∀ lo hi, lo ≤ hi → hi ≤ ops.size → (∀ b, lo ≤ b → b < hi → bar b = false) → (U hi).ents = (U lo).ents := by
    intro lo hi h1 h2 h3
    obtain ⟨n, rfl⟩ := Nat.exists_eq_add_of_le h1
    exact hconst n lo h3 h2
  refine wp_region_any hm ?_
  let I : Array Bool → Act → World → Prop := fun l a w => l.size = ops.size ∧ ∃ ok H m, m ≤ ops.size ∧ (∀ b, bar b = true → b < ops.size → (l.getD b false = true ↔ b < m)) ∧ Mem C ok H (U m).ents w ∧ a.tmps.size = σ.slots.length ∧ a.defers = [] ∧
    (∀ t, t < σ.slots.length → (∀ (j : Nat) (o : Oper), ops[j]? = some o → o.dst = some t → l.getD j false = false) → R ok w H (σ.slots.getD t .junk) (a.tmps.getD t undef)) ∧
    (∀ (i : Nat) (o : Oper) (d : Tmp), ops[i]? = some o → o.dst = some d → l.getD i false = true → R ok w H (r i) (a.tmps.getD d undef)) ∧
    (∀ (j : Nat) (o : Oper), ops[j]? = some o → l.getD j false = true → ∀ i, edgeTo o i = true → l.getD i false = true)
  refine wpAny_of_inv I (fun l a w h => h.1) ?_ ?_ ops.size _ _ _ ?_ ?_
  · rintro l a w ⟨h1, ok, H, m, hmle, hfront, hmem0, hsz, hdf, h5, h6, h7⟩ i hi
    unfold Region.ready at hi
    rw [List.mem_filter] at hi
    obtain ⟨hi1, hi2⟩ := hi
    have hi' : i < ops.size := by simpa using hi1
    have ho : ops[i]? = some ops[i] := by simp [hi']
    simp only [Bool.and_eq_true] at hi2
    have hdeps := hi2.2
    rw [ho] at hdeps
    simp only [Option.map_some, Option.getD_some] at hdeps
    have hdeps' := fun e he => (Array.all_eq_true_iff_forall_mem.1 hdeps) e he
    have hdone : ∀ j, edgeTo ops[i] j = true → l.getD j false = true ∧ j < i := by
      intro j hj
      unfold edgeTo at hj
      rw [List.any_eq_true] at hj
      obtain ⟨e, hee, hj⟩ := hj
      simp only [Bool.and_eq_true, decide_eq_true_eq] at hj
      have := hdeps' e (by simpa using hee)
      simp only [hj.2, Bool.not_true, Bool.false_or] at this
      rw [hj.1] at this
      exact ⟨this, hj.1 ▸ hedge i _ ho e hee hj.2⟩
    have hself : l.getD i false = false := by
      have h8 := hi2.1
      have hil : i < l.size := by omega
      simp [Array.getD, hil] at h8 ⊢
      exact h8
    have hclo : ∀ (j : Nat) (o : Oper), ops[j]? = some o → l.getD j false = true → ∀ m, edgeTo o m = true → l.getD m false = true := fun j o hj hl m hm => h7 j o hj hl m hm
    have hmem : Mem C ok H (U i).ents w := by
      have hE : (U i).ents = (U m).ents := by
        by_cases him : i ≤ m
        · refine (hconst' i m him hmle (fun b h2 h3 => ?_)).symm
          rw [← Bool.not_eq_true]
          intro hb
          have hbl := (hfront b hb (by omega)).2 h3
          by_cases e : b = i
          · subst e; rw [hself] at hbl; cases hbl
          · have hob : ops[b]? = some (ops[b]'(by omega)) := by simp [show b < ops.size by omega]
            have := barsOk_down hbars (show b < ops.size by omega) hb (D := fun j => l.getD j false = true) hclo (fun o ho m hm => hclo b o ho hbl m hm) i (by omega)
            rw [hself] at this; cases this
        · refine hconst' m i (by omega) (by omega) (fun b h2 h3 => ?_)
          rw [← Bool.not_eq_true]
          intro hb
          have := barsOk_up hbars (show b < ops.size by omega) hb (D := fun j => l.getD j false = true) hclo i h3 _ ho (fun m hm => (hdone m hm).1)
          exact absurd ((hfront b hb (by omega)).1 this) (by omega)
      rw [hE]; exact hmem0
    -- what the slots that it reads hold
    have hread : ∀ t, t ∈ tmpsOf ops[i] → R ok w H ((upTo' ops σ r ev i).slots.getD t .junk) (a.tmps.getD t undef) := by
      intro t ht
      by_cases hw : ∃ (j : Nat) (o : Oper), ops[j]? = some o ∧ o.dst = some t
      · obtain ⟨j, o, hj, hjd⟩ := hw
        rcases (hcalm i _ ho).1 j o t hj hjd ht with hce | hce
        · obtain ⟨hdj, hji⟩ := hdone j hce
          rw [upTo_mine hinj hj hjd (hslot j o t hj hjd) i hji]
          exact h6 j o t hj hjd hdj
        · have hij : i < j := by
            unfold edgeTo at hce
            rw [List.any_eq_true] at hce
            obtain ⟨e, hee, hce⟩ := hce
            simp only [Bool.and_eq_true, decide_eq_true_eq] at hce
            exact hce.1 ▸ hedge j _ hj e hee hce.2
          rw [upTo_other i (fun j' o' hj' ho' hd' => by have := hinj j j' o o' t hj ho' hjd hd'; omega)]
          refine h5 t (hslot j o t hj hjd) (fun j' o' ho' hd' => ?_)
          have hjj := hinj j j' o o' t hj ho' hjd hd'
          subst hjj
          rw [← Bool.not_eq_true]
          intro hd
          rw [h7 j o hj hd i hce] at hself
          cases hself
      · have hw' : ∀ (j : Nat) (o : Oper), ops[j]? = some o → o.dst ≠ some t := fun j o h1 h2 => hw ⟨j, o, h1, h2⟩
        rw [upTo_other i (fun j o _ hj => hw' j o hj)]
        by_cases htn : t < σ.slots.length
        · exact h5 t htn (fun j o hj hjd => absurd hjd (hw' j o hj))
        · rw [getD_junk htn]; exact .junk _
    have hyield : ∀ j d v, edgeTo ops[i] j = true → (ops[j]?).bind (·.dst) = some d → (upTo' ops σ r ev i).slots.getD d .junk = .d (.lit v) → yielded ops a.tmps j = (match v with | .bool b => some b | _ => none) := by
      intro j d v hj hjd hb
      cases hoj : ops[j]? with
      | none => rw [hoj] at hjd; simp at hjd
      | some oj =>
        rw [hoj] at hjd
        simp only [Option.bind_some] at hjd
        obtain ⟨hdj, hji⟩ := hdone j hj
        have hdn := hslot j oj d hoj hjd
        rw [upTo_mine hinj hoj hjd hdn i hji] at hb
        have hv := (hb ▸ h6 j oj d hoj hjd hdj).bool
        have hs : a.tmps[d]? = some v := by
          have : d < a.tmps.size := by rw [hsz]; exact hdn
          simp [Array.getD, this] at hv
          simp [this, hv]
        unfold yielded
        rw [hoj]
        simp only [Option.bind_some, hjd, hs]
        cases v <;> rfl
    have hput : ∀ (x : AV) (v : Value) (ok' : Nat → Prop) (H' : List Hd) (w' : World), x = r i → Grow ok w ok' w' → Names H H' → Mem C ok' H' (ev i) w' → R ok' w' H' x v → I (l.setIfInBounds i true) (a.put ops[i].dst v) w' := by
      intro x v ok' H' w' hx hgr hnm hmem' hR
      subst hx
      have hother : ∀ (d t : Nat), ops[i].dst = some d → d ≠ t → (a.put ops[i].dst v).tmps.getD t undef = a.tmps.getD t undef := by
        intro d t hd hne; rw [hd]; exact getD_put_other hne
      obtain ⟨m', hm'le, hfront', hmem2⟩ : ∃ m', m' ≤ ops.size ∧ (∀ b, bar b = true → b < ops.size → ((l.setIfInBounds i true).getD b false = true ↔ b < m')) ∧ Mem C ok' H' (U m').ents w' := by
        have hget : ∀ b, b ≠ i → (l.setIfInBounds i true).getD b false = l.getD b false := fun b hb => by
          simp only [Array.getD_eq_getD_getElem?, Array.getElem?_setIfInBounds_ne (Ne.symm hb)]
        have hgeti : (l.setIfInBounds i true).getD i false = true := by simp [Array.getD, h1, hi']
        cases hbi : bar i with
        | false =>
          refine ⟨m, hmle, fun b hb hbs => ?_, ?_⟩
          · have hne : b ≠ i := fun e => by subst e; rw [hbi] at hb; cases hb
            rw [hget b hne]; exact hfront b hb hbs
          · have h2 := (hfacts i _ (by omega) ho).2 hbi
            rw [h2] at hmem'
            have hE : (U i).ents = (U m).ents := by
              by_cases him : i ≤ m
              · refine (hconst' i m him hmle (fun b h2 h3 => ?_)).symm
                rw [← Bool.not_eq_true]
                intro hb
                have hbl := (hfront b hb (by omega)).2 h3
                by_cases e : b = i
                · subst e; rw [hself] at hbl; cases hbl
                · have := barsOk_down hbars (show b < ops.size by omega) hb (D := fun j => l.getD j false = true) hclo (fun o ho m hm => hclo b o ho hbl m hm) i (by omega)
                  rw [hself] at this; cases this
              · refine hconst' m i (by omega) (by omega) (fun b h2 h3 => ?_)
                rw [← Bool.not_eq_true]
                intro hb
                have := barsOk_up hbars (show b < ops.size by omega) hb (D := fun j => l.getD j false = true) hclo i h3 _ ho (fun m hm => (hdone m hm).1)
                exact absurd ((hfront b hb (by omega)).1 this) (by omega)
            rw [← hE]; exact hmem'
        | true =>
          refine ⟨i + 1, by omega, fun b hb hbs => ?_, by rw [hU i hi']; exact hmem'⟩
          by_cases e : b = i
          · subst e; rw [hgeti]; simp
          · rw [hget b e]
            constructor
            · intro hbl
              apply Classical.byContradiction
              intro hn
              have := barsOk_down hbars hbs hb (D := fun j => l.getD j false = true) hclo (fun o ho m hm => hclo b o ho hbl m hm) i (by omega)
              rw [hself] at this; cases this
            · intro hlt
              exact barsOk_down hbars hi' hbi (D := fun j => l.getD j false = true) hclo (fun o ho' m hm => by rw [ho] at ho'; obtain rfl := Option.some.inj ho'; exact (hdone m hm).1) b (by omega)
      refine ⟨by simp [h1], ok', H', m', hm'le, hfront', hmem2, by rw [size_put]; exact hsz, by rw [defers_put]; exact hdf, ?_, ?_, ?_⟩
      · intro t ht hno
        have hne : ops[i].dst ≠ some t := by
          intro e
          have := hno i _ ho e
          simp [Array.getD, h1, hi'] at this
        have hold : (a.put ops[i].dst v).tmps.getD t undef = a.tmps.getD t undef := by
          cases hdi : ops[i].dst with
          | none => rfl
          | some d => exact hdi ▸ hother d t hdi (fun e => hne (by rw [hdi, e]))
        rw [hold]
        refine (h5 t ht (fun j o hj hjd => ?_)).mono hgr hnm
        have hij : i ≠ j := fun e => by subst e; rw [ho] at hj; obtain rfl := Option.some.inj hj; exact hne hjd
        have := hno j o hj hjd
        simpa only [Array.getD_eq_getD_getElem?, Array.getElem?_setIfInBounds_ne hij] using this
      · intro k o d hk hkd hl
        by_cases hik : i = k
        · subst hik
          rw [ho] at hk
          obtain rfl := Option.some.inj hk
          rw [hkd, getD_put_same (by rw [hsz]; exact hslot i _ d ho hkd)]
          exact hR
        · have hl' : l.getD k false = true := by
            simp only [Array.getD_eq_getD_getElem?, Array.getElem?_setIfInBounds_ne hik] at hl ⊢
            exact hl
          have := (h6 k o d hk hkd hl').mono hgr hnm
          cases hdst : ops[i].dst with
          | none => exact this
          | some d' =>
            have hne : d' ≠ d := fun e => hik (hinj i k _ _ d' ho hk hdst (e ▸ hkd))
            rw [← hdst, hother d' d hdst hne]; exact this
      · intro j o hj hl k hk
        have hil : i < l.size := by omega
        by_cases hik : i = k
        · subst hik; simp [Array.getD, hil]
        · have hkk : l.getD k false = true := by
            by_cases hij : i = j
            · subst hij
              rw [ho] at hj
              obtain rfl := Option.some.inj hj
              exact (hdone k hk).1
            · have hl' : l.getD j false = true := by
                simp only [Array.getD_eq_getD_getElem?, Array.getElem?_setIfInBounds_ne hij] at hl ⊢
                exact hl
              exact h7 j o hj hl' k hk
          simp only [Array.getD_eq_getD_getElem?, Array.getElem?_setIfInBounds_ne hik] at hkk ⊢
          exact hkk
    unfold wpOp
    rw [ho]
    show if Region.wanted ops[i] (yielded ops a.tmps) = true then _ else _
    rcases (hfacts i ops[i] (by omega) ho).1 with ⟨ns, hop, hneed, hnt, hg⟩ | ⟨hx, hev, hg⟩
    · have hwant : Region.wanted ops[i] (yielded ops a.tmps) = true := by
        unfold Region.wanted
        rcases hg with hg | ⟨j, want, d, b, hg, hj, hb, rfl⟩
        · rw [hg]
        · rw [hg]
          show (yielded ops a.tmps j == some b) = true
          rw [hyield j d _ ((hcalm i _ ho).2 j b hg) hj hb]; simp
      rw [if_pos hwant]
      refine .inl (Oper.wp_mono ?_ (hop C ok H a w _ hmem (fun n hn => ?_)))
      · rintro a' w' ⟨v, ok', H', rfl, hgr, hnn, hm', hx⟩
        exact hput _ v ok' H' w' rfl hgr hnn hm' hx
      · have hnv := needs_mem hneed n hn
        obtain ⟨x, y⟩ := n
        simp only at hnv ⊢
        subst hnv
        cases x with
        | tmp t =>
          refine hread t ?_
          rw [List.all_eq_true] at hnt
          have : t ∈ needTmps ns := by
            unfold needTmps
            rw [List.mem_filterMap]
            exact ⟨_, hn, rfl⟩
          simpa using hnt t this
        | const v => exact .d _ _ (.lit v)
        | global g => exact .d _ _ (.lit _)
        | func f => exact .d _ _ (.fn (.func f) [] [] #[] #[] rfl rfl (fun i hi => by simp at hi) (fun i hi => by simp at hi))
    · have hwant : Region.wanted ops[i] (yielded ops a.tmps) = false := by
        unfold Region.wanted
        obtain ⟨j, want, d, v, hg, hj, hb, hv⟩ := hg
        rw [hg]
        show (yielded ops a.tmps j == some want) = false
        rw [hyield j d _ ((hcalm i _ ho).2 j want hg) hj hb]
        rcases hv with rfl | rfl
        · simp
        · rfl
      rw [if_neg (by rw [hwant]; simp)]
      exact hput _ _ ok H w hx.symm (.refl _ _) (.refl _) (by rw [hev]; exact hmem) (.d _ _ (.lit _))
  · rintro l a w ⟨h1, ok, H, m, hmle, hfront, hmem, hsz, hdf, h5, h6, h7⟩ hr
    have hall : ∀ n i, i < n → i < ops.size → l.getD i false = true := by
      intro n
      induction n with
      | zero => intro i hi; omega
      | succ n ih =>
        intro i hi hi2
        by_cases hn : i < n
        · exact ih i hn hi2
        · have hin : i = n := by omega
          subst hin
          rw [← Bool.not_eq_false]
          intro hf
          have ho : ops[i]? = some ops[i] := by simp [hi2]
          have hmem : i ∈ Region.ready .any ops l := by
            unfold Region.ready
            rw [List.mem_filter]
            refine ⟨by simpa using hi2, ?_⟩
            have hil : i < l.size := by omega
            have hf' : l.getD i true = false := by simp [Array.getD, hil] at hf ⊢; exact hf
            rw [hf', ho]
            simp only [Bool.not_false, Bool.true_and, Option.map_some, Option.getD_some]
            rw [Array.all_eq_true_iff_forall_mem]
            intro e he
            cases hbe : Region.binds .any e with
            | false => simp
            | true =>
              have hlt := hedge i _ ho e (by simpa using he) hbe
              rw [ih e.on (by omega) (by omega)]
              simp
          rw [hr] at hmem
          simp at hmem
    refine ⟨ok, H, σ', ?_, hQ⟩
    subst hend
    have hE : (U ops.size).ents = (U m).ents := hconst' m ops.size hmle (Nat.le_refl _) (fun b h2 h3 => by
      rw [← Bool.not_eq_true]
      intro hb
      exact absurd ((hfront b hb h3).1 (hall (b + 1) b (by omega) h3)) (by omega))
    refine ⟨by show Mem C ok H (U ops.size).ents w; rw [hE]; exact hmem, by rw [upTo_length]; exact hsz, hdf, by rw [upTo_base]; exact hh.base, fun t ht => ?_⟩
    rw [upTo_length] at ht
    by_cases hw : ∃ (j : Nat) (o : Oper), ops[j]? = some o ∧ o.dst = some t
    · obtain ⟨j, o, hj, hjd⟩ := hw
      have hjn : j < ops.size := (Array.getElem?_eq_some_iff.1 hj).1
      rw [upTo_mine hinj hj hjd ht ops.size hjn]
      exact h6 j o t hj hjd (hall (j + 1) j (by omega) hjn)
    · have hw' : ∀ (j : Nat) (o : Oper), ops[j]? = some o → o.dst ≠ some t := fun j o h1 h2 => hw ⟨j, o, h1, h2⟩
      rw [upTo_other ops.size (fun j o _ hj => hw' j o hj)]
      exact h5 t ht (fun j o hj hjd => absurd hjd (hw' j o hj))
  · unfold toCome; simp
  · refine ⟨by simp, ok, H, 0, Nat.zero_le _, fun b hb _ => by simp [Array.getD], ?_, hh.size, hh.defers, fun t ht _ => ?_, fun i o d _ _ hl => ?_, fun j o _ hl => ?_⟩
    · exact ⟨⟨hh.mem.fr.os, hh.mem.fr.tape, hh.mem.fr.output, hh.mem.fr.size, hh.mem.fr.block⟩, hh.mem.okSub, hh.mem.okSup, hh.mem.okLt, hh.mem.names, hh.mem.hlen, fun k e h h1 h2 => (hh.mem.ent k e h h1 h2).drew, hh.mem.blk, hh.mem.dis⟩
    · exact R.mono (w := w) (ok := ok) (w' := { w with drawn := w.drawn + 1 }) (fun b hb => ⟨hb, rfl⟩) (.refl _) (hh.slot t ht)
    · simp [Array.getD] at hl
    · simp [Array.getD] at hl
end

/-- What a call gives: called with the data args and the entities E it gives back res, and the entities are E'. -/
def Runs (P : Program) (f : FuncId) (args : List AV) (E : List Ent) (res : AV) (E' : List Ent) : Prop :=
  ∀ (ok : Nat → Prop) (X : List Nat) (H : List Hd) (w : World) (vals : Array Value), Mem ⟨w, ok, X, H⟩ ok H E w → vals.size = args.length → (∀ i, i < args.length → R ok w H (args.getD i .junk) (vals.getD i undef)) →
    Calls P f vals w fun e w' => ∃ v ok' H', e = .returned v ∧ Mem ⟨w, ok, X, H⟩ ok' H' E' w' ∧ R ok' w' H' res v

/-- The value that is given back. -/
def resOf (fn : Func) (σ : St) : Option AV :=
  match fn.results.toList with
  | [] => some (.tup [])
  | [.tmp t] => some (σ.slots.getD t .junk)
  | [.tmp t, .tmp u] => some (.tup [σ.slots.getD t .junk, σ.slots.getD u .junk])
  | [.tmp t, .tmp u, .tmp x] => some (.tup [σ.slots.getD t .junk, σ.slots.getD u .junk, σ.slots.getD x .junk])
  | _ => none

theorem Holds.slotAll {C : Cx} {ok : Nat → Prop} {H : List Hd} {σ : St} {a : Act} {w : World} (h : Holds C ok H σ a w) (t : Nat) : R ok w H (σ.slots.getD t .junk) (a.tmps.getD t undef) := h.get (.tmp t)

theorem resOf_run {P : Program} {C : Cx} {ok : Nat → Prop} {H : List Hd} {σ : St} {a : Act} {w : World} (h : Holds C ok H σ a w) {fn : Func} {x : AV} (hr : resOf fn σ = some x) :
    ∃ v, (results fn a.tmps).run P w = .ok v w ∧ R ok w H x v := by
  unfold resOf at hr
  split at hr
  · rename_i e
    have e' : fn.results = #[] := by rw [← Array.toArray_toList (xs := fn.results), e]
    cases hr
    exact ⟨_, results_none e' _ _ _, .tup [] #[] rfl (fun i hi => by simp at hi)⟩
  · rename_i t e
    have e' : fn.results = #[.tmp t] := by rw [← Array.toArray_toList (xs := fn.results), e]
    cases hr
    exact ⟨_, results_tmp e' _ _ _, h.slotAll t⟩
  · rename_i t u e
    have e' : fn.results = #[.tmp t, .tmp u] := by rw [← Array.toArray_toList (xs := fn.results), e]
    cases hr
    refine ⟨_, results_tmp2 e' _ _ _, .tup _ _ rfl (fun i hi => ?_)⟩
    match i, hi with
    | 0, _ => exact h.slotAll t
    | 1, _ => exact h.slotAll u
  · rename_i t u z e
    have e' : fn.results = #[.tmp t, .tmp u, .tmp z] := by rw [← Array.toArray_toList (xs := fn.results), e]
    cases hr
    refine ⟨.tuple #[a.tmps.getD t undef, a.tmps.getD u undef, a.tmps.getD z undef], by simp [results, e'], .tup _ _ rfl (fun i hi => ?_)⟩
    match i, hi with
    | 0, _ => exact h.slotAll t
    | 1, _ => exact h.slotAll u
    | 2, _ => exact h.slotAll z
  · cases hr

def retQ (fn : Func) (res : AV) (E' : List Ent) : Exit → St → Prop
  | .ret, σ => ∃ x π, resOf fn σ = some x ∧ normOk σ.base σ.ents π = true ∧ res = x.back π ∧ E' = entsNorm σ.ents π
  | .normal, σ => ∃ x π, resOf fn σ = some x ∧ normOk σ.base σ.ents π = true ∧ res = x.back π ∧ E' = entsNorm σ.ents π
  | _, _ => False

/-- The slots at the beginning of a call. -/
def St.enter (args : List AV) (n : Nat) (E : List Ent) : St := ⟨args ++ List.replicate (n - args.length) .junk, E, E.length⟩

theorem Runs.of_SP {P : Program} {f : FuncId} {fn : Func} {c : Code} {args : List AV} {E E' : List Ent} {res : AV} (hf : P.funcs[f]? = some fn) (hb : fn.body = some c)
    (h : SP P c (.enter args fn.ntmps E) (retQ fn res E')) : Runs P f args E res E' := by
  intro ok X H w vals hm hs ha
  refine calls_of_wp hf hb (wp_mono (h.run ⟨w, ok, X, H⟩ ok H _ w ?_) ?_)
  · refine ⟨hm, ?_, rfl, hm.hlen, fun t ht => ?_⟩
    · simp [St.enter, hs]
    · simp only [St.enter]
      by_cases e : t < args.length
      · have e1 : (args ++ List.replicate (fn.ntmps - args.length) AV.junk).getD t .junk = args.getD t .junk := by simp [List.getD, List.getElem?_append_left e]
        have e2 : (vals ++ Array.replicate (fn.ntmps - vals.size) undef).getD t undef = vals.getD t undef := by
          simp [Array.getD_eq_getD_getElem?, Array.getElem?_append_left (show t < vals.size by omega)]
        rw [e1, e2]; exact ha t e
      · have e1 : (args ++ List.replicate (fn.ntmps - args.length) AV.junk).getD t .junk = .junk := by
          simp only [List.getD, List.getElem?_append_right (Nat.le_of_not_lt e), List.getElem?_replicate]
          split <;> rfl
        rw [e1]; exact .junk _
  · rintro e a' w' ⟨ok', H', σ', h1, h2⟩
    cases e with
    | ret =>
      obtain ⟨x, π, hx, hok, rfl, rfl⟩ := h2
      obtain ⟨v, hv, hR⟩ := resOf_run (P := P) h1 hx
      exact ⟨h1.defers, v, hv, v, ok', _, rfl, h1.mem.norm π (h1.base ▸ hok), hR.back π⟩
    | normal =>
      obtain ⟨x, π, hx, hok, rfl, rfl⟩ := h2
      obtain ⟨v, hv, hR⟩ := resOf_run (P := P) h1 hx
      exact ⟨h1.defers, v, hv, v, ok', _, rfl, h1.mem.norm π (h1.base ▸ hok), hR.back π⟩
    | _ => exact h2.elim
end Go.Proofs.Ytdhhcmdofnjhiaa
