/- The kinds of operations of a drawn region, each shown once in any grown world. No program. No condition. -/
import Derived.Test.YtdhhcmdofnjhiaaStab
namespace Go.Proofs.Ytdhhcmdofnjhiaa
open Go.RowKit

/-- What each operation yields, told as a list. -/
def phi (ps : List (Value → World → Prop)) (i : Nat) (v : Value) (w : World) : Prop := match ps[i]? with
  | some p => p v w
  | none => True

def upTo (p : Nat → Prop) : Nat → Prop
  | 0 => True
  | n + 1 => upTo p n ∧ p n
theorem upTo_spec {p : Nat → Prop} : ∀ n, upTo p n → ∀ i, i < n → p i
  | 0, _, i, h => by omega
  | n + 1, h, i, hi => by
    by_cases e : i = n
    · subst e; exact h.2
    · exact upTo_spec n h.1 i (by omega)

section
variable {P : Program} {ops : Array Oper} {Q : Exit → Act → World → Prop} {φ : Nat → Value → World → Prop} {W : World} {a0 : Act} {i : Nat}

/-- Operation i waits for j, and j writes slot d. -/
def edgeOn (ops : Array Oper) (i j d : Nat) : Bool := ((ops[i]?).any fun o => o.after.toList.any fun e => decide (e.on = j) && Region.binds .any e) && ((ops[j]?).any fun o => decide (o.dst = some d))

theorem edgeOn_spec {j d : Nat} (h : edgeOn ops i j d = true) : (∃ o e, ops[i]? = some o ∧ e ∈ o.after.toList ∧ e.on = j ∧ Region.binds .any e = true) ∧ ∃ o', ops[j]? = some o' ∧ o'.dst = some d := by
  unfold edgeOn at h
  rw [Bool.and_eq_true, Option.any_eq_true, Option.any_eq_true] at h
  obtain ⟨⟨o, h1, h2⟩, o', h3, h4⟩ := h
  rw [List.any_eq_true] at h2
  obtain ⟨e, h5, h6⟩ := h2
  rw [Bool.and_eq_true] at h6
  exact ⟨⟨o, e, h1, h5, by simpa using h6.1, h6.2⟩, o', h3, by simpa using h4⟩

/-- The operation is wanted, as the slot that guards it is true. -/
def Wants (ops : Array Oper) (φ : Nat → Value → World → Prop) (i : Nat) (g : Option (Nat × Bool)) : Prop := g = none ∨ ∃ j s, g = some (j, true) ∧ edgeOn ops i j s = true ∧ ∀ v w, φ j v w → v = .bool true

theorem does_of (o : Oper) (ho : ops[i]? = some o) (hg : Wants ops φ i o.guard)
    (h : ∀ a w, Below W.heap.size W w → (∀ t, t ∉ written ops → a.tmps.getD t undef = a0.tmps.getD t undef) → (∀ j d, edgeOn ops i j d = true → φ j (a.tmps.getD d undef) w) →
      o.wp P a w (fun a' w' => ∃ v, a' = a.put o.dst v ∧ φ i v w' ∧ Below w.heap.size w w') Q) : Does P ops Q φ W a0 i := by
  intro a w o' ho' hb _ hold hdep
  rw [ho] at ho'
  obtain rfl := Option.some.inj ho'
  have hdep' : ∀ j d, edgeOn ops i j d = true → φ j (a.tmps.getD d undef) w := by
    intro j d hj
    obtain ⟨⟨o1, e, h1, h2, h3, h4⟩, o2, h5, h6⟩ := edgeOn_spec hj
    rw [ho] at h1
    obtain rfl := Option.some.inj h1
    subst h3
    exact hdep e h2 h4 o2 d h5 h6
  have hwant : Region.wanted o (yielded ops a.tmps) = true := by
    unfold Region.wanted
    rcases hg with hg | ⟨j, s, hg, hj, ht⟩
    · rw [hg]
    · rw [hg]
      have hv := ht _ _ (hdep' j s hj)
      obtain ⟨_, o2, h5, h6⟩ := edgeOn_spec hj
      have hs : a.tmps[s]? = some (.bool true) := by
        rw [Array.getD_eq_getD_getElem?] at hv
        cases hh : a.tmps[s]? with
        | none => rw [hh] at hv; simp [undef] at hv
        | some x => rw [hh] at hv; simpa using hv
      show (yielded ops a.tmps j == some true) = true
      unfold yielded
      rw [h5]
      simp only [Option.bind_some, h6, hs]
      rfl
  unfold wpOp
  rw [ho]
  show if Region.wanted o (yielded ops a.tmps) = true then _ else _
  rw [if_pos hwant]
  exact .inl (h a w hb hold hdep')

theorem opwp_run {o : Oper} {a : Act} {w : World} {v : Value} {w' : World} {K : Act → World → Prop} (h : (execOp a.eval o).run P w = .ok (.value v) w') (hk : K (a.put o.dst v) w') : o.wp P a w K Q := by
  unfold Oper.wp
  rw [h]
  exact hk

variable {d : Option Tmp} {t : TypeId} {p : String} {af : Array Edge} {g : Option (Nat × Bool)}

theorem does_move (s j : Nat) (ho : ops[i]? = some ⟨d, .move (.tmp s), t, p, af, g⟩) (hg : Wants ops φ i g) (hj : edgeOn ops i j s = true) (h : ∀ v w, φ j v w → φ i v w) : Does P ops Q φ W a0 i :=
  does_of _ ho hg fun a w _ _ hdep => opwp_run (v := a.tmps.getD s undef) (w' := w) (by simp [execOp, Act.eval]) ⟨_, rfl, h _ _ (hdep j s hj), Below.refl _ _⟩
theorem does_assign (s j : Nat) (ho : ops[i]? = some ⟨d, .assign (.tmp s), t, p, af, g⟩) (hg : Wants ops φ i g) (hj : edgeOn ops i j s = true) (h : ∀ v w, φ j v w → φ i v w) : Does P ops Q φ W a0 i :=
  does_of _ ho hg fun a w _ _ hdep => opwp_run (v := a.tmps.getD s undef) (w' := w) (by simp [execOp, Act.eval]) ⟨_, rfl, h _ _ (hdep j s hj), Below.refl _ _⟩
theorem does_pick (c s : Nat) (jc j : Nat) (y : Operand) (ho : ops[i]? = some ⟨d, .pick (.tmp c) (.tmp s) y, t, p, af, g⟩) (hg : Wants ops φ i g) (hjc : edgeOn ops i jc c = true) (hc : ∀ v w, φ jc v w → v = .bool true) (hj : edgeOn ops i j s = true) (h : ∀ v w, φ j v w → φ i v w) : Does P ops Q φ W a0 i :=
  does_of _ ho hg fun a w _ _ hdep => opwp_run (v := a.tmps.getD s undef) (w' := w) (by
    have e : a.eval (.tmp c) = .bool true := hc _ _ (hdep jc c hjc)
    simp only [execOp, e]
    simp [asBool, Act.eval]) ⟨_, rfl, h _ _ (hdep j s hj), Below.refl _ _⟩

/-- A function of Go's own body. -/
def Enters (P : Program) (f : FuncId) : Prop := ∀ args w, (callFunc f args).run P w = .ok (.enter f args) w
theorem enters_of {f : FuncId} {fn : Func} {c : Code} (hf : P.funcs[f]? = some fn) (hname : (fn.name == "runtime.NumGoroutine") = false) (hb : fn.body = some c) : Enters P f := by
  intro args w
  have h1 : fn.name ≠ "runtime.NumGoroutine" := by simpa using hname
  simp [callFunc, hf, h1, hb]
/-- The same, told by one kernel test. -/
def entersB (P : Program) (f : FuncId) : Bool := match P.funcs[f]? with
  | some fn => !(fn.name == "runtime.NumGoroutine") && fn.body.isSome
  | none => false
theorem enters_of_b {f : FuncId} (h : entersB P f = true) : Enters P f := by
  unfold entersB at h
  cases hf : P.funcs[f]? with
  | none => rw [hf] at h; cases h
  | some fn =>
    rw [hf] at h
    simp only [Bool.and_eq_true, Bool.not_eq_true'] at h
    obtain ⟨c, hc⟩ := Option.isSome_iff_exists.1 h.2
    exact enters_of hf h.1 hc
theorem execOp_func {o : Oper} {a : Act} {f : FuncId} {ats : Array TypeId} {as : Array Operand} (hop : o.op = .call { callee := .value (.func f), args := as, argTypes := ats }) : execOp a.eval o = callFunc f (as.map a.eval) := by
  have ef : a.eval (.func f) = .func (.func f) #[] #[] := rfl
  unfold execOp
  simp [hop, resolve, Deferred.ofValue, invoke, ef]

theorem does_call0 (f : FuncId) (ats : Array TypeId) (ho : ops[i]? = some ⟨d, .call { callee := .value (.func f), args := #[], argTypes := ats }, t, p, af, g⟩) (hg : Wants ops φ i g) (hf : Enters P f)
    (h : ∀ w, Below W.heap.size W w → Calls P f #[] w fun e w' => ∃ u, e = .returned u ∧ φ i u w' ∧ Below w.heap.size w w') : Does P ops Q φ W a0 i :=
  does_of _ ho hg fun a w hb _ _ => by
    unfold Oper.wp
    rw [execOp_func (a := a) (f := f) (as := #[]) (ats := ats) rfl, hf, show ((#[] : Array Operand).map a.eval) = #[] by simp, Oper.upon_enter]
    refine (h w hb).mono ?_
    rintro e w' ⟨u, rfl, h1, h2⟩
    exact ⟨u, rfl, h1, h2⟩
theorem does_call1 (f : FuncId) (s j : Nat) (ats : Array TypeId) (ho : ops[i]? = some ⟨d, .call { callee := .value (.func f), args := #[.tmp s], argTypes := ats }, t, p, af, g⟩) (hg : Wants ops φ i g) (hf : Enters P f) (hj : edgeOn ops i j s = true)
    (h : ∀ v w, Below W.heap.size W w → φ j v w → Calls P f #[v] w fun e w' => ∃ u, e = .returned u ∧ φ i u w' ∧ Below w.heap.size w w') : Does P ops Q φ W a0 i :=
  does_of _ ho hg fun a w hb _ hdep => by
    unfold Oper.wp
    rw [execOp_func (a := a) (f := f) (as := #[.tmp s]) (ats := ats) rfl, hf, show (#[Operand.tmp s].map a.eval) = #[a.tmps.getD s undef] by simp [Act.eval], Oper.upon_enter]
    refine (h _ w hb (hdep j s hj)).mono ?_
    rintro e w' ⟨u, rfl, h1, h2⟩
    exact ⟨u, rfl, h1, h2⟩
theorem does_call2 (f : FuncId) (s j s2 j2 : Nat) (ats : Array TypeId) (ho : ops[i]? = some ⟨d, .call { callee := .value (.func f), args := #[.tmp s, .tmp s2], argTypes := ats }, t, p, af, g⟩) (hg : Wants ops φ i g) (hf : Enters P f) (hj : edgeOn ops i j s = true) (hj2 : edgeOn ops i j2 s2 = true)
    (h : ∀ v v2 w, Below W.heap.size W w → φ j v w → φ j2 v2 w → Calls P f #[v, v2] w fun e w' => ∃ u, e = .returned u ∧ φ i u w' ∧ Below w.heap.size w w') : Does P ops Q φ W a0 i :=
  does_of _ ho hg fun a w hb _ hdep => by
    unfold Oper.wp
    rw [execOp_func (a := a) (f := f) (as := #[.tmp s, .tmp s2]) (ats := ats) rfl, hf, show (#[Operand.tmp s, .tmp s2].map a.eval) = #[a.tmps.getD s undef, a.tmps.getD s2 undef] by simp [Act.eval], Oper.upon_enter]
    refine (h _ _ w hb (hdep j s hj) (hdep j2 s2 hj2)).mono ?_
    rintro e w' ⟨u, rfl, h1, h2⟩
    exact ⟨u, rfl, h1, h2⟩

theorem does_load (ty : TypeId) (s : Nat) (ho : ops[i]? = some ⟨d, .load ty (.tmp s), t, p, af, g⟩) (hg : Wants ops φ i g) (b : Nat) (hs : (written ops).contains s = false) (hx : a0.tmps.getD s undef = .pointer (some ⟨b, 0, none⟩))
    (cs : Array Value) (n : Nat) (hA : ∀ w, (isAgg ty).run P w = .ok true w) (hS : ∀ w, (sizeOf ty).run P w = .ok n w) (hn : cs.size = n)
    (hc : ∀ w, Below W.heap.size W w → ∀ k, w.cell? ⟨b, k, none⟩ = cs[k]?) (h : ∀ w, Below W.heap.size W w → φ i (.agg cs) w) : Does P ops Q φ W a0 i :=
  does_of _ ho hg fun a w hb hold _ => by
    have e : a.eval (.tmp s) = .pointer (some ⟨b, 0, none⟩) := (hold s (by simpa using hs)).trans hx
    refine opwp_run (v := .agg cs) (w' := w) ?_ ⟨_, rfl, h w hb, Below.refl _ _⟩
    subst hn
    unfold execOp
    simp only [e, Instr.loadAt, Instr.sureAddr, Sem.run_bind, Sem.run_pure, Result.andThen_ok, run_loadVar_agg (P := P) w ty b 0 cs (hA w) (hS w) (fun j hj => by
      rw [hc w hb, Nat.zero_add]; simp [hj, Array.getD])]

theorem does_eqlc (ty ty2 : TypeId) (s j : Nat) (m n : Int) (ho : ops[i]? = some ⟨d, .binOp .eql ty (.tmp s) (.const (.int .i64 m)) ty2, t, p, af, g⟩) (hg : Wants ops φ i g) (hj : edgeOn ops i j s = true)
    (hv : ∀ v w, φ j v w → v = .int .i64 n) (h : ∀ w, φ i (.bool (n == m)) w) : Does P ops Q φ W a0 i :=
  does_of _ ho hg fun a w _ _ hdep => opwp_run (v := .bool (n == m)) (w' := w) (by
    have e : a.eval (.tmp s) = .int .i64 n := hv _ _ (hdep j s hj)
    simp only [execOp, e]
    simp [go_sem, eqGuard, binOp, Act.eval]) ⟨_, rfl, h _, Below.refl _ _⟩
theorem does_eql (ty ty2 : TypeId) (s j s2 j2 : Nat) (n m : Int) (ho : ops[i]? = some ⟨d, .binOp .eql ty (.tmp s) (.tmp s2) ty2, t, p, af, g⟩) (hg : Wants ops φ i g) (hj : edgeOn ops i j s = true) (hj2 : edgeOn ops i j2 s2 = true)
    (hv : ∀ v w, φ j v w → v = .int .i64 n) (hv2 : ∀ v w, φ j2 v w → v = .int .i64 m) (h : ∀ w, φ i (.bool (n == m)) w) : Does P ops Q φ W a0 i :=
  does_of _ ho hg fun a w _ _ hdep => opwp_run (v := .bool (n == m)) (w' := w) (by
    have e : a.eval (.tmp s) = .int .i64 n := hv _ _ (hdep j s hj)
    have e2 : a.eval (.tmp s2) = .int .i64 m := hv2 _ _ (hdep j2 s2 hj2)
    simp only [execOp, e, e2]
    simp [go_sem, eqGuard, binOp]) ⟨_, rfl, h _, Below.refl _ _⟩
theorem does_not (ty : TypeId) (s j : Nat) (b : Bool) (ho : ops[i]? = some ⟨d, .unOp .not ty (.tmp s), t, p, af, g⟩) (hg : Wants ops φ i g) (hj : edgeOn ops i j s = true) (hv : ∀ v w, φ j v w → v = .bool b) (h : ∀ w, φ i (.bool (!b)) w) : Does P ops Q φ W a0 i :=
  does_of _ ho hg fun a w _ _ hdep => opwp_run (v := .bool (!b)) (w' := w) (by
    have e : a.eval (.tmp s) = .bool b := hv _ _ (hdep j s hj)
    simp only [execOp, e]
    simp [go_sem, Op.unary]) ⟨_, rfl, h _, Below.refl _ _⟩
end
end Go.Proofs.Ytdhhcmdofnjhiaa
