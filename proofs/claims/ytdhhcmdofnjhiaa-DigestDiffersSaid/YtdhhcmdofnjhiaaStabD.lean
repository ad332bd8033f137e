/- What the operations of a drawn region yield, told by a few kinds. No program's code. No condition. -/
import Derived.Test.YtdhhcmdofnjhiaaStabK
import Derived.Test.YtdhhcmdofnjhiaaPair
namespace Go.Proofs.Ytdhhcmdofnjhiaa
open Go.RowKit

/-- What a slot holds. -/
inductive Kd
  | val (v : Value)
  | rm (r : Rm)
  | ints (l : List Int)
def Kd.ok : Kd → Value → World → Prop
  | .val x, v, _ => v = x
  | .rm r, v, w => ∃ cs, v = .agg cs ∧ RmC w cs r
  | .ints l, v, w => Ints w v l
def kds (ks : List Kd) (i : Nat) (v : Value) (w : World) : Prop := match ks[i]? with
  | some k => k.ok v w
  | none => True
theorem kds_mono (ks : List Kd) (i : Nat) (v : Value) (w w' : World) (hb : Below w.heap.size w w') (h : kds ks i v w) : kds ks i v w' := by
  unfold kds at *
  cases hk : ks[i]? with
  | none => trivial
  | some k =>
    rw [hk] at h
    cases k with
    | val x => exact h
    | rm r => obtain ⟨cs, h1, h2⟩ := h; exact ⟨cs, h1, h2.below' hb⟩
    | ints l => exact SlR.below IntC.mono h hb

section
variable {P : Program} {ops : Array Oper} {Q : Exit → Act → World → Prop} {φ : Nat → Value → World → Prop} {W : World} {a0 : Act} {i : Nat}
variable {d : Option Tmp} {t : TypeId} {p : String} {af : Array Edge} {g : Option (Nat × Bool)}

theorem does_room (ty : TypeId) (s : Nat) (r : Rm) (cs : Array Value) (b : Nat) (ho : ops[i]? = some ⟨d, .load ty (.tmp s), t, p, af, g⟩) (hg : Wants ops φ i g) (hs : (written ops).contains s = false) (hx : a0.tmps.getD s undef = .pointer (some ⟨b, 0, none⟩))
    (n : Nat) (hA : ∀ w, (isAgg ty).run P w = .ok true w) (hS : ∀ w, (sizeOf ty).run P w = .ok n w) (hn : cs.size = n)
    (hc : ∀ w, Below W.heap.size W w → ∀ k, w.cell? ⟨b, k, none⟩ = cs[k]?) (hr : RmC W cs r) (h : ∀ v w, (Kd.rm r).ok v w → φ i v w) : Does P ops Q φ W a0 i :=
  does_load ty s ho hg b hs hx cs n hA hS hn hc fun _ hb => h _ _ ⟨cs, rfl, hr.below' hb⟩

theorem does_list (ty e : TypeId) (n : Nat) (parts : Array (Nat × Operand)) (l : List Int) (ho : ops[i]? = some ⟨d, .buildSlice ty n parts, t, p, af, g⟩) (hg : Wants ops φ i g) (hl : n = l.length) (hpar : ∀ a : Act, parts.map (fun (i, x) => (i, a.eval x)) = parts.map (fun (i, x) => (i, (⟨#[], []⟩ : Act).eval x)))
    (hrun : ∀ w, (Instr.buildSlice ty n (parts.map (fun (i, x) => (i, (⟨#[], []⟩ : Act).eval x)))).run P w = .ok (.slice (some ⟨w.heap.size, 0, none⟩) n n) (w.alloc (.cells (l.map (Value.int .i64)).toArray e))) (hm : l.length ≤ 9223372036854775807)
    (h : ∀ v w, Ints w v l → φ i v w) : Does P ops Q φ W a0 i :=
  does_of _ ho hg fun a w hb hold hdep => by
    refine opwp_run (v := .slice (some ⟨w.heap.size, 0, none⟩) n n) (w' := w.alloc (.cells (l.map (Value.int .i64)).toArray e)) ?_ ⟨_, rfl, h _ _ ?_, (Below.refl _ _).alloc (Nat.le_refl _) _⟩
    · simp only [execOp, hpar, Sem.run_bind, hrun, Result.andThen_ok, Sem.run_pure]
    · rw [hl]
      refine ints_of_owns (base := w.heap.size) (e := e) (n := l.length) ⟨by simp, .inr ⟨w.heap.size, l.length, _, rfl, Nat.le_refl _, heap_alloc_new w _, Nat.le_refl _, by unfold maxLen; omega, by simp, ?_⟩⟩
      rw [Nat.mul_one]
      have e : l.length = (l.map (Value.int .i64)).length := by simp
      show List.take l.length (l.map (Value.int .i64)) = _
      rw [e, List.take_length]
end

/-- The end of a function that gives back one slot. -/
theorem ret_slot {P : Program} {fn : Func} {R : Ending → World → Prop} {a : Act} {w : World} {v : Value} (t : Tmp) (hr : fn.results = #[.tmp t]) (hv : a.tmps.getD t undef = v) (hd : a.defers = []) (hR : R (.returned v) w) : Code.wp P .ret (bodyPost P fn R) a w := by
  have hv' : a.tmps[t]?.getD undef = v := by simpa using hv
  exact wp_ret (bodyPost_ret (v := v) (by simp [results, hr, hv']) hd hR)
end Go.Proofs.Ytdhhcmdofnjhiaa
