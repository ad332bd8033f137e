/- Arrays as values; functions as data. No program's code. No condition. -/
import Derived.Test.YtdhhcmdofnjhiaaAvP
namespace Go.Proofs.Ytdhhcmdofnjhiaa
open Go.RowKit

/-- An array type: the cells of an element, its zero value. -/
structure ArrOk (P : Program) (t : TypeId) (s : Nat) (z : Value) : Prop where
  und : ∃ n e, P.underlying t = some (.array n e) ∧ ∃ i, P.info? e = some i ∧ i.size = s
  zero : (P.info? t).bind (·.zero) = some z
  one : z.cells.all (·.oneCell') = true
def arrB (P : Program) (t : TypeId) (s : Nat) : Bool :=
  match P.underlying t with
  | some (.array _ e) => match P.info? e with
    | some i => decide (i.size = s)
    | none => false
  | _ => false
theorem arr_of {P : Program} {t : TypeId} {s : Nat} {z : Value} (h : arrB P t s = true) (hz : (P.info? t).bind (·.zero) = some z) (h1 : z.cells.all (·.oneCell') = true) : ArrOk P t s z := by
  unfold arrB at h
  split at h
  · rename_i n e hu
    split at h
    · rename_i i hi
      exact ⟨⟨n, e, hu, i, hi, of_decide_eq_true h⟩, hz, h1⟩
    · cases h
  · cases h

section
variable {P : Program} {o : Oper} {es : List Ent} {α : Type}
/-- An array's value, of data. -/
theorem ok_buildA {t : TypeId} {parts : Array (Nat × Operand)} {s : Nat} {z : Value} (hA : ArrOk P t s z) (vs : List AV) (hp : partsB (fun i => some (i * s, s)) (zCells z).length parts.toList vs = true)
    (hd : (fillA (fun i => some (i * s, s)) (zCells z) parts.toList vs).all AV.isD = true) (ho : o.op = .build t parts) :
    OpOk P o (partNeeds parts.toList vs) es (.d (.agg (getDs (fillA (fun i => some (i * s, s)) (zCells z) parts.toList vs)))) es :=
  .pure fun ok H a w _ _ hn => by
    obtain ⟨⟨n, e, hu, i, hi, hs⟩, hz, h1⟩ := hA
    have hzr := run_zero (P := P) hz w
    have hu' : (underlying t).run P w = .ok (.array n e) w := by simp [underlying, hu]
    have hs' : (sizeOf e).run P w = .ok s w := by simp [sizeOf, typeInfo, hi, hs]
    obtain ⟨cells', hc, hR⟩ := fill_run (place := fun i => some (i * s, s)) parts.toList vs (zCells z) z.cells (zCells_rs (ok := ok) (w := w) (H := H) h1) hp hn
    refine ⟨.agg cells', ?_, .d _ _ ?_⟩
    · have e : (parts.map fun (i, x) => (i, a.eval x)).toList = parts.toList.map fun p => (p.1, a.eval p.2) := by simp
      simp only [execOp, ho, Instr.build, Sem.run_bind, hzr, hu', hs', Result.andThen_ok]
      rw [e, hc]
      rfl
    · rw [isD_toD hd] at hR
      generalize getDs (fillA (fun i => some (i * s, s)) (zCells z) parts.toList vs) = xs at hR ⊢
      obtain ⟨h2, h3⟩ := hR
      simp only [List.length_map] at h2 h3
      have hg : ∀ i, i < xs.length → (xs.map AV.d).getD i .junk = .d (xs.getD i dz) := by
        intro i hi; simp [List.getD, hi]
      have hsz : cells'.size = xs.length := by simpa using h2
      refine .agg xs cells' hsz ?_ ?_ <;> intro i hi
      · have := (h3 i hi).1; rw [hg i hi] at this; exact this
      · have h4 := (h3 i hi).2
        rw [hg i hi] at h4
        have hi2 : i < cells'.size := by omega
        have e : cells'.toList.getD i undef = cells'.getD i undef := by simp [List.getD, Array.getD, hi2]
        rw [e] at h4
        cases h4 with | d _ _ h => exact h


def eA (enc : α → D) (l : List α) : D := .agg (l.map enc)
/-- An element of an array's value, in one cell. -/
theorem ok_idxA {x y : Operand} {t e : TypeId} {n : Nat} {k : IntKind} {i : Int} (enc : α → D) {l : List α} {a : α} (h : gIdx l i = some a) (ht : P.underlying t = some (.array n e)) (hT : Ty P e false 1) (hl : l.length = n) (ho : o.op = .index t x y) :
    OpOk P o [(x, .d (eA enc l)), (y, .d (.lit (.int k i)))] es (.d (enc a)) es :=
  .pure fun ok H ac w _ _ hn => by
    obtain ⟨h0, h1⟩ := gIdx_some h
    have hx := (mem2 hn).1
    have hy := (mem2 hn).2.lit
    simp only at hx hy
    have hlt := (List.getElem?_eq_some_iff.1 h1).1
    have hu : (underlying t).run P w = .ok (.array n e) w := by simp [underlying, ht]
    generalize hv : ac.eval x = v at hx
    cases hx with
    | d _ _ hx =>
      cases hx with
      | agg _ vs hl' hf hc =>
        rw [List.length_map] at hl' hf hc
        have hlt' : i.toNat < vs.size := by omega
        refine ⟨vs[i.toNat], ?_, ?_⟩
        · have hb : 0 ≤ i ∧ i < n := ⟨h0, by omega⟩
          simp only [execOp, ho, hv, hy, Instr.index, asIntOf, Sem.run_bind, Sem.run_pure, hu, Result.andThen_ok, hb, and_self, if_true, hT.size w, part, hT.agg w]
          simp [hlt']
        · have := hc i.toNat hlt
          simp only [Array.getD, hlt', dif_pos] at this
          have e2 : (l.map enc).getD i.toNat dz = enc a := by simp [List.getD, h1]
          rw [e2] at this
          exact .d _ _ this

theorem ok_nilPtr {x : Operand} {k off : Nat} (ho : o.op = .nilCheck x) : OpOk P o [(x, .ptr k off)] es (.ptr k off) es :=
  .pure fun ok H a w _ _ hn => by
    have h1 := mem1 hn
    simp only at h1
    generalize he : a.eval x = u at h1
    cases h1 with
    | ptr _ _ b s h => exact ⟨_, by simp [execOp, ho, he], .ptr _ _ b s h⟩
theorem ok_nilEptr {x : Operand} {k i off : Nat} (ho : o.op = .nilCheck x) : OpOk P o [(x, .eptr k i off)] es (.eptr k i off) es :=
  .pure fun ok H a w _ _ hn => by
    have h1 := mem1 hn
    simp only at h1
    generalize he : a.eval x = u at h1
    cases h1 with
    | eptr _ _ _ b n cap s h => exact ⟨_, by simp [execOp, ho, he], .eptr _ _ _ b n cap s h⟩
theorem ok_nilRef {x : Operand} {cs : List D} {off : Nat} (ho : o.op = .nilCheck x) : OpOk P o [(x, .d (.ref cs off))] es (.d (.ref cs off)) es :=
  .pure fun ok H a w _ _ hn => by
    have h1 := mem1 hn
    simp only at h1
    generalize he : a.eval x = u at h1
    cases h1 with
    | d _ _ h => cases h with
      | ref _ _ b p hok hf hx hc => exact ⟨_, by simp [execOp, ho, he], .d _ _ (.ref _ _ b p hok hf hx hc)⟩

/-- A function as a datum. -/
def eFn (n : Nat) : D := .fn (.func n) [] []
end
end Go.Proofs.Ytdhhcmdofnjhiaa
