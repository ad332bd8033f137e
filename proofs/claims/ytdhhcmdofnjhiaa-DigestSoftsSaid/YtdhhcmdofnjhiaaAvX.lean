/- Operations that compute themselves: a run of operations over an abstract state, told by evaluation. No program's code. No condition. -/
import Derived.Test.YtdhhcmdofnjhiaaAvY
namespace Go.Proofs.Ytdhhcmdofnjhiaa
open Go.RowKit

/-- Every one of a list. -/
def Alls {α : Type} (p : α → Prop) : List α → Prop
  | [] => True
  | x :: l => p x ∧ Alls p l
theorem Alls.mem {α : Type} {p : α → Prop} : ∀ {l : List α}, Alls p l → ∀ x ∈ l, p x
  | [], _, x, h => by simp at h
  | y :: l, hl, x, h => by
    rcases List.mem_cons.1 h with rfl | h
    · exact hl.1
    · exact hl.2.mem x h

/-- Facts on a program's types, as tables. -/
class Kn (P : Program) where
  und : List (Nat × TypeDesc)
  hund : Alls (fun p : Nat × TypeDesc => P.underlying p.1 = some p.2) und
  ty : List (Nat × Bool × Nat)
  hty : Alls (fun p : Nat × Bool × Nat => Ty P p.1 p.2.1 p.2.2) ty
  fld : List ((Nat × Nat) × Nat)
  hfld : Alls (fun p : (Nat × Nat) × Nat => FieldOk P p.1.1 p.1.2 p.2) fld
  part : List ((Nat × Nat) × Nat × Bool × Nat)
  hpart : Alls (fun p : (Nat × Nat) × Nat × Bool × Nat => partB P p.1.1 p.1.2 p.2.1 p.2.2.1 p.2.2.2 = true) part
  zero : List (Nat × Value)
  hzero : Alls (fun p : Nat × Value => (P.info? p.1).bind (·.zero) = some p.2 ∧ p.2.cells.all (·.oneCell') = true) zero
  st : List (Nat × List (Nat × Nat) × Value)
  hst : Alls (fun p : Nat × List (Nat × Nat) × Value => StructOk P p.1 p.2.1 p.2.2) st
  arr : List (Nat × Nat × Value)
  harr : Alls (fun p : Nat × Nat × Value => ArrOk P p.1 p.2.1 p.2.2) arr

def look {β : Type} (t : Nat) : List (Nat × β) → Option β
  | [] => none
  | (u, b) :: l => match Nat.beq t u with | true => some b | false => look t l
theorem look_mem {β : Type} {t : Nat} {b : β} : ∀ {l : List (Nat × β)}, look t l = some b → (t, b) ∈ l
  | [], h => by cases h
  | (u, c) :: l, h => by
    unfold look at h
    split at h
    · rename_i e
      cases h
      rw [Nat.eq_of_beq_eq_true e]; exact List.mem_cons_self
    · exact List.mem_cons_of_mem _ (look_mem h)
def look2 {β : Type} (t f : Nat) : List ((Nat × Nat) × β) → Option β
  | [] => none
  | ((u, g), b) :: l => match Nat.beq t u && Nat.beq f g with | true => some b | false => look2 t f l
theorem look2_mem {β : Type} {t f : Nat} {b : β} : ∀ {l : List ((Nat × Nat) × β)}, look2 t f l = some b → ((t, f), b) ∈ l
  | [], h => by cases h
  | ((u, g), c) :: l, h => by
    unfold look2 at h
    split at h
    · rename_i e
      cases h
      rw [Bool.and_eq_true] at e
      rw [Nat.eq_of_beq_eq_true e.1, Nat.eq_of_beq_eq_true e.2]; exact List.mem_cons_self
    · exact List.mem_cons_of_mem _ (look2_mem h)

/-- What an operation yields: its operands as told, its value, the entities, whether they turned. -/
structure Res where
  ns : List (Operand × AV)
  x : AV
  E : List Ent
  bar : Bool

def binI (op : BinOp) (k : IntKind) (a b : Int) : Option Value :=
  match op with
  | .add => some (.int k (k.wrap (a + b)))
  | .sub => some (.int k (k.wrap (a - b)))
  | .mul => some (.int k (k.wrap (a * b)))
  | .eql => some (.bool (a == b))
  | .neq => some (.bool (a != b))
  | .lss => some (.bool (decide (a < b)))
  | .leq => some (.bool (decide (a ≤ b)))
  | .gtr => some (.bool (decide (a > b)))
  | .geq => some (.bool (decide (a ≥ b)))
  | _ => none
theorem binI_ok {op : BinOp} {k : IntKind} {a b : Int} {r : Value} {t : TypeId} {P : Program} (h : binI op k a b = some r) (w : World) : (binOp op t (.int k a) (.int k b)).run P w = .ok r w := by
  unfold binI at h
  cases op <;> first | (cases h; done) | (cases h; simp [binOp, Op.intArith, Op.intCmp]; done) | (cases h; cases k <;> rfl)

def binS (op : BinOp) (a b : ByteArray) : Option Value :=
  match op with
  | .eql => some (.bool (a.toList == b.toList))
  | .neq => some (.bool (!(a.toList == b.toList)))
  | .lss => some (.bool (Op.bytesLess a.toList b.toList))
  | .leq => some (.bool (Op.bytesLess a.toList b.toList || a.toList == b.toList))
  | .gtr => some (.bool (!(Op.bytesLess a.toList b.toList || a.toList == b.toList)))
  | .geq => some (.bool (!Op.bytesLess a.toList b.toList))
  | _ => none
theorem binS_ok {op : BinOp} {a b : ByteArray} {r : Value} {t : TypeId} {P : Program} (h : binS op a b = some r) (w : World) : (binOp op t (.string a) (.string b)).run P w = .ok r w := by
  unfold binS at h
  cases op <;> first | (cases h; done) | (cases h; rfl)

/-- The operand nil is an empty row. -/
theorem OpOk.nilArg {P : Program} {o : Oper} {ns ns' : List (Operand × AV)} {es es' : List Ent} {x : AV} (h : OpOk P o ns es x es') (hns : ∀ n ∈ ns, n ∈ ns' ∨ n = (.const (.slice none 0 0), .d (.sl []))) : OpOk P o ns' es x es' := by
  intro C ok H a w Q hm hn
  refine h C ok H a w Q hm (fun n hn' => ?_)
  rcases hns n hn' with h1 | rfl
  · exact hn n h1
  · exact .d _ _ (.sl0 none 0)
/-- A datum that is told as a Bool. -/
def AV.litV : AV → Option Value
  | .d (.lit v) => some v
  | _ => none

/-- The value of an operation that computes itself. -/
def autoOp {P : Program} (K : Kn P) (σ : St) (o : Oper) : Option Res :=
  match o.op with
  | .move x => match x with
    | .const (.slice none 0 0) => some ⟨[], .d (.sl []), σ.ents, false⟩
    | x => some ⟨[(x, σ.get x)], σ.get x, σ.ents, false⟩
  | .assign x => match x with
    | .const (.slice none 0 0) => some ⟨[], .d (.sl []), σ.ents, false⟩
    | x => some ⟨[(x, σ.get x)], σ.get x, σ.ents, false⟩
  | .pick c x y => match σ.get c with
    | .d (.lit (.bool true)) => some ⟨[(c, .d (.lit (.bool true))), (x, σ.get x)], σ.get x, σ.ents, false⟩
    | .d (.lit (.bool false)) => some ⟨[(c, .d (.lit (.bool false))), (y, σ.get y)], σ.get y, σ.ents, false⟩
    | _ => none
  | .binOp op t x y _ => match σ.get x, σ.get y with
    | .d (.lit (.int k a)), .d (.lit (.int k' b)) => if k = k' then (binI op k a b).map fun r => ⟨[(x, .d (.lit (.int k a))), (y, .d (.lit (.int k b)))], .d (.lit r), σ.ents, false⟩ else none
    | .d (.lit (.string a)), .d (.lit (.string b)) => (binS op a b).map fun r => ⟨[(x, .d (.lit (.string a))), (y, .d (.lit (.string b)))], .d (.lit r), σ.ents, false⟩
    | .d (.lit (.bool a)), .d (.lit (.bool b)) => match look t K.und with
      | some .bool => match op with
        | .eql => some ⟨[(x, .d (eB a)), (y, .d (eB b))], .d (eB (a == b)), σ.ents, false⟩
        | .neq => some ⟨[(x, .d (eB a)), (y, .d (eB b))], .d (eB (!(a == b))), σ.ents, false⟩
        | _ => none
      | _ => none
    | _, _ => none
  | .unOp op _ x => match σ.get x with
    | .d (.lit (.bool b)) => match op with
      | .not => some ⟨[(x, .d (.lit (.bool b)))], .d (.lit (.bool !b)), σ.ents, false⟩
      | _ => none
    | .d (.lit (.int k n)) => match op with
      | .neg => some ⟨[(x, .d (.lit (.int k n)))], .d (.lit (.int k (k.wrap (0 - n)))), σ.ents, false⟩
      | _ => none
    | _ => none
  | .convert s t x => match look s K.und, look t K.und, σ.get x with
    | some (.int k0), some (.int k), .d (.lit (.int k1 n)) => if k0 = k1 then some ⟨[(x, .d (.lit (.int k0 n)))], .d (.lit (.int k (k.wrap n))), σ.ents, false⟩ else none
    | some .string, some .string, .d (.lit (.string u)) => some ⟨[(x, .d (eS u))], .d (eS u), σ.ents, false⟩
    | _, _, _ => none
  | .extract x i => match σ.get x with
    | .tup xs => match xs[i]? with
      | some v => some ⟨[(x, .tup xs)], v, σ.ents, false⟩
      | none => none
    | _ => none
  | .fieldAddr t x f => match look2 t f K.fld, σ.get x with
    | some off, .ptr k o' => some ⟨[(x, .ptr k o')], .ptr k (o' + off), σ.ents, false⟩
    | some off, .eptr k i o' => some ⟨[(x, .eptr k i o')], .eptr k i (o' + off), σ.ents, false⟩
    | some off, .d (.ref cs o') => some ⟨[(x, .d (.ref cs o'))], .d (.ref cs (o' + off)), σ.ents, false⟩
    | _, _ => none
  | .nilCheck x => match σ.get x with
    | .ptr k o' => some ⟨[(x, .ptr k o')], .ptr k o', σ.ents, false⟩
    | .eptr k i o' => some ⟨[(x, .eptr k i o')], .eptr k i o', σ.ents, false⟩
    | .d (.ref cs o') => some ⟨[(x, .d (.ref cs o'))], .d (.ref cs o'), σ.ents, false⟩
    | _ => none
  | .field t x f => match look2 t f K.part, σ.get x with
    | some (off, agg, n), .d (.agg cs) => if off + n ≤ cs.length ∧ (agg = false → n = 1) then some ⟨[(x, .d (.agg cs))], .d (cellsVar agg cs off n), σ.ents, false⟩ else none
    | _, _ => none
  | .load t x => match look t K.ty, σ.get x with
    | some (agg, n), .d (.ref cs off) => if off + n ≤ cs.length ∧ (agg = false → n = 1) then some ⟨[(x, .d (.ref cs off))], .d (cellsVar agg cs off n), σ.ents, false⟩ else none
    | some (agg, n), .ptr k off => match σ.ents[k]? with
      | some (.box cs) => if (off + n ≤ cs.length ∧ (agg = false → n = 1)) ∧ cs.all AV.isD = true then some ⟨[(x, .ptr k off)], .d (cellsVar agg (getDs cs) off n), σ.ents, false⟩ else match agg, n, cs[off]? with
        | false, 1, some v => some ⟨[(x, .ptr k off)], v, σ.ents, false⟩
        | _, _, _ => none
      | _ => none
    | _, _ => none
  | .box _ x => if (σ.get x).cells.all AV.leaf = true then some ⟨[(x, σ.get x)], .ptr σ.ents.length 0, σ.ents ++ [.box (σ.get x).cells], true⟩ else none
  | .alloc t => match look t K.zero with
    | some z => some ⟨[], .ptr σ.ents.length 0, σ.ents ++ [.box (zCells z)], true⟩
    | none => none
  | .store t x y => match look t K.ty, σ.get x with
    | some (_, n), .ptr k off => match σ.ents[k]? with
      | some (.box cs) => match y with
       | .const (.slice none 0 0) => if n = 1 ∧ off + 1 ≤ cs.length then some ⟨[(x, .ptr k off)], .junk, σ.ents.set k (.box (setAt cs off [.d (.sl [])])), true⟩ else none
       | y => if ((σ.get y).cells.all AV.leaf = true ∧ (σ.get y).cells.length = n) ∧ off + n ≤ cs.length then some ⟨[(x, .ptr k off), (y, σ.get y)], .junk, σ.ents.set k (.box (setAt cs off (σ.get y).cells)), true⟩ else none
      | _ => none
    | _, _ => none
  | .build t parts => match look t K.st with
    | some (places, z) =>
      if partsB (fun (i : Nat) => places[i]?) (zCells z).length parts.toList (parts.toList.map fun p => σ.get p.2) = true ∧ (fillA (fun (i : Nat) => places[i]?) (zCells z) parts.toList (parts.toList.map fun p => σ.get p.2)).all AV.isD = true
      then some ⟨partNeeds parts.toList (parts.toList.map fun p => σ.get p.2), .d (.agg (getDs (fillA (fun (i : Nat) => places[i]?) (zCells z) parts.toList (parts.toList.map fun p => σ.get p.2)))), σ.ents, false⟩
      else none
    | none => match look t K.arr with
      | some (s, z) =>
        if partsB (fun i => some (i * s, s)) (zCells z).length parts.toList (parts.toList.map fun p => σ.get p.2) = true ∧ (fillA (fun i => some (i * s, s)) (zCells z) parts.toList (parts.toList.map fun p => σ.get p.2)).all AV.isD = true
        then some ⟨partNeeds parts.toList (parts.toList.map fun p => σ.get p.2), .d (.agg (getDs (fillA (fun i => some (i * s, s)) (zCells z) parts.toList (parts.toList.map fun p => σ.get p.2)))), σ.ents, false⟩
        else none
      | none => none
  | .call c => match c.callee, c.args.toList, c.argTypes.toList with
    | .builtin .len, [x], [t] => match look t K.und, σ.get x with
      | some .string, .d (.lit (.string s)) => some ⟨[(x, .d (eS s))], .d (eI s.size), σ.ents, false⟩
      | _, _ => none
    | _, _, _ => none
  | _ => none

theorem partNeeds_ok (σ : St) : ∀ (l : List (Nat × Operand)), needs σ (partNeeds l (l.map fun p => σ.get p.2))
  | [] => trivial
  | (_, x) :: l => ⟨rfl, partNeeds_ok σ l⟩

theorem autoOp_ok {P : Program} (K : Kn P) {σ : St} {o : Oper} {r : Res} (h : autoOp K σ o = some r) : OpOk P o r.ns σ.ents r.x r.E ∧ needs σ r.ns ∧ (r.bar = false → r.E = σ.ents) := by
  unfold autoOp at h
  split at h
  · rename_i x ho
    split at h
    · cases h; exact ⟨ok_move_nil ho, trivial, fun _ => rfl⟩
    · cases h; exact ⟨ok_move ho, ⟨rfl, trivial⟩, fun _ => rfl⟩
  · rename_i x ho
    split at h
    · cases h; exact ⟨ok_assign_nil ho, trivial, fun _ => rfl⟩
    · cases h; exact ⟨ok_assign ho, ⟨rfl, trivial⟩, fun _ => rfl⟩
  · rename_i c x y ho
    split at h
    · rename_i e; cases h; exact ⟨ok_pick true rfl ho, ⟨e, rfl, trivial⟩, fun _ => rfl⟩
    · rename_i e; cases h; exact ⟨ok_pick' false rfl ho, ⟨e, rfl, trivial⟩, fun _ => rfl⟩
    · cases h
  · rename_i op t x y t' ho
    split at h
    · rename_i k a k' b e1 e2
      split at h
      · rename_i hk
        subst hk
        rw [Option.map_eq_some_iff] at h
        obtain ⟨v, hv, rfl⟩ := h
        exact ⟨ok_bin ho (binI_ok hv) ⟨rfl, rfl⟩, ⟨e1, e2, trivial⟩, fun _ => rfl⟩
      · cases h
    · rename_i a b e1 e2
      rw [Option.map_eq_some_iff] at h
      obtain ⟨v, hv, rfl⟩ := h
      exact ⟨ok_bin ho (binS_ok hv) ⟨rfl, rfl⟩, ⟨e1, e2, trivial⟩, fun _ => rfl⟩
    · rename_i a b e1 e2
      split at h
      · rename_i hu
        have hu := K.hund.mem _ (look_mem hu)
        split at h
        · cases h; exact ⟨ok_eqb hu ho, ⟨e1, e2, trivial⟩, fun _ => rfl⟩
        · cases h; exact ⟨ok_neb hu ho, ⟨e1, e2, trivial⟩, fun _ => rfl⟩
        · cases h
      · cases h
    · cases h
  · rename_i op t x ho
    split at h
    · rename_i b e
      split at h
      · cases h; exact ⟨ok_un ho (fun _ => rfl), ⟨e, trivial⟩, fun _ => rfl⟩
      · cases h
    · rename_i k n e
      split at h
      · cases h; exact ⟨ok_un ho (fun _ => rfl), ⟨e, trivial⟩, fun _ => rfl⟩
      · cases h
    · cases h
  · rename_i s t x ho
    split at h
    · rename_i k0 k k1 n h1 h2 e
      split at h
      · rename_i hk
        subst hk
        cases h
        exact ⟨ok_convI (K.hund.mem _ (look_mem h1)) (K.hund.mem _ (look_mem h2)) ho, ⟨e, trivial⟩, fun _ => rfl⟩
      · cases h
    · rename_i u h1 h2 e
      cases h
      exact ⟨ok_convS (K.hund.mem _ (look_mem h1)) (K.hund.mem _ (look_mem h2)) ho, ⟨e, trivial⟩, fun _ => rfl⟩
    · cases h
  · rename_i x i ho
    split at h
    · rename_i xs e
      split at h
      · rename_i v hv; cases h; exact ⟨ok_extract ho hv, ⟨e, trivial⟩, fun _ => rfl⟩
      · cases h
    · cases h
  · rename_i t x f ho
    split at h
    · rename_i off k o' h1 e; cases h; exact ⟨ok_field_ptr (K.hfld.mem _ (look2_mem h1)) ho, ⟨e, trivial⟩, fun _ => rfl⟩
    · rename_i off k i o' h1 e; cases h; exact ⟨ok_field_eptr (K.hfld.mem _ (look2_mem h1)) ho, ⟨e, trivial⟩, fun _ => rfl⟩
    · rename_i off cs o' h1 e; cases h; exact ⟨ok_field_ref (K.hfld.mem _ (look2_mem h1)) ho, ⟨e, trivial⟩, fun _ => rfl⟩
    · cases h
  · rename_i x ho
    split at h
    · rename_i e; cases h; exact ⟨ok_nilPtr ho, ⟨e, trivial⟩, fun _ => rfl⟩
    · rename_i e; cases h; exact ⟨ok_nilEptr ho, ⟨e, trivial⟩, fun _ => rfl⟩
    · rename_i e; cases h; exact ⟨ok_nilRef ho, ⟨e, trivial⟩, fun _ => rfl⟩
    · cases h
  · rename_i t x f ho
    split at h
    · rename_i off agg n cs h1 e
      split at h
      · rename_i hc; cases h; exact ⟨ok_fieldD rfl (K.hpart.mem _ (look2_mem h1)) hc.1 hc.2 ho, ⟨e, trivial⟩, fun _ => rfl⟩
      · cases h
    · cases h
  · rename_i t x ho
    split at h
    · rename_i agg n cs off h1 e
      split at h
      · rename_i hc; cases h; exact ⟨ok_loadR rfl (K.hty.mem _ (look_mem h1)) hc.1 hc.2 ho, ⟨e, trivial⟩, fun _ => rfl⟩
      · cases h
    · rename_i agg n k off h1 e
      split at h
      · rename_i cs hk
        split at h
        · rename_i hc; cases h; exact ⟨ok_loadB rfl hk hc.2 (K.hty.mem _ (look_mem h1)) hc.1.1 hc.1.2 ho, ⟨e, trivial⟩, fun _ => rfl⟩
        · split at h
          · rename_i v hv _; cases h; exact ⟨ok_load_cell hk hv (K.hty.mem _ (look_mem h1)) ho, ⟨e, trivial⟩, fun _ => rfl⟩
          · cases h
      · cases h
    · cases h
  · rename_i t x ho
    split at h
    · rename_i hc; cases h; exact ⟨ok_box hc ho, ⟨rfl, trivial⟩, fun hb => by cases hb⟩
    · cases h
  · rename_i t ho
    split at h
    · rename_i z hz; cases h; exact ⟨ok_alloc (K.hzero.mem _ (look_mem hz)).1 (K.hzero.mem _ (look_mem hz)).2 ho, trivial, fun hb => by cases hb⟩
    · cases h
  · rename_i t x y ho
    split at h
    · rename_i agg n k off h1 e
      split at h
      · rename_i cs hk
        split at h
        · split at h
          · rename_i hc
            cases h
            refine ⟨OpOk.nilArg (ok_store_box (v := .d (.sl [])) hk rfl (by have h9 := (K.hty.mem _ (look_mem h1)).size; rw [hc.1] at h9; exact h9) rfl hc.2 ho) (fun n hn => ?_), ⟨e, trivial⟩, fun hb => by cases hb⟩
            simp only [List.mem_cons, List.not_mem_nil, or_false] at hn
            rcases hn with rfl | rfl
            · exact .inl (by simp)
            · exact .inr rfl
          · cases h
        split at h
        · rename_i hc; cases h; exact ⟨ok_store_box hk hc.1.1 (K.hty.mem _ (look_mem h1)).size hc.1.2 hc.2 ho, ⟨e, rfl, trivial⟩, fun hb => by cases hb⟩
        · cases h
      · cases h
    · cases h
  · rename_i t parts ho
    split at h
    · rename_i places z hs
      split at h
      · rename_i hc; cases h; exact ⟨ok_buildD (K.hst.mem _ (look_mem hs)) _ ho rfl hc.1 hc.2, partNeeds_ok σ _, fun _ => rfl⟩
      · cases h
    · split at h
      · rename_i s z hs
        split at h
        · rename_i hc; cases h; exact ⟨ok_buildA (K.harr.mem _ (look_mem hs)) _ hc.1 hc.2 ho, partNeeds_ok σ _, fun _ => rfl⟩
        · cases h
      · cases h
  · rename_i c ho
    split at h
    · rename_i x t hcal ha ht
      have ho : o.op = .call { callee := .builtin .len, args := #[x], argTypes := #[t] } := by
        obtain ⟨cal, as, ts⟩ := c
        simp only at hcal ha ht
        rw [ho, hcal, show as = #[x] from by rw [← Array.toArray_toList (xs := as), ha], show ts = #[t] from by rw [← Array.toArray_toList (xs := ts), ht]]
      split at h
      · rename_i s h1 e; cases h; exact ⟨ok_lenS s (K.hund.mem _ (look_mem h1)) ho, ⟨e, trivial⟩, fun _ => rfl⟩
      · cases h
    · cases h
  · cases h

/-- The guard of an operation, decided by evaluation. -/
def guardV (ops : Array Oper) (σ : St) : Option (Nat × Bool) → Option Bool
  | none => some true
  | some (j, want) => match (ops[j]?).bind (·.dst) with
    | some d => match σ.slots.getD d .junk with
      | .d (.lit (.bool b)) => some (b == want)
      | .d (.lit (.tuple a)) => match a.toList with
        | [] => some false
        | _ => none
      | _ => none
    | none => none
theorem guardV_yes {ops : Array Oper} {σ : St} {g : Option (Nat × Bool)} (h : guardV ops σ g = some true) : GuardYes ops σ g := by
  unfold guardV at h
  split at h
  · exact .inl rfl
  · rename_i j want
    split at h
    · rename_i d hd
      split at h
      · rename_i b hs
        refine .inr ⟨j, want, d, b, rfl, hd, hs, ?_⟩
        simpa using h
      · split at h <;> cases h
      · cases h
    · cases h
theorem guardV_no {ops : Array Oper} {σ : St} {g : Option (Nat × Bool)} (h : guardV ops σ g = some false) : GuardNo ops σ g := by
  unfold guardV at h
  split at h
  · cases h
  · rename_i j want
    split at h
    · rename_i d hd
      split at h
      · rename_i b hs
        refine guardNo_of j want d b rfl hd hs ?_
        have : (b == want) = false := Option.some.inj h
        cases b <;> cases want <;> first | rfl | cases this
      · rename_i a hs
        split at h
        · rename_i ha
          have ha : a = #[] := by rw [← Array.toArray_toList (xs := a), ha]
          subst ha
          exact guardNo_undef j want d rfl hd hs
        · cases h
      · cases h
    · cases h

/-- One operation: its value, the entities, whether they turned. -/
def autoStep {P : Program} (K : Kn P) (ops : Array Oper) (σ : St) (o : Oper) : Option Res :=
  match guardV ops σ o.guard with
  | some true => match autoOp K σ o with
    | some r => if (needTmps r.ns).all (tmpsOf o).contains = true then some r else none
    | none => none
  | some false => some ⟨[], .d (.lit undef), σ.ents, false⟩
  | none => none
theorem autoStep_ok {P : Program} (K : Kn P) {ops : Array Oper} {σ : St} {o : Oper} {r : Res} (h : autoStep K ops σ o = some r) : StepFact P ops σ r.x r.E r.bar o := by
  unfold autoStep at h
  split at h
  · rename_i hg
    split at h
    · rename_i r' hr
      split at h
      · rename_i ht
        cases h
        obtain ⟨h1, h2, h3⟩ := autoOp_ok K hr
        exact ⟨.inl ⟨_, h1, h2, ht, guardV_yes hg⟩, h3⟩
      · cases h
    · cases h
  · rename_i hg
    cases h
    exact ⟨.inr ⟨rfl, rfl, guardV_no hg⟩, fun _ => rfl⟩
  · cases h

/-- n operations, one after the other: the state behind, and what each gave. -/
def autoGo {P : Program} (K : Kn P) (ops : Array Oper) : Nat → List Oper → St → Option (St × List Res)
  | 0, _, σ => some (σ, [])
  | n + 1, l, σ => match l with
    | o :: l => match autoStep K ops σ o with
      | some r => match autoGo K ops n l (σ.put o.dst r.x r.E) with
        | some (σ', rs) => some (σ', r :: rs)
        | none => none
      | none => none
    | [] => none
def goSt : Option (St × List Res) → St
  | some (σ, _) => σ
  | none => ⟨[], [], 0⟩
def goRs : Option (St × List Res) → List Res
  | some (_, rs) => rs
  | none => []

theorem Chain.auto {P : Program} (K : Kn P) {ops : Array Oper} : ∀ (n : Nat) {l : List Oper} {σ σ' : St}, (autoGo K ops n l σ).isSome = true → Chain P ops (l.drop n) (goSt (autoGo K ops n l σ)) σ' → Chain P ops l σ σ'
  | 0, l, σ, σ', _, k => by simpa [autoGo, goSt] using k
  | n + 1, l, σ, σ', h, k => by
    unfold autoGo at h k
    split at h
    · rename_i o l'
      split at h
      · rename_i r hr
        split at h
        · rename_i σ2 rs h2
          simp only [hr, h2] at k
          refine .anyE o.dst (autoStep_ok K hr) rfl (Chain.auto K n (by rw [h2]; rfl) ?_)
          rw [h2]
          exact k
        · cases h
      · cases h
    · cases h

theorem SChain.auto {P : Program} (K : Kn P) {ops : Array Oper} : ∀ (n : Nat) {l : List Oper} {σ σ' : St} {rs : List AV} {ess : List (List Ent)} {bs : List Bool}, (autoGo K ops n l σ).isSome = true → SChain P ops (l.drop n) (goSt (autoGo K ops n l σ)) rs ess bs σ' →
    SChain P ops l σ ((goRs (autoGo K ops n l σ)).map Res.x ++ rs) ((goRs (autoGo K ops n l σ)).map Res.E ++ ess) ((goRs (autoGo K ops n l σ)).map Res.bar ++ bs) σ'
  | 0, l, σ, σ', rs, ess, bs, _, k => by simpa [autoGo, goSt, goRs] using k
  | n + 1, l, σ, σ', rs, ess, bs, h, k => by
    unfold autoGo at h k ⊢
    split at h
    · rename_i o l'
      split at h
      · rename_i r hr
        split at h
        · rename_i σ2 rs2 h2
          simp only [hr, h2] at k ⊢
          refine .anyE o.dst (autoStep_ok K hr) rfl ?_
          have := SChain.auto K n (l := l') (σ := σ.put o.dst r.x r.E) (σ' := σ') (rs := rs) (ess := ess) (bs := bs) (by rw [h2]; rfl) (by rw [h2]; exact k)
          rw [h2] at this
          exact this
        · cases h
      · cases h
    · cases h

/-- n operations that compute themselves. -/
theorem Chain.a {P : Program} [T : Kn P] {ops : Array Oper} {l : List Oper} {σ σ' : St} (n : Nat) (k : Chain P ops (l.drop n) (goSt (autoGo T ops n l σ)) σ') (h : (autoGo T ops n l σ).isSome = true := by kernel_rfl) : Chain P ops l σ σ' := Chain.auto T n h k
theorem SChain.a {P : Program} [T : Kn P] {ops : Array Oper} {l : List Oper} {σ σ' : St} {rs : List AV} {ess : List (List Ent)} {bs : List Bool} (n : Nat) (k : SChain P ops (l.drop n) (goSt (autoGo T ops n l σ)) rs ess bs σ') (h : (autoGo T ops n l σ).isSome = true := by kernel_rfl) :
    SChain P ops l σ ((goRs (autoGo T ops n l σ)).map Res.x ++ rs) ((goRs (autoGo T ops n l σ)).map Res.E ++ ess) ((goRs (autoGo T ops n l σ)).map Res.bar ++ bs) σ' := SChain.auto T n h k
theorem Chain.c {P : Program} [T : Kn P] {ops : Array Oper} {o : Oper} {rest : List Oper} {σ σ' : St} {e c : Bool} (h : some e = some c) (k : Chain P ops rest (σ.put1 o.dst (.d (.lit (.bool c)))) σ') (hs : (autoStep T ops σ o).map (fun r => (r.x, r.E, r.bar)) = some (.d (.lit (.bool e)), σ.ents, false) := by kernel_rfl) : Chain P ops (o :: rest) σ σ' := by
  rw [Option.map_eq_some_iff] at hs
  obtain ⟨r, hr, he⟩ := hs
  have h1 := autoStep_ok T hr
  simp only [Prod.mk.injEq] at he
  rw [he.1, he.2.1, he.2.2, Option.some.inj h] at h1
  exact .anyE o.dst h1 rfl k
theorem SChain.c {P : Program} [T : Kn P] {ops : Array Oper} {o : Oper} {rest : List Oper} {σ σ' : St} {rs : List AV} {ess : List (List Ent)} {bs : List Bool} {e c : Bool} (h : some e = some c) (k : SChain P ops rest (σ.put1 o.dst (.d (.lit (.bool c)))) rs ess bs σ') (hs : (autoStep T ops σ o).map (fun r => (r.x, r.E, r.bar)) = some (.d (.lit (.bool e)), σ.ents, false) := by kernel_rfl) :
    SChain P ops (o :: rest) σ (.d (.lit (.bool c)) :: rs) (σ.ents :: ess) (false :: bs) σ' := by
  rw [Option.map_eq_some_iff] at hs
  obtain ⟨r, hr, he⟩ := hs
  have h1 := autoStep_ok T hr
  simp only [Prod.mk.injEq] at he
  rw [he.1, he.2.1, he.2.2, Option.some.inj h] at h1
  exact .anyE o.dst h1 rfl k

/-- The operands, as told, in one equation. -/
def needsE (σ : St) (ns : List (Operand × AV)) : Prop := (ns.map fun n => σ.get n.1) = ns.map (·.2)
theorem needs_of {σ : St} : ∀ {ns : List (Operand × AV)}, needsE σ ns → needs σ ns
  | [], _ => trivial
  | n :: ns, h => by
    simp only [needsE, List.map_cons, List.cons.injEq] at h
    exact ⟨h.1, needs_of h.2⟩
theorem Chain.p {P : Program} {ops : Array Oper} {o : Oper} {rest : List Oper} {σ σ' : St} {ns : List (Operand × AV)} {x : AV} (h : OpOk P o ns σ.ents x σ.ents) (k : Chain P ops rest (σ.put1 o.dst x) σ') (hn : (ns.map fun n => σ.get n.1) = ns.map (·.2) := by kernel_rfl) (hg : guardV ops σ o.guard = some true := by kernel_rfl) : Chain P ops (o :: rest) σ σ' :=
  .op o.dst h (needs_of hn) (guardV_yes hg) rfl k
theorem SChain.p {P : Program} {ops : Array Oper} {o : Oper} {rest : List Oper} {σ σ' : St} {ns : List (Operand × AV)} {x : AV} {rs : List AV} {ess : List (List Ent)} {bs : List Bool} (h : OpOk P o ns σ.ents x σ.ents) (k : SChain P ops rest (σ.put1 o.dst x) rs ess bs σ') (hn : (ns.map fun n => σ.get n.1) = ns.map (·.2) := by kernel_rfl) (hg : guardV ops σ o.guard = some true := by kernel_rfl)
    (ht : (needTmps ns).all (tmpsOf o).contains = true := by kernel_rfl) : SChain P ops (o :: rest) σ (x :: rs) (σ.ents :: ess) (false :: bs) σ' :=
  .op o.dst h (needs_of hn) (guardV_yes hg) rfl ht k
theorem Chain.e {P : Program} {ops : Array Oper} {o : Oper} {rest : List Oper} {σ σ' : St} {ns : List (Operand × AV)} {x : AV} {es' : List Ent} (E : List Ent) (h : OpOk P o ns σ.ents x es') (k : Chain P ops rest (σ.put o.dst x E) σ') (he : es' = E := by kernel_rfl) (hn : (ns.map fun n => σ.get n.1) = ns.map (·.2) := by kernel_rfl) (hg : guardV ops σ o.guard = some true := by kernel_rfl) : Chain P ops (o :: rest) σ σ' :=
  .oe o.dst E h he (needs_of hn) (guardV_yes hg) rfl k
theorem Chain.pc {P : Program} {ops : Array Oper} {o : Oper} {rest : List Oper} {σ σ' : St} {ns : List (Operand × AV)} {e c : Bool} (hec : some e = some c) (h : OpOk P o ns σ.ents (.d (.lit (.bool e))) σ.ents) (k : Chain P ops rest (σ.put1 o.dst (.d (.lit (.bool c)))) σ') (hn : (ns.map fun n => σ.get n.1) = ns.map (·.2) := by kernel_rfl) (hg : guardV ops σ o.guard = some true := by kernel_rfl) : Chain P ops (o :: rest) σ σ' :=
  .p (h.cast (condAV hec)) k hn hg
theorem SChain.pc {P : Program} {ops : Array Oper} {o : Oper} {rest : List Oper} {σ σ' : St} {ns : List (Operand × AV)} {rs : List AV} {ess : List (List Ent)} {bs : List Bool} {e c : Bool} (hec : some e = some c) (h : OpOk P o ns σ.ents (.d (.lit (.bool e))) σ.ents) (k : SChain P ops rest (σ.put1 o.dst (.d (.lit (.bool c)))) rs ess bs σ') (hn : (ns.map fun n => σ.get n.1) = ns.map (·.2) := by kernel_rfl) (hg : guardV ops σ o.guard = some true := by kernel_rfl)
    (ht : (needTmps ns).all (tmpsOf o).contains = true := by kernel_rfl) : SChain P ops (o :: rest) σ (.d (.lit (.bool c)) :: rs) (σ.ents :: ess) (false :: bs) σ' :=
  .p (h.cast (condAV hec)) k hn hg ht
theorem SChain.e {P : Program} {ops : Array Oper} {o : Oper} {rest : List Oper} {σ σ' : St} {ns : List (Operand × AV)} {x : AV} {es' : List Ent} {rs : List AV} {ess : List (List Ent)} {bs : List Bool} (E : List Ent) (h : OpOk P o ns σ.ents x es') (k : SChain P ops rest (σ.put o.dst x E) rs ess bs σ') (he : es' = E := by kernel_rfl) (hn : (ns.map fun n => σ.get n.1) = ns.map (·.2) := by kernel_rfl) (hg : guardV ops σ o.guard = some true := by kernel_rfl)
    (ht : (needTmps ns).all (tmpsOf o).contains = true := by kernel_rfl) : SChain P ops (o :: rest) σ (x :: rs) (E :: ess) (true :: bs) σ' :=
  .oe o.dst E h he (needs_of hn) (guardV_yes hg) rfl ht k

/-- A call with plain arguments: which function, which arguments. -/
def callV (σ : St) (o : Oper) : Option (FuncId × List AV) :=
  match o.op with
  | .call c => match c.callee with
    | .value (.func f) => some (f, c.args.toList.map σ.get)
    | _ => none
  | _ => none

theorem argsOk_data {srcs : List Sr} : ∀ {l : List AV}, l.all AV.isD = true → argsOk srcs l l
  | [], _ => trivial
  | x :: l, h => by
    simp only [List.all_cons, Bool.and_eq_true] at h
    refine ⟨?_, argsOk_data h.2⟩
    cases x with
    | d x => exact .inl rfl
    | _ => cases h.1
theorem argNeeds_ok (σ : St) : ∀ (l : List Operand), needs σ (argNeeds l (l.map σ.get))
  | [] => trivial
  | _ :: l => ⟨rfl, argNeeds_ok σ l⟩
theorem callV_ok {P : Program} {σ : St} {o : Oper} {f : FuncId} {avs : List AV} {res : AV} (hr : Runs P f avs [] res []) (hf : entersB P f = true) (hc : callV σ o = some (f, avs)) (hd : avs.all AV.isD = true) : ∃ ns, OpOk P o ns σ.ents (res.up [] σ.ents.length) σ.ents ∧ needs σ ns ∧ (needTmps ns).all (tmpsOf o).contains = true := by
  unfold callV at hc
  split at hc
  · rename_i c ho
    split at hc
    · rename_i f' hcal
      cases hc
      obtain ⟨callee, args, ats⟩ := c
      simp only at hcal
      subst hcal
      refine ⟨_, ok_callV hr hf (argsOk_data hd) (by simp) rfl ho, argNeeds_ok σ _, ?_⟩
      rw [List.all_eq_true]
      intro t ht
      unfold needTmps at ht
      rw [List.mem_filterMap] at ht
      obtain ⟨n, hn, hnt⟩ := ht
      have hmem : n.1 ∈ args.toList := by
        have : ∀ (l : List Operand) (vs : List AV), n ∈ argNeeds l vs → n.1 ∈ l := by
          intro l
          induction l with
          | nil => intro vs h; cases vs <;> simp [argNeeds] at h
          | cons x l ih =>
            intro vs h
            cases vs with
            | nil => simp [argNeeds] at h
            | cons v vs =>
              simp only [argNeeds, List.mem_cons] at h
              rcases h with rfl | h
              · exact List.mem_cons_self
              · exact List.mem_cons_of_mem _ (ih vs h)
        exact this _ _ hn
      unfold tmpsOf
      simp only [List.contains_iff_mem, List.mem_filterMap]
      refine ⟨n.1, ?_, hnt⟩
      rw [ho]
      show n.1 ∈ (#[Operand.func f] ++ args).toList
      simp [hmem]
    · cases hc
  · cases hc
theorem Chain.call {P : Program} {ops : Array Oper} {o : Oper} {rest : List Oper} {σ σ' : St} {f : FuncId} {avs : List AV} {res : AV} (hr : Runs P f avs [] res []) (hf : entersB P f = true) (k : Chain P ops rest (σ.put1 o.dst (res.up [] σ.ents.length)) σ') (hc : callV σ o = some (f, avs) := by kernel_rfl)
    (hd : avs.all AV.isD = true := by kernel_rfl) (hg : guardV ops σ o.guard = some true := by kernel_rfl) : Chain P ops (o :: rest) σ σ' := by
  obtain ⟨ns, h1, h2, _⟩ := callV_ok hr hf hc hd
  exact .op o.dst h1 h2 (guardV_yes hg) rfl k
theorem SChain.call {P : Program} {ops : Array Oper} {o : Oper} {rest : List Oper} {σ σ' : St} {f : FuncId} {avs : List AV} {res : AV} {rs : List AV} {ess : List (List Ent)} {bs : List Bool} (hr : Runs P f avs [] res []) (hf : entersB P f = true) (k : SChain P ops rest (σ.put1 o.dst (res.up [] σ.ents.length)) rs ess bs σ') (hc : callV σ o = some (f, avs) := by kernel_rfl)
    (hd : avs.all AV.isD = true := by kernel_rfl) (hg : guardV ops σ o.guard = some true := by kernel_rfl) : SChain P ops (o :: rest) σ (res.up [] σ.ents.length :: rs) (σ.ents :: ess) (false :: bs) σ' := by
  obtain ⟨ns, h1, h2, h3⟩ := callV_ok hr hf hc hd
  exact .op o.dst h1 h2 (guardV_yes hg) rfl h3 k

theorem SChain.callc {P : Program} {ops : Array Oper} {o : Oper} {rest : List Oper} {σ σ' : St} {f : FuncId} {avs : List AV} {rs : List AV} {ess : List (List Ent)} {bs : List Bool} {e c : Bool} (hec : some e = some c) (hr : Runs P f avs [] (.d (.lit (.bool e))) []) (hf : entersB P f = true) (k : SChain P ops rest (σ.put1 o.dst (.d (.lit (.bool c)))) rs ess bs σ') (hc : callV σ o = some (f, avs) := by kernel_rfl)
    (hd : avs.all AV.isD = true := by kernel_rfl) (hg : guardV ops σ o.guard = some true := by kernel_rfl) : SChain P ops (o :: rest) σ (.d (.lit (.bool c)) :: rs) (σ.ents :: ess) (false :: bs) σ' := by
  have hr : Runs P f avs [] (.d (.lit (.bool c))) [] := by rw [← Option.some.inj hec]; exact hr
  exact SChain.call hr hf k hc hd hg

/-! Operations in the order of the text, what comes behind as a predicate. -/
/-- Behind the operations l, from σ, K holds. -/
structure LP (P : Program) (ops : Array Oper) (l : List Oper) (σ : St) (K : St → Prop) : Prop where
  run : ∀ (l2 : List Oper) (Q : Exit → Act → World → Prop) (C : Cx) (ok : Nat → Prop) (H : List Hd) (a : Act) (w : World), Holds C ok H σ a w →
    (∀ σ' ok' H' a' w', K σ' → Holds C ok' H' σ' a' w' → wpList P ops Q l2 a' w') → wpList P ops Q (l ++ l2) a w

section
variable {P : Program} {ops : Array Oper} {o : Oper} {rest l : List Oper} {σ : St} {K : St → Prop}

theorem LP.nil (h : K σ) : LP P ops [] σ K := ⟨fun _ _ _ _ _ _ _ hh hk => hk _ _ _ _ _ h hh⟩
theorem LP.step {x : AV} {E : List Ent} {bar : Bool} (hs : StepFact P ops σ x E bar o) (k : LP P ops rest (σ.put o.dst x E) K) : LP P ops (o :: rest) σ K := by
  refine ⟨fun l2 Q C ok H a w hh hk => ?_⟩
  show wpList P ops Q (o :: (rest ++ l2)) a w
  unfold wpList
  rcases hs.1 with ⟨ns, ho, hn, _, hg⟩ | ⟨rfl, rfl, hg⟩
  · rw [if_pos (wanted_yes hh hg)]
    refine .inl (Oper.wp_mono ?_ (ho C ok H a w Q hh.mem (fun n hn' => needs_mem hn n hn' ▸ hh.get n.1)))
    rintro a' w' ⟨v, ok', H', rfl, hgr, hnn, hm, hx⟩
    exact k.run l2 Q C _ _ _ _ (hh.put o.dst hgr hnn hm hx) hk
  · rw [if_neg (by rw [wanted_no hh hg]; simp)]
    exact k.run l2 Q C _ _ _ _ (hh.put o.dst (.refl _ _) (.refl _) hh.mem (.d _ _ (.lit _))) hk
theorem LP.conv (σ2 : St) (h : ∀ C ok H a w, Holds C ok H σ a w → ∃ ok', Holds C ok' H σ2 a w) (k : LP P ops l σ2 K) : LP P ops l σ K := ⟨fun l2 Q C ok H a w hh hk => by
  obtain ⟨ok', hh'⟩ := h C ok H a w hh
  exact k.run l2 Q C _ _ _ _ hh' hk⟩
theorem LP.auto (T : Kn P) : ∀ (n : Nat) {l : List Oper} {σ : St}, (autoGo T ops n l σ).isSome = true → LP P ops (l.drop n) (goSt (autoGo T ops n l σ)) K → LP P ops l σ K
  | 0, l, σ, _, k => by simpa [autoGo, goSt] using k
  | n + 1, l, σ, h, k => by
    unfold autoGo at h k
    split at h
    · rename_i o l'
      split at h
      · rename_i r hr
        split at h
        · rename_i σ2 rs h2
          simp only [hr, h2] at k
          refine .step (autoStep_ok T hr) (LP.auto T n (by rw [h2]; rfl) ?_)
          rw [h2]
          exact k
        · cases h
      · cases h
    · cases h
/-- n operations that compute themselves. -/
theorem LP.a [T : Kn P] (n : Nat) (k : LP P ops (l.drop n) (goSt (autoGo T ops n l σ)) K) (h : (autoGo T ops n l σ).isSome = true := by kernel_rfl) : LP P ops l σ K := LP.auto T n h k
theorem LP.p {ns : List (Operand × AV)} {x : AV} (h : OpOk P o ns σ.ents x σ.ents) (k : LP P ops rest (σ.put1 o.dst x) K) (hn : (ns.map fun n => σ.get n.1) = ns.map (·.2) := by kernel_rfl) (hg : guardV ops σ o.guard = some true := by kernel_rfl) (ht : (needTmps ns).all (tmpsOf o).contains = true := by kernel_rfl) : LP P ops (o :: rest) σ K :=
  .step (step_yes h (needs_of hn) (guardV_yes hg) ht) k
theorem LP.e {ns : List (Operand × AV)} {x : AV} {es' : List Ent} (E : List Ent) (h : OpOk P o ns σ.ents x es') (k : LP P ops rest (σ.put o.dst x E) K) (he : es' = E := by kernel_rfl) (hn : (ns.map fun n => σ.get n.1) = ns.map (·.2) := by kernel_rfl) (hg : guardV ops σ o.guard = some true := by kernel_rfl) (ht : (needTmps ns).all (tmpsOf o).contains = true := by kernel_rfl) : LP P ops (o :: rest) σ K :=
  .step (bar := true) ⟨.inl ⟨ns, he ▸ h, needs_of hn, ht, guardV_yes hg⟩, fun h => by cases h⟩ k
theorem LP.call {f : FuncId} {avs : List AV} {res : AV} (hr : Runs P f avs [] res []) (hf : entersB P f = true) (k : LP P ops rest (σ.put1 o.dst (res.up [] σ.ents.length)) K) (hc : callV σ o = some (f, avs) := by kernel_rfl)
    (hd : avs.all AV.isD = true := by kernel_rfl) (hg : guardV ops σ o.guard = some true := by kernel_rfl) : LP P ops (o :: rest) σ K := by
  obtain ⟨ns, h1, h2, h3⟩ := callV_ok hr hf hc hd
  exact .step (step_yes h1 h2 (guardV_yes hg) h3) k
/-- An operation that computes itself, its truth value told by a variable. -/
theorem LP.c [T : Kn P] {e c : Bool} (h : some e = some c) (k : LP P ops rest (σ.put1 o.dst (.d (.lit (.bool c)))) K) (hs : (autoStep T ops σ o).map (fun r => (r.x, r.E, r.bar)) = some (.d (.lit (.bool e)), σ.ents, false) := by kernel_rfl) : LP P ops (o :: rest) σ K := by
  rw [Option.map_eq_some_iff] at hs
  obtain ⟨r, hr, he⟩ := hs
  have h1 := autoStep_ok T hr
  simp only [Prod.mk.injEq] at he
  rw [he.1, he.2.1, he.2.2, Option.some.inj h] at h1
  exact .step h1 k
/-- A truth value told by a variable, the operation shown. -/
theorem LP.pc {ns : List (Operand × AV)} {e c : Bool} (hec : some e = some c) (h : OpOk P o ns σ.ents (.d (.lit (.bool e))) σ.ents) (k : LP P ops rest (σ.put1 o.dst (.d (.lit (.bool c)))) K) (hn : (ns.map fun n => σ.get n.1) = ns.map (·.2) := by kernel_rfl) (hg : guardV ops σ o.guard = some true := by kernel_rfl) (ht : (needTmps ns).all (tmpsOf o).contains = true := by kernel_rfl) : LP P ops (o :: rest) σ K :=
  .step (step_yes (h.cast (condAV hec)) (needs_of hn) (guardV_yes hg) ht) k
theorem LP.callc {f : FuncId} {avs : List AV} {e c : Bool} (hec : some e = some c) (hr : Runs P f avs [] (.d (.lit (.bool e))) []) (hf : entersB P f = true) (k : LP P ops rest (σ.put1 o.dst (.d (.lit (.bool c)))) K) (hc : callV σ o = some (f, avs) := by kernel_rfl)
    (hd : avs.all AV.isD = true := by kernel_rfl) (hg : guardV ops σ o.guard = some true := by kernel_rfl) : LP P ops (o :: rest) σ K := by
  obtain ⟨ns, h1, h2, h3⟩ := callV_ok hr hf hc hd
  have h1 : OpOk P o ns σ.ents (.d (.lit (.bool e))) σ.ents := h1
  exact .step (step_yes (h1.cast (condAV hec)) h2 (guardV_yes hg) h3) k

/-- Some slots forgotten. -/
def St.wipe (ds : List Nat) (σ : St) : St := ⟨ds.foldl (fun l d => l.set d .junk) σ.slots, σ.ents, σ.base⟩
theorem Holds.wipe {C : Cx} {ok : Nat → Prop} {H : List Hd} {a : Act} {w : World} : ∀ (ds : List Nat) {σ : St}, Holds C ok H σ a w → Holds C ok H (σ.wipe ds) a w
  | [], σ, h => h
  | d :: ds, σ, h => by
    refine Holds.wipe ds (σ := ⟨σ.slots.set d .junk, σ.ents, σ.base⟩) ⟨h.mem, by simpa using h.size, h.defers, h.base, fun t ht => ?_⟩
    simp only [List.length_set] at ht
    by_cases e : d = t
    · subst e
      have e1 : (σ.slots.set d .junk).getD d .junk = .junk := by simp [List.getD, ht]
      rw [e1]; exact .junk _
    · have e1 : (σ.slots.set d .junk).getD t .junk = σ.slots.getD t .junk := by simp [List.getD, List.getElem?_set_ne e]
      rw [e1]; exact h.slot t ht
theorem take_drop_append (n : Nat) (l l2 : List Oper) : l ++ l2 = l.take n ++ (l.drop n ++ l2) := by
  rw [← List.append_assoc, List.take_append_drop]
/-- Two ways meet. -/
theorem LP.join (n : Nat) (M : St → Prop) (h2 : ∀ s, M s → LP P ops (l.drop n) s K) (h1 : LP P ops (l.take n) σ M) : LP P ops l σ K := ⟨fun l2 Q C ok H a w hh hk => by
  rw [take_drop_append n l l2]
  exact h1.run _ Q C ok H a w hh fun σ' ok' H' a' w' hM hh' => (h2 σ' hM).run l2 Q C ok' H' a' w' hh' hk⟩
/-- The ways meet where slot d is x; the slots ds are forgotten. -/
theorem LP.merge (n : Nat) (ds : List Nat) (d : Nat) (x : AV) (h1 : LP P ops (l.take n) σ fun s => s.wipe ds = (σ.wipe ds).put1 (some d) x) (h2 : LP P ops (l.drop n) ((σ.wipe ds).put1 (some d) x) K) : LP P ops l σ K :=
  .join n _ (fun s hs => ⟨fun l2 Q C ok H a w hh hk => by
    have e : s.wipe ds = (σ.wipe ds).put1 (some d) x := hs
    have hw := hh.wipe ds
    rw [e] at hw
    exact h2.run l2 Q C ok H a w hw hk⟩) h1

theorem SP.rgn {id : Nat} {Q : Exit → St → Prop} (h : LP P ops ops.toList σ (Q .normal)) : SP P (.region id ops false) σ Q := ⟨fun C ok H a w hh => by
  refine wp_region_list ?_
  have := h.run [] (fun e a' w' => ∃ ok' H' σ', Holds C ok' H' σ' a' w' ∧ Q e σ') C ok H a w hh fun σ' ok' H' a' w' hq hh' => ⟨ok', H', σ', hh', hq⟩
  rwa [List.append_nil] at this⟩
theorem SP.rg {id : Nat} {y : Code} {Q : Exit → St → Prop} (h : LP P ops ops.toList σ fun s => SP P y s Q) : SP P (.seq (.region id ops false) y) σ Q :=
  SP.seq (fun s => SP P y s Q) (SP.rgn h) (fun _ h => h)
end

/-- Slots, told where they hold something. -/
def shp (n : Nat) (l : List (Nat × AV)) : List AV := (List.range n).map fun i => (look i l).getD .junk
/-- A mask. -/
def mk (n w : Nat) : List Bool := (List.range n).map fun i => Nat.testBit w i
theorem sub_of {σ S : St} (m : List Bool) (π : List (Nat × Bool)) (h1 : normOk σ.base σ.ents π = true := by kernel_rfl) (h2 : S = ⟨slotsNorm π m σ.slots, entsNorm σ.ents π, σ.base⟩ := by kernel_rfl) : Sub σ S := ⟨m, π, h1, h2⟩
end Go.Proofs.Ytdhhcmdofnjhiaa
