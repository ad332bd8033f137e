/- Typed data over abstract states: how integers, texts, lists are told; the partial operations as functions; results; lending; giving up. No program's code. No condition. -/
import Derived.Test.YtdhhcmdofnjhiaaAvK
namespace Go.Proofs.Ytdhhcmdofnjhiaa
open Go.RowKit

def eI (n : Int) : D := .lit (.int .i64 n)
def eU8 (n : Int) : D := .lit (.int .u8 n)
def eB (b : Bool) : D := .lit (.bool b)
def eS (s : ByteArray) : D := .lit (.string s)
def eL {α : Type} (e : α → D) (l : List α) : D := .sl (l.map e)
/-- The cells of a variable that holds a datum. -/
def dc (x : D) : List AV := x.cells.map .d

def gIdx {α : Type} (l : List α) (i : Int) : Option α := if 0 ≤ i then l[i.toNat]? else none
def gApp {α : Type} (bytes : Nat) (l m : List α) : Option (List α) := if (l.length + m.length) * bytes ≤ 140737488355328 then some (l ++ m) else none
def gByte (s : ByteArray) (i : Int) : Option Int := if 0 ≤ i then (s[i.toNat]?).map fun c => (c.toNat : Int) else none
def gSub {α : Type} (l : List α) (lo hi : Int) : Option (List α) := if 0 ≤ lo ∧ lo ≤ hi ∧ hi ≤ l.length then some ((l.drop lo.toNat).take (hi.toNat - lo.toNat)) else none
def gStr (s : ByteArray) (lo hi : Int) : Option ByteArray := if 0 ≤ lo ∧ lo ≤ hi ∧ hi ≤ s.size then some (s.extract lo.toNat hi.toNat) else none
def gQuo (a b : Int) : Option Int := if b = 0 then none else some (IntKind.i64.wrap (a.tdiv b))
def gRem (a b : Int) : Option Int := if b = 0 then none else some (a.tmod b)
def gCat (s t : ByteArray) : Option ByteArray := if s.size + t.size ≤ 9223372036854775807 then some (s ++ t) else none
def gSet {α : Type} (l : List α) (i : Int) (x : α) : Option (List α) := if 0 ≤ i ∧ i.toNat < l.length then some (l.set i.toNat x) else none
def gMake {α : Type} (bytes : Nat) (z : α) (n c : Int) : Option (List α) := if 0 ≤ n ∧ n ≤ c ∧ (bytes : Int) * c ≤ 140737488355328 then some (List.replicate n.toNat z) else none

theorem gIdx_some {α : Type} {l : List α} {i : Int} {x : α} (h : gIdx l i = some x) : 0 ≤ i ∧ l[i.toNat]? = some x := by
  unfold gIdx at h; split at h
  · exact ⟨‹_›, h⟩
  · cases h
theorem map_get {α β : Type} {l : List α} {i : Nat} {x : α} (f : α → β) (h : l[i]? = some x) : (l.map f)[i]? = some (f x) := by simp [h]
theorem of_bif_true {α : Type} {b : Bool} {x y z : α} (hb : b = true) (h : (bif b then x else y) = z) : x = z := by subst hb; exact h
theorem of_bif_false {α : Type} {b : Bool} {x y z : α} (hb : b = false) (h : (bif b then x else y) = z) : y = z := by subst hb; exact h
theorem of_bind {α β : Type} {x : Option α} {f : α → Option β} {z : β} (h : x.bind f = some z) : ∃ a, x = some a ∧ f a = some z := Option.bind_eq_some_iff.1 h

/-- A loop of at most n rounds: the body is told what goes on behind the round. -/
def loopN {V R : Type} (body : (V → Option R) → V → Option R) : Nat → V → Option R
  | 0, _ => none
  | n + 1, v => body (loopN body n) v
def fuel : Nat := 4611686018427387904

section
variable {P : Program} {o : Oper} {es : List Ent} {α : Type}

theorem ok_lenT {x : Operand} {t e : TypeId} (enc : α → D) (l : List α) (ht : P.underlying t = some (.slice e)) (ho : o.op = .call { callee := .builtin .len, args := #[x], argTypes := #[t] }) :
    OpOk P o [(x, .d (eL enc l))] es (.d (eI l.length)) es := by
  have := ok_len (es := es) (xs := l.map enc) ht ho
  rw [List.length_map] at this
  exact this
theorem ok_lenO {x : Operand} {t e e' : TypeId} {k s : Nat} (enc : α → D) (l : List α) (hk : es[k]? = some (.arr e' s (l.map enc))) (ht : P.underlying t = some (.slice e)) (ho : o.op = .call { callee := .builtin .len, args := #[x], argTypes := #[t] }) :
    OpOk P o [(x, .osl k)] es (.d (eI l.length)) es := by
  have := ok_len_own hk ht ho
  rw [List.length_map] at this
  exact this
theorem ok_lenS {x : Operand} {t : TypeId} (s : ByteArray) (ht : P.underlying t = some .string) (ho : o.op = .call { callee := .builtin .len, args := #[x], argTypes := #[t] }) :
    OpOk P o [(x, .d (eS s))] es (.d (eI s.size)) es := ok_len_str ht ho
theorem ok_idxT {x y : Operand} {t e : TypeId} {k : IntKind} {i : Int} {agg : Bool} {size : Nat} (enc : α → D) {l : List α} {a : α} (h : gIdx l i = some a) (ht : P.underlying t = some (.slice e)) (hT : Ty P e agg size) (hs : (enc a).cells.length = size) (ho : o.op = .indexAddr t x y) :
    OpOk P o [(x, .d (eL enc l)), (y, .d (.lit (.int k i)))] es (.d (.ref (enc a).cells 0)) es :=
  ok_index ht hT (gIdx_some h).1 (map_get enc (gIdx_some h).2) hs ho
theorem ok_idxO {x y : Operand} {t e e' : TypeId} {kd : IntKind} {i : Int} {k size : Nat} {agg : Bool} (enc : α → D) {l : List α} {a : α} (h : gIdx l i = some a) (hk : es[k]? = some (.arr e' size (l.map enc))) (ht : P.underlying t = some (.slice e)) (hT : Ty P e agg size) (ho : o.op = .indexAddr t x y) :
    OpOk P o [(x, .osl k), (y, .d (.lit (.int kd i)))] es (.eptr k i.toNat 0) es :=
  ok_index_own hk ht hT (gIdx_some h).1 (by have := (List.getElem?_eq_some_iff.1 (gIdx_some h).2).1; simpa using this) ho
theorem gByte_some {s : ByteArray} {i n : Int} (h : gByte s i = some n) : ∃ c, 0 ≤ i ∧ s[i.toNat]? = some c ∧ n = c.toNat := by
  unfold gByte at h; split at h
  · rename_i h0
    rw [Option.map_eq_some_iff] at h
    obtain ⟨c, h1, h2⟩ := h
    exact ⟨c, h0, h1, h2.symm⟩
  · cases h
theorem ok_byteT {x y : Operand} {t : TypeId} {k : IntKind} {i n : Int} {s : ByteArray} (h : gByte s i = some n) (ht : P.underlying t = some .string) (ho : o.op = .index t x y) :
    OpOk P o [(x, .d (eS s)), (y, .d (.lit (.int k i)))] es (.d (eU8 n)) es := by
  obtain ⟨c, h0, h1, rfl⟩ := gByte_some h
  exact ok_index_str ht h0 h1 ho

theorem gApp_some {b : Nat} {l m r : List α} (h : gApp b l m = some r) : r = l ++ m ∧ (l.length + m.length) * b ≤ 140737488355328 := by
  unfold gApp at h; split at h
  · exact ⟨(Option.some.inj h).symm, ‹_›⟩
  · cases h
theorem len_of_bytes {n b : Nat} (hb : 0 < b) (h : n * b ≤ 140737488355328) : n ≤ maxLen := by
  have : n * 1 ≤ n * b := Nat.mul_le_mul_left _ hb
  unfold maxLen; omega
theorem ok_appT {s x : Operand} {t e : TypeId} {size bytes k : Nat} (enc : α → D) {l m r : List α} (h : gApp bytes l m = some r) (hE : El P t e size bytes) (hk : es[k]? = some (.arr e size (l.map enc))) (hc : ∀ a, (enc a).cells.length = size) (hb : 0 < bytes)
    (ho : o.op = .call { callee := .builtin .append, args := #[s, x], argTypes := #[t, t] }) :
    OpOk P o [(s, .osl k), (x, .d (eL enc m))] es (.osl es.length) (es.set k .dead ++ [.arr e size (r.map enc)]) := by
  obtain ⟨rfl, h2⟩ := gApp_some h
  have := ok_append (ys := m.map enc) hE hk (fun y hy => by obtain ⟨a, _, rfl⟩ := List.mem_map.1 hy; exact hc a) (by simpa using h2) (by simpa using len_of_bytes hb h2) ho
  rw [← List.map_append] at this
  exact this
theorem ok_appO {s x : Operand} {t e : TypeId} {size bytes k j : Nat} (enc : α → D) {l m r : List α} (h : gApp bytes l m = some r) (hE : El P t e size bytes) (hk : es[k]? = some (.arr e size (l.map enc))) (hj : es[j]? = some (.arr e size (m.map enc))) (hb : 0 < bytes)
    (ho : o.op = .call { callee := .builtin .append, args := #[s, x], argTypes := #[t, t] }) :
    OpOk P o [(s, .osl k), (x, .osl j)] es (.osl es.length) (es.set k .dead ++ [.arr e size (r.map enc)]) := by
  obtain ⟨rfl, h2⟩ := gApp_some h
  have := ok_append_own hE hk hj (by simpa using h2) (by simpa using len_of_bytes hb h2) ho
  rw [← List.map_append] at this
  exact this

/-- A part of a text. -/
theorem gStr_some {s r : ByteArray} {lo hi : Int} (h : gStr s lo hi = some r) : (0 ≤ lo ∧ lo ≤ hi ∧ hi ≤ s.size) ∧ r = s.extract lo.toNat hi.toNat := by
  unfold gStr at h; split at h
  · exact ⟨‹_›, (Option.some.inj h).symm⟩
  · cases h
/-- An optional bound. -/
def bndNeeds (x : Option Operand) (n : Int) : List (Operand × AV) := match x with | some y => [(y, .d (eI n))] | none => []

theorem ok_strT {t : TypeId} {x : Operand} {lo hi : Option Operand} {l h : Int} {s r : ByteArray} (hr : gStr s l h = some r) (hl : lo = none → l = 0) (hh : hi = none → h = s.size) (ht : P.underlying t = some .string) (ho : o.op = .slice t x lo hi none) :
    OpOk P o ((x, .d (eS s)) :: (bndNeeds lo l ++ bndNeeds hi h)) es (.d (eS r)) es :=
  .pure fun ok H a w _ _ hn => by
    obtain ⟨⟨h0, h1, h2⟩, rfl⟩ := gStr_some hr
    have hx := (hn (x, .d (eS s)) (by simp)).lit
    simp only at hx
    have hu : (underlying t).run P w = .ok .string w := by simp [underlying, ht]
    refine ⟨.string (s.extract l.toNat h.toNat), ?_, .d _ _ (.lit _)⟩
    have hlo : ∀ y, lo = some y → a.eval y = .int .i64 l := fun y e => (hn (y, .d (eI l)) (by simp [bndNeeds, e])).lit
    have hhi : ∀ y, hi = some y → a.eval y = .int .i64 h := fun y e => (hn (y, .d (eI h)) (by simp [bndNeeds, e])).lit
    have e1 : ((0 : Int) ≤ h ∧ h ≤ (s.size : Int)) := ⟨by omega, h2⟩
    have e2 : ((0 : Int) ≤ l ∧ l ≤ (h.toNat : Int)) := ⟨h0, by omega⟩
    cases lo with
    | none =>
      have hl0 := hl rfl
      subst hl0
      cases hi with
      | none =>
        have hh0 := hh rfl
        subst hh0
        simp [execOp, ho, hx, Instr.sliceAt, Instr.slice, hu, Instr.sliceBounds]
      | some y =>
        simp [execOp, ho, hx, Instr.sliceAt, Instr.slice, hu, Instr.sliceBounds, Instr.sliceBound, hhi y rfl, asIntOf, e1]
    | some z =>
      cases hi with
      | none =>
        have hh0 := hh rfl
        subst hh0
        have e2' : ((0 : Int) ≤ l ∧ l ≤ (s.size : Int)) := ⟨h0, by omega⟩
        simp [execOp, ho, hx, Instr.sliceAt, Instr.slice, hu, Instr.sliceBounds, Instr.sliceBound, hlo z rfl, asIntOf, e2']
      | some y =>
        simp [execOp, ho, hx, Instr.sliceAt, Instr.slice, hu, Instr.sliceBounds, Instr.sliceBound, hlo z rfl, hhi y rfl, asIntOf, e1]
        intro hc
        have := hc h0
        omega

/-- A part of a row that is read. -/
theorem gSub_some {l r : List α} {lo hi : Int} (h : gSub l lo hi = some r) : (0 ≤ lo ∧ lo ≤ hi ∧ hi ≤ l.length) ∧ r = (l.drop lo.toNat).take (hi.toNat - lo.toNat) := by
  unfold gSub at h; split at h
  · exact ⟨‹_›, (Option.some.inj h).symm⟩
  · cases h

theorem rd_sub {ok : Nat → Prop} {w : World} {xs : List D} {ad : Option Addr} {cap size l h : Nat} (hr : RD ok w (.sl xs) (.slice ad xs.length cap)) (hs : ∀ x ∈ xs, x.cells.length = size) (h1 : l ≤ h) (h2 : h ≤ xs.length) :
    RD ok w (.sl ((xs.drop l).take (h - l))) (.slice (if cap = l then ad else ad.map (·.add (l * size))) (h - l) (cap - l)) := by
  have hlen : ((xs.drop l).take (h - l)).length = h - l := by simp; omega
  by_cases hz : h - l = 0
  · have : (xs.drop l).take (h - l) = [] := by rw [hz]; rfl
    rw [this, hz]
    exact .sl0 _ _
  · have hxs : 0 < xs.length := by omega
    generalize hn : xs.length = n at hr
    cases hr with
    | sl0 => simp at hxs
    | sl _ b off _ size' hcap hok hs' hf hx hc =>
      have hsz : size' = size := by
        rw [← hs' 0 hxs]
        exact hs _ (by simp [List.getD, hxs])
      subst hsz
      have hne : cap ≠ l := by omega
      rw [if_neg hne]
      simp only [Option.map_some, addr_add]
      have hg : ∀ i, i < h - l → ((xs.drop l).take (h - l)).getD i dz = xs.getD (l + i) dz := by
        intro i hi; simp [List.getD, List.getElem?_take_of_lt hi, List.getElem?_drop]
      have hoff : ∀ i j, off + l * size' + (i * size' + j) = off + ((l + i) * size' + j) := by
        intro i j; rw [Nat.add_mul]; omega
      have := RD.sl ((xs.drop l).take (h - l)) b (off + l * size') (cap - l) size' (ok := ok) (w := w) (by rw [hlen]; omega) hok (fun i hi => by rw [hlen] at hi; rw [hg i hi]; exact hs' _ (by omega))
        (fun i hi j hj => by rw [hlen] at hi; rw [hg i hi]; exact hf _ (by omega) j hj) (fun i hi j hj => by rw [hlen] at hi; rw [hoff]; exact hx _ (by omega) j hj)
        (fun i hi j hj => by rw [hlen] at hi; rw [hg i hi, hoff]; exact hc _ (by omega) j hj)
      rw [hlen] at this
      exact this

theorem ok_subT {t e : TypeId} {agg : Bool} {size : Nat} {x : Operand} {lo hi : Option Operand} {l h : Int} (enc : α → D) {xs r : List α} (hr : gSub xs l h = some r) (hl : lo = none → l = 0) (hh : hi = none → h = xs.length) (ht : P.underlying t = some (.slice e)) (hT : Ty P e agg size)
    (hc : ∀ a, (enc a).cells.length = size) (ho : o.op = .slice t x lo hi none) : OpOk P o ((x, .d (eL enc xs)) :: (bndNeeds lo l ++ bndNeeds hi h)) es (.d (eL enc r)) es :=
  .pure fun ok H a w _ _ hn => by
    obtain ⟨⟨h0, h1, h2⟩, rfl⟩ := gSub_some hr
    have hx := hn (x, .d (eL enc xs)) (by simp)
    simp only at hx
    generalize hv : a.eval x = v at hx
    have hu : (underlying t).run P w = .ok (.slice e) w := by simp [underlying, ht]
    have hlo : ∀ y, lo = some y → a.eval y = .int .i64 l := fun y e => (hn (y, .d (eI l)) (by simp [bndNeeds, e])).lit
    have hhi : ∀ y, hi = some y → a.eval y = .int .i64 h := fun y e => (hn (y, .d (eI h)) (by simp [bndNeeds, e])).lit
    have hrd : RD ok w (.sl (xs.map enc)) v := by cases hx with | d _ _ h => exact h
    have hform : ∃ ad cap, v = .slice ad (xs.map enc).length cap ∧ (xs.map enc).length ≤ cap := by
      generalize hys : xs.map enc = ys at hrd
      cases hrd with
      | sl0 ad cap => exact ⟨ad, cap, rfl, Nat.zero_le _⟩
      | sl _ b off cap size hcap => exact ⟨_, cap, rfl, hcap⟩
    obtain ⟨ad, cap, rfl, hcap⟩ := hform
    have hsub := rd_sub (l := l.toNat) (h := h.toNat) hrd (size := size) (fun y hy => by obtain ⟨b, _, rfl⟩ := List.mem_map.1 hy; exact hc b) (by omega) (by simp; omega)
    rw [← List.map_drop, ← List.map_take] at hsub
    rw [List.length_map] at hcap
    refine ⟨_, ?_, .d _ _ hsub⟩
    have e1 : ((0 : Int) ≤ h ∧ h ≤ (cap : Int)) := ⟨by omega, by omega⟩
    cases lo with
    | none =>
      have hl0 := hl rfl
      subst hl0
      cases hi with
      | none =>
        have hh0 := hh rfl
        subst hh0
        simp [execOp, ho, hv, Instr.sliceAt, Instr.slice, hu, Instr.sliceBounds, hT.size]
      | some y =>
        simp [execOp, ho, hv, Instr.sliceAt, Instr.slice, hu, Instr.sliceBounds, Instr.sliceBound, hhi y rfl, asIntOf, e1, hT.size]
    | some z =>
      cases hi with
      | none =>
        have hh0 := hh rfl
        subst hh0
        have e2' : ((0 : Int) ≤ l ∧ l ≤ (xs.length : Int)) := ⟨h0, by omega⟩
        simp [execOp, ho, hv, Instr.sliceAt, Instr.slice, hu, Instr.sliceBounds, Instr.sliceBound, hlo z rfl, asIntOf, e2', hT.size]
      | some y =>
        simp [execOp, ho, hv, Instr.sliceAt, Instr.slice, hu, Instr.sliceBounds, Instr.sliceBound, hlo z rfl, hhi y rfl, asIntOf, e1, hT.size]
        intro hc'
        have := hc' h0
        omega

/-- A field of a struct's value. -/
def partB (P : Program) (t : TypeId) (f off : Nat) (agg : Bool) (n : Nat) : Bool :=
  match P.underlying t with
  | some (.struct fs) => match fs[f]? with
    | some fd => decide (fd.offset = off) && tyB P fd.type agg n
    | none => false
  | _ => false
theorem ok_fieldV {x : Operand} {t : TypeId} {f off n : Nat} {agg : Bool} {cs : List D} (hp : partB P t f off agg n = true) (hn : off + n ≤ cs.length) (h1 : agg = false → n = 1) (ho : o.op = .field t x f) : OpOk P o [(x, .d (.agg cs))] es (.d (cellsVar agg cs off n)) es :=
  .pure fun ok H a w _ _ hn' => by
    have hx := mem1 hn'
    simp only at hx
    generalize hv : a.eval x = v at hx
    unfold partB at hp
    split at hp
    · rename_i fs hu
      split at hp
      · rename_i fd hf
        simp only [Bool.and_eq_true, decide_eq_true_eq] at hp
        obtain ⟨rfl, hT⟩ := hp
        have hT := ty_of hT
        have hu' : (underlying t).run P w = .ok (.struct fs) w := by simp [underlying, hu]
        cases hx with
        | d _ _ h =>
          cases h with
          | agg _ vs hl hf' hc =>
            cases agg with
            | false =>
              have := h1 rfl
              subst this
              have hlt : fd.offset < vs.size := by omega
              refine ⟨vs[fd.offset], ?_, ?_⟩
              · simp [execOp, ho, hv, Instr.field, hu', hf, asAgg, part, hT.agg, hlt]
              · have := hc fd.offset (by omega)
                simp [Array.getD, hlt] at this
                exact .d _ _ this
            | true =>
              refine ⟨.agg (vs.extract fd.offset (fd.offset + n)), ?_, ?_⟩
              · simp [execOp, ho, hv, Instr.field, hu', hf, asAgg, part, hT.agg, hT.size]
              · simp only [cellsVar, if_true]
                have hlen : ((cs.drop fd.offset).take n).length = n := by simp; omega
                have hg : ∀ i, i < n → ((cs.drop fd.offset).take n).getD i dz = cs.getD (fd.offset + i) dz := by
                  intro i hi; simp [List.getD, List.getElem?_take_of_lt hi, List.getElem?_drop]
                refine .d _ _ (.agg _ _ (by rw [hlen]; simp; omega) ?_ ?_) <;> intro i hi <;> rw [hlen] at hi <;> rw [hg i hi]
                · exact hf' _ (by omega)
                · have := hc (fd.offset + i) (by omega)
                  have e : (vs.extract fd.offset (fd.offset + n)).getD i undef = vs.getD (fd.offset + i) undef := by
                    have h3 : fd.offset + i < vs.size := by omega
                    have h4 : i < (vs.extract fd.offset (fd.offset + n)).size := by simp; omega
                    have h5 : i < min (fd.offset + n) vs.size - fd.offset := by omega
                    simp [Array.getD, h3, h5]
                  rw [e]; exact this
      · cases hp
    · cases hp

/-- Concatenation. -/
theorem gCat_some {s t r : ByteArray} (h : gCat s t = some r) : s.size + t.size ≤ 9223372036854775807 ∧ r = s ++ t := by
  unfold gCat at h; split at h
  · exact ⟨‹_›, (Option.some.inj h).symm⟩
  · cases h
theorem ok_cat {t t' : TypeId} {x y : Operand} {u v r : ByteArray} (h : gCat u v = some r) (ho : o.op = .binOp .add t x y t') : OpOk P o [(x, .d (eS u)), (y, .d (eS v))] es (.d (eS r)) es := by
  obtain ⟨h1, rfl⟩ := gCat_some h
  refine ok_bin (u := .string u) (v := .string v) (r := .string (u ++ v)) ho (fun w => ?_) ⟨rfl, rfl⟩
  have : ¬ (((u.size + v.size : Nat) : Int) > IntKind.i64.max) := by
    have e : IntKind.i64.max = 9223372036854775807 := rfl
    rw [e]; omega
  simp only [binOp, Op.stringOp, this, if_false, Sem.run_pure]
theorem ok_quo {t t' : TypeId} {x y : Operand} {u v r : Int} (h : gQuo u v = some r) (ho : o.op = .binOp .quo t x y t') : OpOk P o [(x, .d (eI u)), (y, .d (eI v))] es (.d (eI r)) es := by
  unfold gQuo at h
  split at h
  · cases h
  · rename_i hv
    obtain rfl := Option.some.inj h
    refine ok_bin (u := .int .i64 u) (v := .int .i64 v) (r := .int .i64 (IntKind.i64.wrap (u.tdiv v))) ho (fun w => ?_) ⟨rfl, rfl⟩
    simp [binOp, Op.intDiv, hv]
theorem ok_rem {t t' : TypeId} {x y : Operand} {u v r : Int} (h : gRem u v = some r) (ho : o.op = .binOp .rem t x y t') : OpOk P o [(x, .d (eI u)), (y, .d (eI v))] es (.d (eI r)) es := by
  unfold gRem at h
  split at h
  · cases h
  · rename_i hv
    obtain rfl := Option.some.inj h
    refine ok_bin (u := .int .i64 u) (v := .int .i64 v) (r := .int .i64 (u.tmod v)) ho (fun w => ?_) ⟨rfl, rfl⟩
    simp [binOp, Op.intDiv, hv]

/-- Lent rows: the callee only reads them, and gives back plain values. -/
def AV.flat : AV → Bool
  | .d (.lit _) => true
  | .tup xs => xs.all fun x => match x with | .d (.lit _) => true | _ => false
  | _ => false
/-- An argument, as the caller has it, as the callee reads it. -/
def lendOk (es : List Ent) : AV → AV → Prop
  | .d x, y => y = .d x
  | .osl k, y => ∃ e s xs, es[k]? = some (.arr e s xs) ∧ y = .d (.sl xs)
  | _, _ => False
def lendsOk (es : List Ent) : List AV → List AV → Prop
  | x :: xs, y :: ys => lendOk es x y ∧ lendsOk es xs ys
  | [], [] => True
  | _, _ => False

theorem lend_len : ∀ {xs ys : List AV}, lendsOk es xs ys → xs.length = ys.length
  | [], [], _ => rfl
  | _ :: xs, _ :: ys, h => by simp [lend_len h.2]
  | [], _ :: _, h => h.elim
  | _ :: _, [], h => h.elim
theorem lend_get {ops : List Operand} : ∀ {xs ys : List AV}, ops.length = xs.length → lendsOk es xs ys → ∀ i, i < ys.length → ∃ o x, ops[i]? = some o ∧ (o, x) ∈ argNeeds ops xs ∧ lendOk es x (ys.getD i .junk) := by
  induction ops with
  | nil =>
    intro xs ys hl h i hi
    cases xs with
    | nil => cases ys with | nil => simp at hi | cons _ _ => exact h.elim
    | cons _ _ => simp at hl
  | cons o ops ih =>
    intro xs ys hl h i hi
    cases xs with
    | nil => simp at hl
    | cons x xs =>
      cases ys with
      | nil => exact h.elim
      | cons y ys =>
        cases i with
        | zero => exact ⟨o, x, rfl, by simp [argNeeds], h.1⟩
        | succ i =>
          obtain ⟨o', x', h1, h2, h3⟩ := ih (by simpa using hl) h.2 i (by simpa using hi)
          exact ⟨o', x', by simpa using h1, by simp [argNeeds, h2], by simpa using h3⟩

theorem own_reads {ok ok' : Nat → Prop} {w : World} {H : List Hd} {h : Hd} {e s : Nat} {xs : List D} (he : EntOk ok w H h (.arr e s xs)) (hsub : ∀ b, ok b → ok' b) (hb : ∀ b, blkOf h.v = some b → ok' b) : RD ok' w (.sl xs) h.v := by
  obtain ⟨h1, h2, ys, ⟨h3, h4⟩, h5⟩ := he
  rcases h4 with ⟨h6, h7⟩ | ⟨g, cap, cur, h6, h7, h8, h9, h10, h11, h12⟩
  · rw [List.eq_nil_of_length_eq_zero h7, h6]; exact .sl0 none 0
  · rw [h6]
    have hokg := hb g (by rw [h6]; rfl)
    have hfl := flat_len h2
    have hk : ∀ i j, i < xs.length → j < s → i * s + j < xs.length * s := by
      intro i j hi hj
      calc i * s + j < i * s + s := by omega
        _ = (i + 1) * s := by rw [Nat.succ_mul]
        _ ≤ xs.length * s := Nat.mul_le_mul_right _ hi
    have hcur : xs.length * s ≤ cur.size := by rw [h11]; exact Nat.mul_le_mul_right _ h9
    have hc : ∀ i j, i < xs.length → j < s → w.cell? ⟨g, 0 + (i * s + j), none⟩ = some (ys.getD (i * s + j) undef) := by
      intro i j hi hj
      have h13 := hk i j hi hj
      rw [Nat.zero_add]
      have e1 : ys.getD (i * s + j) undef = cur[i * s + j]'(by omega) := by
        rw [← h12]
        simp [List.getD, List.getElem?_take_of_lt h13, show i * s + j < cur.size by omega]
      rw [e1]
      simp [World.cell?, h8, show i * s + j < cur.size by omega]
    have hg : ∀ i, i < xs.length → xs.getD i dz ∈ xs := fun i hi => by simp [List.getD, hi]
    refine .sl xs g 0 cap s h9 hokg (fun i hi => h2 _ (hg i hi)) (fun i hi j hj => ?_) (fun i hi j hj => ?_) (fun i hi j hj => ?_)
    · have := (h5.2 (i * s + j) (by rw [hfl]; exact hk i j hi hj)).1
      rw [flat_get h2 i j hi hj] at this
      exact this
    · rw [hc i j hi hj]; rfl
    · have := (h5.2 (i * s + j) (by rw [hfl]; exact hk i j hi hj)).2
      rw [flat_get h2 i j hi hj] at this
      unfold cellAt
      rw [hc i j hi hj]
      cases this with | d _ _ h => exact h.mono (fun b hb => ⟨hsub b hb, rfl⟩)

theorem ok_lend {f : FuncId} {ops : Array Operand} {ats : Array TypeId} {avs avs' : List AV} {res : AV} (hr : Runs P f avs' [] res []) (hf : entersB P f = true) (hfl : res.flat = true) (ha : lendsOk es avs avs') (hl : ops.toList.length = avs.length)
    (ho : o.op = .call { callee := .value (.func f), args := ops, argTypes := ats }) : OpOk P o (argNeeds ops.toList avs) es res es := by
  intro C ok H a w Q hm hn
  unfold Oper.wp
  rw [execOp_func ho, enters_of_b hf, Oper.upon_enter]
  have e : ops.map a.eval = (ops.toList.map a.eval).toArray := by apply Array.ext'; simp
  rw [e]
  -- all that is there may be read for good
  let okA : Nat → Prop := fun b => b < w.heap.size
  have hmc : Mem ⟨w, okA, [], []⟩ okA [] [] w :=
    ⟨.refl _ _, fun _ h => h, fun _ h => .inl h, fun _ h => h, .refl _, rfl, fun k e h he _ => by simp at he, fun k e h b he => by simp at he, fun k k' e e' h h' b he => by simp at he⟩
  refine (hr okA [] [] w _ hmc (by simp [hl, lend_len ha]) (fun i hi => ?_)).mono ?_
  · obtain ⟨op, x, ho', hmem, harg⟩ := lend_get hl ha i hi
    have hR := hn _ hmem
    have e : (ops.toList.map a.eval).toArray.getD i undef = a.eval op := by
      obtain ⟨h1, h2⟩ := List.getElem?_eq_some_iff.1 ho'
      have h3 : i < ops.size := by simpa using h1
      have h4 : ops[i] = op := by simpa using h2
      simp [Array.getD, h3, h4]
    rw [e]
    simp only at hR
    generalize avs'.getD i .junk = y at harg
    generalize a.eval op = u at hR
    cases x with
    | d x =>
      obtain rfl := harg
      cases hR with | d _ _ h => exact .d _ _ (h.mono (fun b hb => ⟨hm.okLt b hb, rfl⟩))
    | osl k =>
      obtain ⟨e', s, xs, hk, rfl⟩ := harg
      obtain ⟨h, hh, hok⟩ := ent_at hm.ent hm.hlen hk
      obtain rfl := R_own_val hR hh
      exact .d _ _ (own_reads hok (fun b hb => hm.okLt b hb) (fun b hb => (hm.blk k _ h b hk rfl hh hb).2.1))
    | _ => exact harg.elim
  · rintro e w' ⟨v, ok', H', rfl, hm', hR⟩
    have hblk : ∀ b, b < w.heap.size → ¬ False → w'.heap[b]? = w.heap[b]? := fun b hb _ => hm'.fr.block b hb (by simp)
    obtain ⟨h1, h2⟩ := hm.change (ok' := ok) (H' := H) (es' := es) (w' := w') (fun _ => False) hm'.fr.os hm'.fr.tape hm'.fr.output hm'.fr.size hblk (fun _ h => h.elim) (fun _ h => h) (fun _ h => .inl h) (.refl _) hm.hlen (fun k e h he hh => .inl ⟨he, hh, fun _ _ _ h => h⟩)
    refine ⟨v, ok, H, rfl, h2, .refl _, h1, ?_⟩
    cases hR with
    | d x v h =>
      cases x with
      | lit u => cases h; exact .d _ _ (.lit _)
      | _ => simp [AV.flat] at hfl
    | tup xs vs hl' h =>
      refine .tup xs vs hl' (fun i hi => ?_)
      simp only [AV.flat, List.all_eq_true] at hfl
      have h3 := hfl (xs.getD i .junk) (by simp [List.getD, hi])
      have h4 := h i hi
      generalize xs.getD i .junk = x at h3 h4
      generalize vs.getD i undef = u at h4
      cases h4 with
      | d y _ h5 =>
        cases y with
        | lit u => cases h5; exact .d _ _ (.lit _)
        | _ => simp at h3
      | _ => simp at h3
    | _ => simp [AV.flat] at hfl
end

/-- An own row is given up: it will be read alone. -/
def AV.thaw (k : Nat) (xs : List D) : AV → AV
  | .osl j => if j = k then .d (.sl xs) else .osl j
  | .eptr j i off => if j = k then .junk else .eptr j i off
  | x => x
def St.thaw (σ : St) (k : Nat) (xs : List D) : St := ⟨σ.slots.map (AV.thaw k xs), σ.ents.set k .dead, σ.base⟩

theorem thaw_holds {σ : St} (k : Nat) {e s : Nat} {xs : List D} (hk : σ.ents[k]? = some (.arr e s xs)) : ∀ C ok H a w, Holds C ok H σ a w → ∃ ok', Holds C ok' H (σ.thaw k xs) a w := by
  intro C ok H a w hh
  obtain ⟨hd, hhd, hok⟩ := ent_at hh.mem.ent hh.mem.hlen hk
  have hkl : k < σ.ents.length := (List.getElem?_eq_some_iff.1 hk).1
  let ok' : Nat → Prop := fun b => ok b ∨ blkOf hd.v = some b
  have hblk := fun b hb => hh.mem.blk k _ hd b hk rfl hhd hb
  have hg : Grow ok w ok' w := fun b hb => ⟨.inl hb, rfl⟩
  refine ⟨ok', ⟨hh.mem.fr, fun b hb => .inl (hh.mem.okSub b hb), ?_, ?_, hh.mem.names, by simp [St.thaw, hh.mem.hlen], ?_, ?_, ?_⟩, by simp [St.thaw, hh.size], hh.defers, hh.base, ?_⟩
  · rintro b (hb | hb)
    · exact hh.mem.okSup b hb
    · exact .inr (hblk b hb).2.2
  · rintro b (hb | hb)
    · exact hh.mem.okLt b hb
    · exact (hblk b hb).2.1
  · intro j e' h' he hh'
    rcases set_get hkl he with ⟨rfl, rfl⟩ | ⟨_, he'⟩
    · trivial
    · exact (hh.mem.ent j e' h' he' hh').mono hg (.refl _) (fun _ _ _ => rfl)
  · intro j e' h' b he hl hh' hb
    rcases set_get hkl he with ⟨rfl, rfl⟩ | ⟨hne, he'⟩
    · cases hl
    · have h3 := hh.mem.blk j e' h' b he' hl hh' hb
      refine ⟨fun hb' => ?_, h3.2⟩
      rcases hb' with hb' | hb'
      · exact h3.1 hb'
      · exact hne (hh.mem.dis j k e' _ h' hd b he' hk hl rfl hh' hhd hb hb')
  · intro i j e1 e2 h1 h2 b he1 he2 hl1 hl2 hh1 hh2 hb1 hb2
    rcases set_get hkl he1 with ⟨rfl, rfl⟩ | ⟨_, he1'⟩
    · cases hl1
    · rcases set_get hkl he2 with ⟨rfl, rfl⟩ | ⟨_, he2'⟩
      · cases hl2
      · exact hh.mem.dis i j e1 e2 h1 h2 b he1' he2' hl1 hl2 hh1 hh2 hb1 hb2
  · intro t ht
    simp only [St.thaw, List.length_map] at ht
    have e1 : (σ.thaw k xs).slots.getD t .junk = (σ.slots.getD t .junk).thaw k xs := by
      simp only [St.thaw]; exact getD_map_junk _ _ _ ht
    rw [e1]
    have hR := (hh.slot t ht).mono hg (Names.refl H)
    generalize σ.slots.getD t .junk = x at hR ⊢
    generalize a.tmps.getD t undef = v at hR ⊢
    cases x with
    | osl j =>
      simp only [AV.thaw]
      split
      · rename_i hj
        subst hj
        obtain rfl := R_own_val hR hhd
        exact .d _ _ (own_reads hok (fun b hb => .inl hb) (fun b hb => .inr hb))
      · exact hR
    | eptr j i off =>
      simp only [AV.thaw]
      split
      · exact .junk _
      · exact hR
    | _ => exact hR
theorem SP.thaw {P : Program} {c : Code} {σ : St} {Q : Exit → St → Prop} (k : Nat) {e s : Nat} {xs : List D} (hk : σ.ents[k]? = some (.arr e s xs)) (h : SP P c (σ.thaw k xs) Q) : SP P c σ Q := by
  refine ⟨fun C ok H a w hh => ?_⟩
  obtain ⟨ok', hh'⟩ := thaw_holds k hk C ok H a w hh
  exact h.run C ok' H a w hh'

/-- A new own row that is only read from now on. -/
theorem Runs.view {P : Program} {f : FuncId} {args : List AV} {e s : Nat} {xs : List D} (h : Runs P f args [] (.osl 0) [.arr e s xs]) : Runs P f args [] (.d (.sl xs)) [] := by
  intro ok X H w vals hm hs ha
  refine (h ok X H w vals hm hs ha).mono ?_
  rintro e' w' ⟨v, ok', H', rfl, hm', hR⟩
  have hH : H = [] := List.eq_nil_of_length_eq_zero hm.hlen
  have hl : H'.length = 1 := hm'.hlen
  match H', hl with
  | [hd], _ =>
    obtain rfl := R_own_val hR (h := hd) rfl
    have hok := hm'.ent 0 _ hd rfl rfl
    have hb := fun b hb => hm'.blk 0 _ hd b rfl rfl rfl hb
    let okB : Nat → Prop := fun b => ok' b ∨ blkOf hd.v = some b
    refine ⟨hd.v, okB, [], rfl, ⟨hm'.fr, fun b h => .inl (hm'.okSub b h), ?_, ?_, by intro k v hv; subst hH; simp at hv, rfl, fun k e h he => by simp at he, fun k e h b he => by simp at he, fun k k' e e' h h' b he => by simp at he⟩, .d _ _ (own_reads hok (fun b h => .inl h) (fun b h => .inr h))⟩
    · rintro b (h | h)
      · exact hm'.okSup b h
      · exact .inr (hb b h).2.2
    · rintro b (h | h)
      · exact hm'.okLt b h
      · exact (hb b h).2.1

theorem entsUp_nil (es E' : List Ent) : entsUp [] es E' = es ++ E' := by
  unfold entsUp
  simp only [List.findIdx?_nil, List.length_nil, List.drop_zero]
  congr 1
  apply List.ext_getElem?
  intro i
  simp only [List.getElem?_map, List.getElem?_zipIdx]
  cases es[i]? <;> rfl

/-- A call that hands nothing over. -/
theorem ok_callD {P : Program} {o : Oper} {es : List Ent} {f : FuncId} {ops : Array Operand} {ats : Array TypeId} {avs avs' : List AV} {res res' : AV} {E' : List Ent} (hr : Runs P f avs' [] res E') (hf : entersB P f = true) (hc : E'.all Ent.closed = true)
    (ha : argsOk [] avs avs') (hl : ops.toList.length = avs.length) (hu : res.up [] es.length = res') (ho : o.op = .call { callee := .value (.func f), args := ops, argTypes := ats }) : OpOk P o (argNeeds ops.toList avs) es res' (es ++ E') := by
  have := ok_call (es := es) [] hr hf (by simp [srcsB, hc]) (fun i s h => by simp at h) ha hl ho
  rw [entsUp_nil, hu] at this
  exact this
theorem ok_callV {P : Program} {o : Oper} {es : List Ent} {f : FuncId} {ops : Array Operand} {ats : Array TypeId} {avs avs' : List AV} {res res' : AV} (hr : Runs P f avs' [] res []) (hf : entersB P f = true)
    (ha : argsOk [] avs avs') (hl : ops.toList.length = avs.length) (hu : res.up [] es.length = res') (ho : o.op = .call { callee := .value (.func f), args := ops, argTypes := ats }) : OpOk P o (argNeeds ops.toList avs) es res' es := by
  have := ok_callD (es := es) hr hf rfl ha hl hu ho
  rw [List.append_nil] at this
  exact this
end Go.Proofs.Ytdhhcmdofnjhiaa
