/- The operations, each shown once over abstract states: those that turn nothing. No program's code. No condition. -/
import Derived.Test.YtdhhcmdofnjhiaaAvC
namespace Go.Proofs.Ytdhhcmdofnjhiaa
open Go.RowKit

theorem R.lit {ok : Nat → Prop} {w : World} {H : List Hd} {u v : Value} (h : R ok w H (.d (.lit u)) v) : v = u := by
  cases h with | d _ _ h => cases h; rfl

/-- What is asked of a type: its size in cells, whether it is an aggregate. -/
structure Ty (P : Program) (t : TypeId) (agg : Bool) (size : Nat) : Prop where
  agg : ∀ w, (isAgg t).run P w = .ok agg w
  size : ∀ w, (sizeOf t).run P w = .ok size w

def tyB (P : Program) (t : TypeId) (agg : Bool) (size : Nat) : Bool :=
  (match P.underlying t with | some (.struct _) | some (.array _ _) => agg | some _ => !agg | none => false) && (match P.info? t with | some i => decide (i.size = size) | none => false)
theorem ty_of {P : Program} {t : TypeId} {agg : Bool} {size : Nat} (h : tyB P t agg size = true) : Ty P t agg size := by
  unfold tyB at h
  simp only [Bool.and_eq_true] at h
  refine ⟨fun w => ?_, fun w => ?_⟩
  · have h1 := h.1
    cases hu : P.underlying t with
    | none => rw [hu] at h1; cases h1
    | some d =>
      rw [hu] at h1
      have e : (underlying t).run P w = .ok d w := by simp [underlying, hu]
      simp only [isAgg, Sem.run_bind, e, Result.andThen_ok]
      cases d <;> cases agg <;> simp_all
  · have h2 := h.2
    cases hi : P.info? t with
    | none => rw [hi] at h2; cases h2
    | some i =>
      rw [hi] at h2
      have : i.size = size := by simpa using h2
      simp [sizeOf, typeInfo, hi, this]

section
variable {P : Program} {o : Oper} {es : List Ent}

theorem mem1 {α : Type} {p : α → Prop} {a : α} (h : ∀ n ∈ [a], p n) : p a := h a (by simp)
theorem mem2 {α : Type} {p : α → Prop} {a b : α} (h : ∀ n ∈ [a, b], p n) : p a ∧ p b := ⟨h a (by simp), h b (by simp)⟩

theorem ok_move {x : Operand} {v : AV} (ho : o.op = .move x) : OpOk P o [(x, v)] es v es :=
  .pure fun _ _ a _ _ _ hn => ⟨a.eval x, by simp [execOp, ho], hn (x, v) (by simp)⟩
theorem ok_assign {x : Operand} {v : AV} (ho : o.op = .assign x) : OpOk P o [(x, v)] es v es :=
  .pure fun _ _ a _ _ _ hn => ⟨a.eval x, by simp [execOp, ho], hn (x, v) (by simp)⟩
theorem ok_pick {c x y : Operand} {v : AV} (b : Bool) (hb : b = true) (ho : o.op = .pick c x y) : OpOk P o [(c, .d (.lit (.bool b))), (x, v)] es v es :=
  .pure fun _ _ a _ _ _ hn => ⟨a.eval x, by
    have := (mem2 hn).1.lit
    simp only at this
    simp [execOp, ho, this, asBool, hb], (mem2 hn).2⟩
theorem ok_pick' {c x y : Operand} {v : AV} (b : Bool) (hb : b = false) (ho : o.op = .pick c x y) : OpOk P o [(c, .d (.lit (.bool b))), (y, v)] es v es :=
  .pure fun _ _ a _ _ _ hn => ⟨a.eval y, by
    have := (mem2 hn).1.lit
    simp only at this
    simp [execOp, ho, this, asBool, hb], (mem2 hn).2⟩

/-- An operation on plain values. -/
theorem ok_bin {op : BinOp} {t t' : TypeId} {x y : Operand} {u v r : Value} (ho : o.op = .binOp op t x y t') (h : ∀ w, (binOp op t u v).run P w = .ok r w) (hu : u.oneCell' = true ∧ u matches .int _ _ | .string _ | .bool _) :
    OpOk P o [(x, .d (.lit u)), (y, .d (.lit v))] es (.d (.lit r)) es :=
  .pure fun _ _ a w _ _ hn => ⟨r, by
    have h1 := (mem2 hn).1.lit
    have h2 := (mem2 hn).2.lit
    simp only at h1 h2
    have hg : (eqGuard op t x y u v).run P w = .ok () w := by
      unfold eqGuard
      cases u <;> simp at hu <;> (cases op <;> simp [pure, Sem.run_pure'])
    simp only [execOp, ho, h1, h2, Sem.run_bind, hg, h w, Result.andThen_ok, Sem.run_pure], .d _ _ (.lit _)⟩
theorem ok_un {op : UnOp} {t : TypeId} {x : Operand} {u r : Value} (ho : o.op = .unOp op t x) (h : ∀ w, (Op.unary op u).run P w = .ok r w) : OpOk P o [(x, .d (.lit u))] es (.d (.lit r)) es :=
  .pure fun _ _ a w _ _ hn => ⟨r, by
    have h1 := (mem1 hn).lit
    simp only at h1
    simp only [execOp, ho, h1, Sem.run_bind, h w, Result.andThen_ok, Sem.run_pure], .d _ _ (.lit _)⟩
theorem ok_conv {s t : TypeId} {x : Operand} {u r : Value} (ho : o.op = .convert s t x) (h : ∀ w, (convert s t u).run P w = .ok r w) : OpOk P o [(x, .d (.lit u))] es (.d (.lit r)) es :=
  .pure fun _ _ a w _ _ hn => ⟨r, by
    have h1 := (mem1 hn).lit
    simp only at h1
    simp only [execOp, ho, h1, Sem.run_bind, h w, Result.andThen_ok, Sem.run_pure], .d _ _ (.lit _)⟩

/-- The results of a call, one of them. -/
theorem ok_extract {x : Operand} {i : Nat} {xs : List AV} {v : AV} (ho : o.op = .extract x i) (hv : xs[i]? = some v) : OpOk P o [(x, .tup xs)] es v es :=
  .pure fun ok H a w _ _ hn => by
    have h1 := mem1 hn
    simp only at h1
    generalize he : a.eval x = u at h1
    cases h1 with
    | tup _ vs hl h =>
      obtain ⟨hi, hv'⟩ := List.getElem?_eq_some_iff.1 hv
      have h2 := h i hi
      have e1 : xs.getD i .junk = v := by simp [List.getD, hi, hv']
      have hiv : i < vs.size := by omega
      have e2 : vs.getD i undef = vs[i] := by simp [Array.getD, hiv]
      rw [e1, e2] at h2
      exact ⟨vs[i], by simp [execOp, ho, he, Instr.extract, hiv], h2⟩

/-- The length of a row. -/
theorem ok_len {x : Operand} {t e : TypeId} {xs : List D} (ht : P.underlying t = some (.slice e)) (ho : o.op = .call { callee := .builtin .len, args := #[x], argTypes := #[t] }) :
    OpOk P o [(x, .d (.sl xs))] es (.d (.lit (.int .i64 xs.length))) es :=
  .pure fun ok H a w _ _ hn => by
    have h1 := mem1 hn
    simp only at h1
    generalize he : a.eval x = u at h1
    have hu : (underlying t).run P w = .ok (.slice e) w := by simp [underlying, ht]
    refine ⟨_, ?_, .d _ _ (.lit _)⟩
    cases h1 with
    | d _ _ h =>
      cases h with
      | sl0 ad cap => simp [execOp, ho, resolve, invoke, builtin, Builtin.len_, he, hu, goInt]
      | sl _ b off cap size => simp [execOp, ho, resolve, invoke, builtin, Builtin.len_, he, hu, goInt]
theorem ok_len_str {x : Operand} {t : TypeId} {s : ByteArray} (ht : P.underlying t = some .string) (ho : o.op = .call { callee := .builtin .len, args := #[x], argTypes := #[t] }) :
    OpOk P o [(x, .d (.lit (.string s)))] es (.d (.lit (.int .i64 s.size))) es :=
  .pure fun ok H a w _ _ hn => by
    have h1 := (mem1 hn).lit
    simp only at h1
    have hu : (underlying t).run P w = .ok .string w := by simp [underlying, ht]
    exact ⟨_, by simp [execOp, ho, resolve, invoke, builtin, Builtin.len_, h1, hu, goInt], .d _ _ (.lit _)⟩

theorem ent_at {es : List Ent} {H : List Hd} {ok : Nat → Prop} {w : World} (he : ∀ (k : Nat) (e : Ent) (h : Hd), es[k]? = some e → H[k]? = some h → EntOk ok w H h e) (hl : H.length = es.length) {k : Nat} {e : Ent} (hk : es[k]? = some e) :
    ∃ h, H[k]? = some h ∧ EntOk ok w H h e := by
  have hlt : k < H.length := by rw [hl]; exact (List.getElem?_eq_some_iff.1 hk).1
  exact ⟨H[k], by simp [hlt], he k e _ hk (by simp [hlt])⟩

theorem ok_len_own {x : Operand} {t e e' : TypeId} {k s : Nat} {xs : List D} (hk : es[k]? = some (.arr e' s xs)) (ht : P.underlying t = some (.slice e)) (ho : o.op = .call { callee := .builtin .len, args := #[x], argTypes := #[t] }) :
    OpOk P o [(x, .osl k)] es (.d (.lit (.int .i64 xs.length))) es :=
  .pure fun ok H a w hent hl hn => by
    have h1 := mem1 hn
    simp only at h1
    generalize he : a.eval x = u at h1
    have hu : (underlying t).run P w = .ok (.slice e) w := by simp [underlying, ht]
    obtain ⟨h, hh, hok⟩ := ent_at hent hl hk
    refine ⟨_, ?_, .d _ _ (.lit _)⟩
    cases h1 with
    | osl _ ad n cap s' hH =>
      rw [hh] at hH
      obtain rfl := Option.some.inj hH
      obtain ⟨_, _, ys, ⟨_, ho2⟩, _⟩ := hok
      have hn' : n = xs.length := by
        rcases ho2 with ⟨h2, h3⟩ | ⟨g, cap', cur, h2, _⟩
        · simp at h2; omega
        · simp at h2; omega
      subst hn'
      simp [execOp, ho, resolve, invoke, builtin, Builtin.len_, he, hu, goInt]

/-- A field's address. -/
structure FieldOk (P : Program) (t : TypeId) (f off : Nat) : Prop where
  run : ∀ (b o : Nat) w, (Instr.fieldAt t (.pointer (some ⟨b, o, none⟩)) f).run P w = .ok (.pointer (some ⟨b, o + off, none⟩)) w
def fieldB (P : Program) (t : TypeId) (f off : Nat) : Bool :=
  match P.underlying t with
  | some (.struct fs) => match fs[f]? with
    | some fd => decide (fd.offset = off) && (match P.info? fd.type with | some i => decide (i.size ≠ 0) | none => false)
    | none => false
  | _ => false
theorem field_of {P : Program} {t : TypeId} {f off : Nat} (h : fieldB P t f off = true) : FieldOk P t f off := by
  unfold fieldB at h
  refine ⟨fun b o w => ?_⟩
  split at h
  · rename_i fs hu
    split at h
    · rename_i fd hf
      simp only [Bool.and_eq_true, decide_eq_true_eq] at h
      obtain ⟨h1, h2⟩ := h
      split at h2
      · rename_i i hi
        have hs : (sizeOf fd.type).run P w = .ok i.size w := by simp [sizeOf, typeInfo, hi]
        have h3 : i.size ≠ 0 := by simpa using h2
        have hu' : (underlying t).run P w = .ok (.struct fs) w := by simp [underlying, hu]
        simp [Instr.fieldAt, hu', hf, Instr.sureAddr, fieldPlace, hs, h3, addr_add, h1]
      · cases h2
    · cases h
  · cases h

theorem ok_field_ref {x : Operand} {t : TypeId} {f off o' : Nat} {cs : List D} (hf : FieldOk P t f off) (ho : o.op = .fieldAddr t x f) : OpOk P o [(x, .d (.ref cs o'))] es (.d (.ref cs (o' + off))) es :=
  .pure fun ok H a w _ _ hn => by
    have h1 := mem1 hn
    simp only at h1
    generalize he : a.eval x = u at h1
    cases h1 with
    | d _ _ h =>
      cases h with
      | ref _ _ b p hok hfl hx hc =>
        refine ⟨.pointer (some ⟨b, p + (o' + off), none⟩), ?_, .d _ _ (.ref cs (o' + off) b p hok hfl hx hc)⟩
        simp only [execOp, ho, he, Sem.run_bind, hf.run, Result.andThen_ok, Sem.run_pure, Nat.add_assoc]
theorem ok_field_ptr {x : Operand} {t : TypeId} {f off k o' : Nat} (hf : FieldOk P t f off) (ho : o.op = .fieldAddr t x f) : OpOk P o [(x, .ptr k o')] es (.ptr k (o' + off)) es :=
  .pure fun ok H a w _ _ hn => by
    have h1 := mem1 hn
    simp only at h1
    generalize he : a.eval x = u at h1
    cases h1 with
    | ptr _ _ b s h =>
      refine ⟨.pointer (some ⟨b, o' + off, none⟩), ?_, .ptr _ _ b s h⟩
      simp only [execOp, ho, he, Sem.run_bind, hf.run, Result.andThen_ok, Sem.run_pure]
theorem ok_field_eptr {x : Operand} {t : TypeId} {f off k i o' : Nat} (hf : FieldOk P t f off) (ho : o.op = .fieldAddr t x f) : OpOk P o [(x, .eptr k i o')] es (.eptr k i (o' + off)) es :=
  .pure fun ok H a w _ _ hn => by
    have h1 := mem1 hn
    simp only at h1
    generalize he : a.eval x = u at h1
    cases h1 with
    | eptr _ _ _ b n cap s h =>
      refine ⟨.pointer (some ⟨b, i * s + (o' + off), none⟩), ?_, .eptr _ _ _ b n cap s h⟩
      simp only [execOp, ho, he, Sem.run_bind, hf.run, Result.andThen_ok, Sem.run_pure, Nat.add_assoc]

/-- An element's address: a row that is only read. -/
theorem ok_index {x y : Operand} {t e : TypeId} {k : IntKind} {i : Int} {xs : List D} {el : D} {agg : Bool} {size : Nat} (ht : P.underlying t = some (.slice e)) (hT : Ty P e agg size) (h0 : 0 ≤ i) (hi : xs[i.toNat]? = some el) (hs : el.cells.length = size)
    (ho : o.op = .indexAddr t x y) : OpOk P o [(x, .d (.sl xs)), (y, .d (.lit (.int k i)))] es (.d (.ref el.cells 0)) es :=
  .pure fun ok H a w _ _ hn => by
    have h1 := (mem2 hn).1
    have h2 := (mem2 hn).2.lit
    simp only at h1 h2
    generalize he : a.eval x = u at h1
    have hu : (underlying t).run P w = .ok (.slice e) w := by simp [underlying, ht]
    obtain ⟨hlt, hel⟩ := List.getElem?_eq_some_iff.1 hi
    cases h1 with
    | d _ _ h =>
      cases h with
      | sl0 ad cap => simp at hlt
      | sl _ b off cap size' hcap hok hs' hf hx hc =>
        have hd : xs.getD i.toNat dz = el := by simp [List.getD, hlt, hel]
        have hsz : size' = size := by rw [← hs' _ hlt, hd, hs]
        subst hsz
        refine ⟨.pointer (some ⟨b, off + i.toNat * size' + 0, none⟩), ?_, .d _ _ (.ref el.cells 0 b (off + i.toNat * size') hok ?_ ?_ ?_)⟩
        · have hlen : 0 ≤ i ∧ i < (xs.length : Int) := ⟨h0, by omega⟩
          simp only [execOp, ho, he, h2, Instr.indexAt, asIntOf, Sem.run_bind, Sem.run_pure, hu, Result.andThen_ok, Sem.run_ite, hlen, and_self, if_true, hT.size, addr_add, Nat.add_zero]
        · intro j hj; rw [hs] at hj; rw [← hd]; exact hf _ hlt j hj
        · intro j hj; rw [hs] at hj; rw [Nat.add_assoc]; exact hx _ hlt j hj
        · intro j hj; rw [hs] at hj; rw [Nat.add_assoc, ← hd]; exact hc _ hlt j hj
/-- An element's address: an own row. -/
theorem ok_index_own {x y : Operand} {t e e' : TypeId} {kd : IntKind} {i : Int} {k size : Nat} {xs : List D} {agg : Bool} (hk : es[k]? = some (.arr e' size xs)) (ht : P.underlying t = some (.slice e)) (hT : Ty P e agg size) (h0 : 0 ≤ i) (hi : i.toNat < xs.length)
    (ho : o.op = .indexAddr t x y) : OpOk P o [(x, .osl k), (y, .d (.lit (.int kd i)))] es (.eptr k i.toNat 0) es :=
  .pure fun ok H a w hent hl hn => by
    have h1 := (mem2 hn).1
    have h2 := (mem2 hn).2.lit
    simp only at h1 h2
    generalize he : a.eval x = u at h1
    have hu : (underlying t).run P w = .ok (.slice e) w := by simp [underlying, ht]
    obtain ⟨h, hh, hok⟩ := ent_at hent hl hk
    cases h1 with
    | osl _ ad n cap s' hH =>
      rw [hh] at hH
      obtain rfl := Option.some.inj hH
      obtain ⟨hs, _, ys, ⟨_, ho2⟩, _⟩ := hok
      simp only at hs
      subst hs
      rcases ho2 with ⟨h2', h3⟩ | ⟨g, cap', cur, h2', _⟩
      · omega
      · simp only [Value.slice.injEq] at h2'
        obtain ⟨rfl, rfl, rfl⟩ := h2'
        refine ⟨.pointer (some ⟨g, i.toNat * s' + 0, none⟩), ?_, .eptr _ _ _ _ _ _ _ hh⟩
        have hlen : 0 ≤ i ∧ i < (xs.length : Int) := ⟨h0, by omega⟩
        simp only [execOp, ho, he, h2, Instr.indexAt, asIntOf, Sem.run_bind, Sem.run_pure, hu, Result.andThen_ok, Sem.run_ite, hlen, and_self, if_true, hT.size, addr_add, Nat.zero_add, Nat.add_zero]

/-- A byte of a text. -/
theorem ok_index_str {x y : Operand} {t : TypeId} {k : IntKind} {i : Int} {s : ByteArray} {c : UInt8} (ht : P.underlying t = some .string) (h0 : 0 ≤ i) (hi : s[i.toNat]? = some c) (ho : o.op = .index t x y) :
    OpOk P o [(x, .d (.lit (.string s))), (y, .d (.lit (.int k i)))] es (.d (.lit (.int .u8 c.toNat))) es :=
  .pure fun ok H a w _ _ hn => by
    have h1 := (mem2 hn).1.lit
    have h2 := (mem2 hn).2.lit
    simp only at h1 h2
    have hu : (underlying t).run P w = .ok .string w := by simp [underlying, ht]
    exact ⟨_, by simp only [execOp, ho, h1, h2, Instr.index, asIntOf, Sem.run_bind, Sem.run_pure, hu, Result.andThen_ok, h0, if_true, hi], .d _ _ (.lit _)⟩

def getDs (l : List AV) : List D := l.map fun | .d x => x | _ => dz
def AV.isD : AV → Bool
  | .d _ => true
  | _ => false
theorem R.toD {ok : Nat → Prop} {w : World} {H : List Hd} {x : AV} {v : Value} (h : R ok w H x v) (hd : x.isD = true) : RD ok w ((fun | .d x => x | _ => dz) x) v := by
  cases h with
  | d _ _ h => exact h
  | _ => simp [AV.isD] at hd

/-- The datum of a variable of n cells at offset off. -/
def cellsVar (agg : Bool) (cs : List D) (off n : Nat) : D := if agg then .agg ((cs.drop off).take n) else cs.getD off dz

theorem load_run {P : Program} {ok : Nat → Prop} {w : World} {t : TypeId} {agg : Bool} {n b p off : Nat} {cs : List D} (hT : Ty P t agg n) (hn : off + n ≤ cs.length) (h1 : agg = false → n = 1)
    (hf : ∀ i, i < cs.length → (cs.getD i dz).leaf = true) (hx : ∀ j, j < cs.length → (w.cell? ⟨b, p + j, none⟩).isSome = true) (hc : ∀ j, j < cs.length → RD ok w (cs.getD j dz) (cellAt w b (p + j))) :
    ∃ v, (Instr.loadAt t (.pointer (some ⟨b, p + off, none⟩))).run P w = .ok v w ∧ RD ok w (cellsVar agg cs off n) v := by
  have hget : ∀ j, j < cs.length → w.cell? ⟨b, p + j, none⟩ = some (cellAt w b (p + j)) := by
    intro j hj
    have := hx j hj
    obtain ⟨u, hu⟩ := Option.isSome_iff_exists.1 this
    simp [cellAt, hu]
  cases agg with
  | false =>
    have := h1 rfl
    subst this
    refine ⟨cellAt w b (p + off), ?_, hc off (by omega)⟩
    have hg := hget off (by omega)
    simp [Instr.loadAt, Instr.sureAddr, loadVar, hT.agg, hg]
  | true =>
    let vs : Array Value := ((List.range n).map fun j => cellAt w b (p + (off + j))).toArray
    have hvs : vs.size = n := by simp [vs]
    have hvg : ∀ j, j < n → vs.getD j undef = cellAt w b (p + (off + j)) := by
      intro j hj; simp [vs, Array.getD, hj]
    refine ⟨.agg vs, ?_, ?_⟩
    · simp only [Instr.loadAt, Instr.sureAddr, Sem.run_bind, Sem.run_pure, Result.andThen_ok]
      have h := run_loadVar_agg (P := P) w t b (p + off) vs (hT.agg w) (by rw [hvs]; exact hT.size w) (fun j hj => by
        rw [hvs] at hj
        rw [hvg j hj, Nat.add_assoc]
        exact hget (off + j) (by omega))
      exact h
    · simp only [cellsVar, if_true]
      have hlen : ((cs.drop off).take n).length = n := by simp; omega
      have hg : ∀ i, i < n → ((cs.drop off).take n).getD i dz = cs.getD (off + i) dz := by
        intro i hi
        simp [List.getD, List.getElem?_take_of_lt hi, List.getElem?_drop]
      refine .agg _ vs (by rw [hlen, hvs]) (fun i hi => ?_) (fun i hi => ?_)
      · rw [hlen] at hi; rw [hg i hi]; exact hf _ (by omega)
      · rw [hlen] at hi; rw [hg i hi, hvg i hi]; exact hc _ (by omega)

theorem ok_load_ref {x : Operand} {t : TypeId} {agg : Bool} {n off : Nat} {cs : List D} (hT : Ty P t agg n) (hn : off + n ≤ cs.length) (h1 : agg = false → n = 1) (ho : o.op = .load t x) :
    OpOk P o [(x, .d (.ref cs off))] es (.d (cellsVar agg cs off n)) es :=
  .pure fun ok H a w _ _ hn' => by
    have h1' := mem1 hn'
    simp only at h1'
    generalize he : a.eval x = u at h1'
    cases h1' with
    | d _ _ h =>
      cases h with
      | ref _ _ b p hok hf hx hc =>
        obtain ⟨v, hr, hd⟩ := load_run hT hn h1 hf hx hc
        exact ⟨v, by simp only [execOp, ho, he, Sem.run_bind, hr, Result.andThen_ok, Sem.run_pure], .d _ _ hd⟩

theorem getDs_length (l : List AV) : (getDs l).length = l.length := by simp [getDs]
theorem getDs_get {l : List AV} {i : Nat} (h : i < l.length) : (getDs l).getD i dz = (fun | .d x => x | _ => dz) (l.getD i .junk) := by
  simp [getDs, List.getD, h]

/-- A whole box of data, as cells. -/
theorem box_cells' {ok : Nat → Prop} {w : World} {H : List Hd} {h : Hd} {cs : List AV} (he : EntOk ok w H h (.box cs)) (hd : cs.all AV.isD = true) :
    ∃ b, h.v = .pointer (some ⟨b, 0, none⟩) ∧ (∀ i, i < (getDs cs).length → ((getDs cs).getD i dz).leaf = true) ∧ (∀ j, j < (getDs cs).length → (w.cell? ⟨b, 0 + j, none⟩).isSome = true) ∧ (∀ j, j < (getDs cs).length → RD ok w ((getDs cs).getD j dz) (cellAt w b (0 + j))) := by
  obtain ⟨b, vs, T, h1, h2, h3, h4⟩ := he
  rw [List.all_eq_true] at hd
  have hcell : ∀ j, j < cs.length → w.cell? ⟨b, 0 + j, none⟩ = some (vs.toList.getD j undef) := by
    intro j hj
    rw [Nat.zero_add]
    have hj' : j < vs.size := by simpa using (by omega : j < vs.toList.length)
    simp [World.cell?, h2, hj', List.getD]
  refine ⟨b, h1, fun i hi => ?_, fun j hj => ?_, fun j hj => ?_⟩
  · rw [getDs_length] at hi
    rw [getDs_get hi]
    have h5 := (h4 i hi).1
    have h6 := hd (cs.getD i .junk) (by simp [List.getD, hi])
    cases hx : cs.getD i .junk with
    | d x => rw [hx] at h5; exact h5
    | _ => rw [hx] at h6; simp [AV.isD] at h6
  · rw [getDs_length] at hj
    rw [hcell j hj]; rfl
  · rw [getDs_length] at hj
    rw [getDs_get hj]
    unfold cellAt
    rw [hcell j hj]
    exact (h4 j hj).2.toD (hd (cs.getD j .junk) (by simp [List.getD, hj]))

theorem ok_load_box {x : Operand} {t : TypeId} {agg : Bool} {k n off : Nat} {cs : List AV} (hk : es[k]? = some (.box cs)) (hd : cs.all AV.isD = true) (hT : Ty P t agg n) (hn : off + n ≤ cs.length) (h1 : agg = false → n = 1) (ho : o.op = .load t x) :
    OpOk P o [(x, .ptr k off)] es (.d (cellsVar agg (getDs cs) off n)) es :=
  .pure fun ok H a w hent hl hn' => by
    have h1' := mem1 hn'
    simp only at h1'
    generalize he : a.eval x = u at h1'
    obtain ⟨h, hh, hok⟩ := ent_at hent hl hk
    obtain ⟨b, hb, hf, hx, hc⟩ := box_cells' hok hd
    cases h1' with
    | ptr _ _ b' s hH =>
      rw [hh] at hH
      obtain rfl := Option.some.inj hH
      simp at hb
      subst hb
      obtain ⟨v, hr, hD⟩ := load_run hT (by rw [getDs_length]; exact hn) h1 hf hx hc
      rw [Nat.zero_add] at hr
      exact ⟨v, by simp only [execOp, ho, he, Sem.run_bind, hr, Result.andThen_ok, Sem.run_pure], .d _ _ hD⟩
/-- One cell of a box, whatever it holds. -/
theorem ok_load_cell {x : Operand} {t : TypeId} {k off : Nat} {cs : List AV} {v : AV} (hk : es[k]? = some (.box cs)) (hv : cs[off]? = some v) (hT : Ty P t false 1) (ho : o.op = .load t x) : OpOk P o [(x, .ptr k off)] es v es :=
  .pure fun ok H a w hent hl hn' => by
    have h1' := mem1 hn'
    simp only at h1'
    generalize he : a.eval x = u at h1'
    obtain ⟨h, hh, b, vs, T, hb, h2, h3, h4⟩ := ent_at hent hl hk
    cases h1' with
    | ptr _ _ b' s hH =>
      rw [hh] at hH
      obtain rfl := Option.some.inj hH
      simp at hb
      subst hb
      obtain ⟨hlt, hv'⟩ := List.getElem?_eq_some_iff.1 hv
      have h5 := (h4 off hlt).2
      have e1 : cs.getD off .junk = v := by simp [List.getD, hlt, hv']
      have hlt' : off < vs.size := by simpa using (by omega : off < vs.toList.length)
      have e2 : vs.toList.getD off undef = vs[off] := by simp [List.getD, hlt']
      rw [e1, e2] at h5
      refine ⟨vs[off], ?_, h5⟩
      have hc : w.cell? ⟨b', off, none⟩ = some vs[off] := by simp [World.cell?, h2, hlt']
      simp [execOp, ho, he, Instr.loadAt, Instr.sureAddr, loadVar, hT.agg, hc]
end
end Go.Proofs.Ytdhhcmdofnjhiaa
