/- More operations over abstract states: the row nil as an operand, structs compared, bytes to a text. No program's code. No condition. -/
import Derived.Test.YtdhhcmdofnjhiaaAvF
import Derived.Laws.StructEq
import Derived.Laws.BytesString
namespace Go.Proofs.Ytdhhcmdofnjhiaa
open Go.RowKit

section
variable {P : Program} {o : Oper} {es : List Ent}

/-- The operand nil as an own row without elements. -/
theorem ok_nilop {ns : List (Operand × AV)} {v : AV} {es' : List Ent} (e : TypeId) (size : Nat) (h : OpOk P o ((.const (.slice none 0 0), .osl es.length) :: ns) (es ++ [.arr e size []]) v es') : OpOk P o ns es v es' := by
  intro C ok H a w Q hm hn
  obtain ⟨h1, h2⟩ := own_nil hm e size
  refine Oper.wp_mono ?_ (h C ok _ a w Q h1 (fun n hn' => ?_))
  · rintro a' w' ⟨v', ok', H', e1, hg, hnm, hm', hR⟩
    exact ⟨v', ok', H', e1, hg, (Names.push _ _).trans hnm, hm', hR⟩
  · rcases List.mem_cons.1 hn' with rfl | hn'
    · exact h2
    · exact (hn n hn').mono (.refl _ _) (Names.push _ _)

theorem R.aggLit {ok : Nat → Prop} {w : World} {H : List Hd} {us : List Value} {v : Value} (h : R ok w H (.d (.agg (us.map .lit))) v) : v = .agg us.toArray := by
  cases h with
  | d _ _ h =>
    cases h with
    | agg _ vs hl _ h =>
      congr 1
      apply Array.ext
      · simpa using hl
      · intro i h1 h2
        have hi : i < (us.map D.lit).length := by omega
        have h3 := h i hi
        have hi' : i < us.length := by simpa using hi
        have e1 : (us.map D.lit).getD i dz = .lit (us[i]) := by simp [List.getD, hi']
        have e2 : vs.getD i undef = vs[i] := by simp [Array.getD, h1]
        rw [e1, e2] at h3
        generalize vs[i] = u at h3
        cases h3
        simp

/-- Two structs without references: equal? -/
structure EqOk (P : Program) (n : Nat) (t : TypeId) (us vs : List Value) (b : Bool) : Prop where
  run : ∀ (d : Nat) (w : World), (Op.equalIn (d + n) t (.agg us.toArray) (.agg vs.toArray)).run P w = .ok b w

theorem part_leaf {t : TypeId} {cs : Array Value} {off : Nat} {v : Value} {size : Nat} (hT : Ty P t false size) (h : cs[off]? = some v) (w : World) : (part t cs off).run P w = .ok v w := by
  simp [part, hT.agg, h]
theorem part_agg {t : TypeId} {cs : Array Value} {off : Nat} {size : Nat} (hT : Ty P t true size) (w : World) : (part t cs off).run P w = .ok (.agg (cs.extract off (off + size))) w := by
  simp [part, hT.agg, hT.size]
def eqTri (d : Nat) (xs ys : Array Value) : List (TypeId × Nat) → Sem Bool
  | [] => pure true
  | f :: fs => do
    let a ← part f.1 xs f.2
    let b ← part f.1 ys f.2
    let r ← Op.equalIn d f.1 a b
    if (!r) = true then pure false else eqTri d xs ys fs
theorem eqTri_of (d : Nat) (xs ys : Array Value) : ∀ (fs : List Field), fs.all (fun f => f.name != "_") = true → Op.eqFields d xs ys fs = eqTri d xs ys (fs.map fun f => (f.type, f.offset))
  | [], _ => rfl
  | f :: fs, h => by
    simp only [List.all_cons, Bool.and_eq_true, bne_iff_ne, ne_eq] at h
    simp only [Op.eqFields, List.map_cons, eqTri, ne_eq, h.1, not_false_eq_true, if_true, eqTri_of d xs ys fs h.2]
theorem eqS_of {d : Nat} {t : TypeId} {xs ys : Array Value} {l : List (TypeId × Nat)} {b : Bool} {w : World} (ht : P.underlying t = some (.struct (P.fieldsOf t))) (hp : P.stoodInHeld t = false) (hn : (P.fieldsOf t).toList.all (fun f => f.name != "_") = true)
    (hl : (P.fieldsOf t).toList.map (fun f => (f.type, f.offset)) = l) (h : (eqTri d xs ys l).run P w = .ok b w) : (Op.equalIn (d + 1) t (.agg xs) (.agg ys)).run P w = .ok b w := by
  rw [run_equalIn_struct w d t xs ys ht hp, eqTri_of _ _ _ _ hn, hl, h]
theorem eqF_nil (d : Nat) (xs ys : Array Value) (w : World) : (eqTri d xs ys []).run P w = .ok true w := by simp [eqTri]
theorem eqF_cons {d : Nat} {xs ys : Array Value} {t : TypeId} {off : Nat} {fs : List (TypeId × Nat)} {a b : Value} {r rs : Bool} {w : World} (ha : (part t xs off).run P w = .ok a w) (hb : (part t ys off).run P w = .ok b w)
    (hr : (Op.equalIn d t a b).run P w = .ok r w) (hs : (eqTri d xs ys fs).run P w = .ok rs w) : (eqTri d xs ys ((t, off) :: fs)).run P w = .ok (r && rs) w := by
  unfold eqTri
  simp only [Sem.run_bind, ha, hb, hr, Result.andThen_ok]
  cases r <;> simp [hs]

theorem ok_eqS {t t' : TypeId} {x y : Operand} {n : Nat} (us vs : List Value) {b : Bool} (h : EqOk P n t us vs b) (hd : n ≤ 10000) (hg : P.eqGuardType P.depth t = false) (ho : o.op = .binOp .eql t x y t') :
    OpOk P o [(x, .d (.agg (us.map .lit))), (y, .d (.agg (vs.map .lit)))] es (.d (eB b)) es :=
  .pure fun _ _ a w _ _ hn => ⟨.bool b, by
    have h1 := (mem2 hn).1.aggLit
    have h2 := (mem2 hn).2.aggLit
    simp only at h1 h2
    have hgu : (eqGuard .eql t x y (.agg us.toArray) (.agg vs.toArray)).run P w = .ok () w := by simp [eqGuard, hg]
    simp only [execOp, ho, h1, h2, Sem.run_bind, hgu, Result.andThen_ok, Sem.run_pure, run_eql_struct, (by have := h.run (10000 - n) w; rwa [Nat.sub_add_cancel hd] at this : (Op.equalIn 10000 t (.agg us.toArray) (.agg vs.toArray)).run P w = .ok b w)], .d _ _ (.lit _)⟩
theorem ok_neS {t t' : TypeId} {x y : Operand} {n : Nat} (us vs : List Value) {b : Bool} (h : EqOk P n t us vs b) (hd : n ≤ 10000) (hg : P.eqGuardType P.depth t = false) (ho : o.op = .binOp .neq t x y t') :
    OpOk P o [(x, .d (.agg (us.map .lit))), (y, .d (.agg (vs.map .lit)))] es (.d (eB (!b))) es :=
  .pure fun _ _ a w _ _ hn => ⟨.bool (!b), by
    have h1 := (mem2 hn).1.aggLit
    have h2 := (mem2 hn).2.aggLit
    simp only at h1 h2
    have hgu : (eqGuard .neq t x y (.agg us.toArray) (.agg vs.toArray)).run P w = .ok () w := by simp [eqGuard, hg]
    simp only [execOp, ho, h1, h2, Sem.run_bind, hgu, Result.andThen_ok, Sem.run_pure, run_neq_struct, (by have := h.run (10000 - n) w; rwa [Nat.sub_add_cancel hd] at this : (Op.equalIn 10000 t (.agg us.toArray) (.agg vs.toArray)).run P w = .ok b w)], .d _ _ (.lit _)⟩

/-- Bytes as a text. -/
def sOf (l : List Int) : ByteArray := l.foldl (fun r n => r.push (UInt8.ofNat n.toNat)) ByteArray.empty

theorem rs_u8 {ok : Nat → Prop} {w : World} {H : List Hd} {l : List Int} {news : List Value} (h : Rs ok w H (flat (l.map eU8)) news) : news = l.map (.int .u8) := by
  rw [flat_u8] at h
  apply List.ext_getElem
  · simpa using h.1
  · intro i h1 h2
    have hi : i < (l.map fun n => AV.d (eU8 n)).length := by simpa using h2
    have h3 := (h.2 i hi).2
    have hi' : i < l.length := by simpa using hi
    have e1 : (l.map fun n => AV.d (eU8 n)).getD i .junk = .d (eU8 l[i]) := by simp [List.getD, hi']
    have e2 : news.getD i undef = news[i] := by simp [List.getD, h1]
    rw [e1, e2] at h3
    have := h3.lit
    simpa using this

theorem bytes_run {w : World} {v : Value} {m : Nat} {l : List Int} (h : Src w v m 1 (l.map (.int .u8))) : (Conv.bytesToString v).run P w = .ok (.string (sOf l)) w := by
  rcases h.at_ with ⟨ad, c, rfl, hc⟩ | ⟨c, rfl, hm⟩
  · refine run_bytesToString w ad m c l ?_
    have hl := h.len
    have := run_loadCells_list (P := P) w ad (l.map (Value.int .u8)) hc
    rw [List.length_map, Nat.mul_one] at hl
    rw [List.length_map, hl] at this
    exact this
  · have hl := h.len
    rw [hm, Nat.zero_mul, List.length_map] at hl
    rw [List.eq_nil_of_length_eq_zero hl]
    simp [Conv.bytesToString, sOf]

def Value.isSlice : Value → Bool
  | .slice _ _ _ => true
  | _ => false
theorem src_slice {w : World} {v : Value} {m size : Nat} {news : List Value} (h : Src w v m size news) : Value.isSlice v = true := by
  rcases h.at_ with ⟨_, _, rfl, _⟩ | ⟨_, rfl, _⟩ <;> rfl
theorem conv_bytes {s t e : TypeId} {v : Value} {w : World} {r : ByteArray} (hs : P.underlying s = some (.slice e)) (he : P.underlying e = some (.int .u8)) (ht : P.underlying t = some .string) (hv : Value.isSlice v = true)
    (h : (Conv.bytesToString v).run P w = .ok (.string r) w) : (convert s t v).run P w = .ok (.string r) w := by
  cases v <;> simp [Value.isSlice] at hv
  simp [convert, underlying, hs, he, ht, h]

theorem ok_strB {s t e : TypeId} {x : Operand} {l : List Int} (hs : P.underlying s = some (.slice e)) (he : P.underlying e = some (.int .u8)) (ht : P.underlying t = some .string) (ho : o.op = .convert s t x) :
    OpOk P o [(x, .d (eL eU8 l))] es (.d (eS (sOf l))) es :=
  .pure fun ok H a w _ _ hn => by
    have h1 := mem1 hn
    simp only at h1
    generalize hv : a.eval x = v at h1
    refine ⟨.string (sOf l), ?_, .d _ _ (.lit _)⟩
    cases h1 with
    | d _ _ h =>
      obtain ⟨news, hsrc, hrs⟩ := src_view H h (size := 1) (fun y hy => by obtain ⟨n, _, rfl⟩ := List.mem_map.1 hy; rfl)
      obtain rfl := rs_u8 hrs
      have hsl := src_slice hsrc
      simp [execOp, ho, hv, conv_bytes hs he ht hsl (bytes_run hsrc)]
theorem ok_strO {s t e e' : TypeId} {x : Operand} {k : Nat} {l : List Int} (hk : es[k]? = some (.arr e' 1 (List.map eU8 l))) (hs : P.underlying s = some (.slice e)) (he : P.underlying e = some (.int .u8)) (ht : P.underlying t = some .string) (ho : o.op = .convert s t x) :
    OpOk P o [(x, .osl k)] es (.d (eS (sOf l))) es :=
  .pure fun ok H a w hent hl hn => by
    have h1 := mem1 hn
    simp only at h1
    obtain ⟨hd, hh, hok⟩ := ent_at hent hl hk
    have hv := R_own_val h1 hh
    refine ⟨.string (sOf l), ?_, .d _ _ (.lit _)⟩
    obtain ⟨news, hsrc, hrs⟩ := src_own hok
    obtain rfl := rs_u8 hrs
    have hsl := src_slice hsrc
    simp [execOp, ho, hv, conv_bytes hs he ht hsl (bytes_run hsrc)]

/-- A function value that may hold pointers into one's own entities. -/
theorem ok_makeFuncA {fn : Fn} {firsts caps : Array Operand} {fi ca : List AV} (hl : firsts.toList.length = fi.length) (hm : caps.toList.length = ca.length) (ho : o.op = .makeFunc fn firsts caps) :
    OpOk P o (argNeeds firsts.toList fi ++ argNeeds caps.toList ca) es (.fn fn fi ca) es :=
  .pure fun ok H a w _ _ hn => by
    have key : ∀ (xs : Array Operand) (vs : List AV), xs.toList.length = vs.length → (∀ n ∈ argNeeds xs.toList vs, R ok w H n.2 (a.eval n.1)) → ∀ i, i < vs.length → R ok w H (vs.getD i .junk) ((xs.map a.eval).getD i undef) := by
      intro xs vs hl hn i hi
      have h1 := argNeeds_get hl hn i hi
      have hi2 : i < xs.size := by have : xs.size = vs.length := by simpa using hl
                                   omega
      have e2 : (xs.toList.map a.eval).getD i undef = (xs.map a.eval).getD i undef := by simp [List.getD, Array.getD, hi2]
      rw [e2] at h1; exact h1
    refine ⟨.func fn (firsts.map a.eval) (caps.map a.eval), by simp [execOp, ho, Instr.makeFunc], .fn fn fi ca _ _ (by simpa using hl) (by simpa using hm) (key _ _ hl fun n h => hn n (by simp [h])) (key _ _ hm fun n h => hn n (by simp [h]))⟩

theorem argNeeds_append : ∀ {xs : List Operand} {vs : List AV} {ys : List Operand} {us : List AV}, xs.length = vs.length → argNeeds (xs ++ ys) (vs ++ us) = argNeeds xs vs ++ argNeeds ys us
  | [], [], _, _, _ => rfl
  | [], _ :: _, _, _, h => by simp at h
  | _ :: _, [], _, _, h => by simp at h
  | x :: xs, v :: vs, ys, us, h => by simp [argNeeds, argNeeds_append (xs := xs) (vs := vs) (by simpa using h)]
theorem needs_const {ok : Nat → Prop} {w : World} {H : List Hd} {a : Act} : ∀ {us : List Value} {vs : List AV}, us.length = vs.length → (∀ i, i < vs.length → R ok w H (vs.getD i .junk) (us.getD i undef)) → ∀ n ∈ argNeeds (us.map Operand.const) vs, R ok w H n.2 (a.eval n.1)
  | [], [], _, _, n, hn => by simp [argNeeds] at hn
  | [], _ :: _, h, _, _, _ => by simp at h
  | _ :: _, [], h, _, _, _ => by simp at h
  | u :: us, v :: vs, hl, h, n, hn => by
    simp only [List.map_cons, argNeeds, List.mem_cons] at hn
    rcases hn with rfl | hn
    · have := h 0 (by simp)
      simp at this
      exact this
    · exact needs_const (us := us) (vs := vs) (by simpa using hl) (fun i hi => by simpa using h (i + 1) (by simpa using hi)) n hn

/-- A call of a function value. -/
theorem ok_callX {f : FuncId} {x : Operand} {ops : Array Operand} {ats : Array TypeId} (srcs : List Sr) {fi ca avs avs' : List AV} {E E' : List Ent} {res : AV} (hr : Runs P f avs' E res E') (hf : entersB P f = true) (hb : srcsB srcs es E E' = true) (hE : entsDown srcs es E)
    (ha : argsOk srcs (fi ++ avs ++ ca) avs') (hl : ops.toList.length = avs.length) (ho : o.op = .call { callee := .value x, args := ops, argTypes := ats }) :
    OpOk P o ((x, .fn (.func f) fi ca) :: argNeeds ops.toList avs) es (res.up srcs es.length) (entsUp srcs es E') := by
  intro C ok H a w Q hm hn
  have hx := hn (x, .fn (.func f) fi ca) (by simp)
  simp only at hx
  generalize hv : a.eval x = v at hx
  cases hx with
  | fn _ _ _ vs us hl1 hl2 h1 h2 =>
    unfold Oper.wp
    have he : (execOp a.eval o).run P w = .ok (.enter f ((vs ++ ops.map a.eval) ++ us)) w := by
      have := enters_of_b hf (vs ++ ops.map a.eval ++ us) w
      rw [Array.append_assoc] at this
      simp [execOp, ho, resolve, hv, Deferred.ofValue, invoke, this]
    rw [he, Oper.upon_enter]
    have e : vs ++ ops.map a.eval ++ us = ((vs.toList.map Operand.const ++ ops.toList ++ us.toList.map Operand.const).map a.eval).toArray := by
      apply Array.ext'
      simp [Function.comp_def, Act.eval]
    rw [e]
    have l1 : (vs.toList.map Operand.const).length = fi.length := by simpa using hl1
    refine (call_core hm srcs hr hb hE ha (by simp at hl; simp [hl1, hl2, hl]) (a := a) ?_).mono ?_
    · rw [argNeeds_append (by simp at hl; simp [hl1, hl]), argNeeds_append l1]
      intro n hn'
      simp only [List.mem_append] at hn'
      rcases hn' with (hn' | hn') | hn'
      · exact needs_const (by simpa using hl1) (fun i hi => by have := h1 i hi; simpa [List.getD, Array.getD_eq_getD_getElem?] using this) n hn'
      · exact hn n (List.mem_cons_of_mem _ hn')
      · exact needs_const (by simpa using hl2) (fun i hi => by have := h2 i hi; simpa [List.getD, Array.getD_eq_getD_getElem?] using this) n hn'
    · rintro e w' ⟨v, ok', H', rfl, h3, h4, h5, h6⟩
      exact ⟨v, ok', H', rfl, h3, h4, h5, h6⟩
theorem R.dfn {ok : Nat → Prop} {w : World} {H : List Hd} {f : Fn} {fi ca : List D} {v : Value} (h : R ok w H (.d (.fn f fi ca)) v) : R ok w H (.fn f (fi.map .d) (ca.map .d)) v := by
  cases h with
  | d _ _ h =>
    cases h with
    | fn _ _ _ vs us h1 h2 h3 h4 =>
      refine .fn f _ _ vs us (by simpa using h1) (by simpa using h2) (fun i hi => ?_) (fun i hi => ?_)
      · have hi' : i < fi.length := by simpa using hi
        have e1 : (fi.map AV.d).getD i .junk = .d (fi.getD i dz) := by simp [List.getD, hi']
        rw [e1]; exact .d _ _ (h3 i hi')
      · have hi' : i < ca.length := by simpa using hi
        have e1 : (ca.map AV.d).getD i .junk = .d (ca.getD i dz) := by simp [List.getD, hi']
        rw [e1]; exact .d _ _ (h4 i hi')
/-- The same, the function value being a datum. -/
theorem ok_callXd {f : FuncId} {x : Operand} {ops : Array Operand} {ats : Array TypeId} (srcs : List Sr) {fi ca : List D} {avs avs' : List AV} {E E' : List Ent} {res : AV} (hr : Runs P f avs' E res E') (hf : entersB P f = true) (hb : srcsB srcs es E E' = true) (hE : entsDown srcs es E)
    (ha : argsOk srcs (fi.map .d ++ avs ++ ca.map .d) avs') (hl : ops.toList.length = avs.length) (ho : o.op = .call { callee := .value x, args := ops, argTypes := ats }) :
    OpOk P o ((x, .d (.fn (.func f) fi ca)) :: argNeeds ops.toList avs) es (res.up srcs es.length) (entsUp srcs es E') := by
  intro C ok H a w Q hm hn
  refine ok_callX (fi := fi.map .d) (ca := ca.map .d) srcs hr hf hb hE ha hl ho C ok H a w Q hm (fun n hn' => ?_)
  rcases List.mem_cons.1 hn' with rfl | hn'
  · exact R.dfn (hn (x, .d (.fn (.func f) fi ca)) (by simp))
  · exact hn n (List.mem_cons_of_mem _ hn')

/-- The callee's entities, one by one. -/
def downs (es : List Ent) : List Sr → List Ent → Prop
  | s :: srcs, e :: E => (match s with | .ent k => es[k]? = some e | .nil sz => ∃ t, e = .arr t sz []) ∧ downs es srcs E
  | [], _ => True
  | _ :: _, [] => False
theorem downs_ent {es : List Ent} {k : Nat} {e : Ent} {srcs : List Sr} {E : List Ent} (h : es[k]? = some e) (hs : downs es srcs E) : downs es (.ent k :: srcs) (e :: E) := ⟨h, hs⟩
theorem downs_nil {es : List Ent} {sz t : Nat} {srcs : List Sr} {E : List Ent} (hs : downs es srcs E) : downs es (.nil sz :: srcs) (.arr t sz [] :: E) := ⟨⟨t, rfl⟩, hs⟩
theorem downs_of {es : List Ent} : ∀ {srcs : List Sr} {E : List Ent}, downs es srcs E → entsDown srcs es E
  | [], _, _, i, s, hs => by simp at hs
  | _ :: _, [], h, _, _, _ => h.elim
  | s :: srcs, e :: E, h, 0, s', hs => by
    simp at hs
    subst hs
    have h1 := h.1
    cases s with
    | ent k => simp only at h1; simp [h1]
    | nil sz => obtain ⟨t, rfl⟩ := h1; exact ⟨t, rfl⟩
  | s :: srcs, e :: E, h, i + 1, s', hs => by
    have := downs_of h.2 i s' (by simpa using hs)
    cases s' with
    | ent k => simpa using this
    | nil sz => simpa using this
/-- A call that is handed entities of one's own. -/
theorem ok_callG {f : FuncId} {ops : Array Operand} {ats : Array TypeId} (srcs : List Sr) {avs avs' : List AV} {E E' : List Ent} {res res' : AV} (hr : Runs P f avs' E res E') (hf : entersB P f = true) (hb : srcsB srcs es E E' = true) (hE : downs es srcs E) (ha : argsOk srcs avs avs') (hl : ops.toList.length = avs.length)
    (hu : res' = res.up srcs es.length) (ho : o.op = .call { callee := .value (.func f), args := ops, argTypes := ats }) : OpOk P o (argNeeds ops.toList avs) es res' (entsUp srcs es E') := hu ▸ ok_call srcs hr hf hb (downs_of hE) ha hl ho
theorem ok_callGX {f : FuncId} {x : Operand} {ops : Array Operand} {ats : Array TypeId} (srcs : List Sr) (fi ca : List AV) {avs avs' : List AV} {E E' : List Ent} {res res' : AV} (hr : Runs P f avs' E res E') (hf : entersB P f = true) (hb : srcsB srcs es E E' = true) (hE : downs es srcs E)
    (ha : argsOk srcs (fi ++ avs ++ ca) avs') (hl : ops.toList.length = avs.length) (hu : res' = res.up srcs es.length) (ho : o.op = .call { callee := .value x, args := ops, argTypes := ats }) :
    OpOk P o ((x, .fn (.func f) fi ca) :: argNeeds ops.toList avs) es res' (entsUp srcs es E') := hu ▸ ok_callX srcs hr hf hb (downs_of hE) ha hl ho
theorem ok_callGD {f : FuncId} {x : Operand} {ops : Array Operand} {ats : Array TypeId} (srcs : List Sr) (fi ca : List D) {avs avs' : List AV} {E E' : List Ent} {res res' : AV} (hr : Runs P f avs' E res E') (hf : entersB P f = true) (hb : srcsB srcs es E E' = true) (hE : downs es srcs E)
    (ha : argsOk srcs (fi.map .d ++ avs ++ ca.map .d) avs') (hl : ops.toList.length = avs.length) (hu : res' = res.up srcs es.length) (ho : o.op = .call { callee := .value x, args := ops, argTypes := ats }) :
    OpOk P o ((x, .d (.fn (.func f) fi ca)) :: argNeeds ops.toList avs) es res' (entsUp srcs es E') := hu ▸ ok_callXd srcs hr hf hb (downs_of hE) ha hl ho
end
end Go.Proofs.Ytdhhcmdofnjhiaa
