/- Results, joins and typed loops over abstract states (printed by gen_avs.py). No program's code. No condition. -/
import Derived.Test.YtdhhcmdofnjhiaaAvR
namespace Go.Proofs.Ytdhhcmdofnjhiaa
open Go.RowKit

section
variable {P : Program} {σ : St} {Q : Exit → St → Prop}

/-- A result's value. -/
def resV (P : Program) (σ : St) : ResultVar → AV → Prop
  | .tmp t, x => x = σ.slots.getD t .junk
  | .cell t T, x => ∃ k cs agg n, σ.slots.getD t .junk = .ptr k 0 ∧ σ.ents[k]? = some (.box cs) ∧ cs.all AV.isD = true ∧ Ty P T agg n ∧ n ≤ cs.length ∧ (agg = false → n = 1) ∧ x = .d (cellsVar agg (getDs cs) 0 n)
theorem resV_tmp {P : Program} {σ : St} {t : Tmp} {x : AV} (h : x = σ.slots.getD t .junk) : resV P σ (.tmp t) x := h
def resAll (P : Program) (σ : St) : List ResultVar → List AV → Prop
  | r :: rs, x :: xs => resV P σ r x ∧ resAll P σ rs xs
  | [], [] => True
  | _, _ => False
def pack : List AV → AV
  | [x] => x
  | xs => .tup xs
def finQ (P : Program) (fn : Func) (res : AV) (E' : List Ent) : Exit → St → Prop
  | .ret, σ => ∃ xs π, resAll P σ fn.results.toList xs ∧ normOk σ.base σ.ents π = true ∧ res = (pack xs).back π ∧ E' = entsNorm σ.ents π
  | .normal, σ => ∃ xs π, resAll P σ fn.results.toList xs ∧ normOk σ.base σ.ents π = true ∧ res = (pack xs).back π ∧ E' = entsNorm σ.ents π
  | _, _ => False

def resSem (tmps : Array Value) : ResultVar → Sem Value
  | .tmp t => pure (tmps.getD t undef)
  | .cell t T => do loadVar T (← asAddr (tmps.getD t undef))
theorem resV_run {C : Cx} {ok : Nat → Prop} {H : List Hd} {a : Act} {w : World} (h : Holds C ok H σ a w) {r : ResultVar} {x : AV} (hr : resV P σ r x) :
    ∃ v, (resSem a.tmps r).run P w = .ok v w ∧ R ok w H x v := by
  cases r with
  | tmp t =>
    obtain rfl := hr
    exact ⟨_, rfl, h.slotAll t⟩
  | cell t T =>
    obtain ⟨k, cs, agg, n, hs, hk, hd, hT, hn, h1, rfl⟩ := hr
    have hp := hs ▸ h.slotAll t
    obtain ⟨hd', hh, hok⟩ := ent_at h.mem.ent h.mem.hlen hk
    obtain ⟨b, hb, hf, hx, hc⟩ := box_cells' hok hd
    generalize hu : a.tmps.getD t undef = u at hp
    cases hp with
    | ptr _ _ b' s hH =>
      rw [hh] at hH
      obtain rfl := Option.some.inj hH
      simp at hb
      subst hb
      show ∃ v, ((do loadVar T (← asAddr (a.tmps.getD t undef)) : Sem Value)).run P w = .ok v w ∧ _
      rw [hu]
      obtain ⟨v, hr, hD⟩ := load_run hT (off := 0) (by rw [getDs_length]; omega) h1 hf hx hc
      refine ⟨v, ?_, .d _ _ hD⟩
      simp only [Instr.loadAt, Instr.sureAddr, Sem.run_bind, Sem.run_pure, Result.andThen_ok, Nat.zero_add] at hr
      simp only [asAddr, Sem.run_bind, Sem.run_pure, Result.andThen_ok]
      exact hr

theorem resAll_run {C : Cx} {ok : Nat → Prop} {H : List Hd} {a : Act} {w : World} (h : Holds C ok H σ a w) : ∀ (rs : List ResultVar) (xs : List AV), resAll P σ rs xs →
    ∃ vs : List Value, (rs.mapM (resSem a.tmps)).run P w = .ok vs w ∧ vs.length = xs.length ∧ ∀ i, i < xs.length → R ok w H (xs.getD i .junk) (vs.getD i undef)
  | [], [], _ => ⟨[], rfl, rfl, fun i hi => by simp at hi⟩
  | [], _ :: _, h' => h'.elim
  | _ :: _, [], h' => h'.elim
  | r :: rs, x :: xs, h' => by
    obtain ⟨v, hv, hR⟩ := resV_run (P := P) h h'.1
    obtain ⟨vs, hvs, hl, hRs⟩ := resAll_run h rs xs h'.2
    refine ⟨v :: vs, ?_, by simp [hl], fun i hi => ?_⟩
    · simp only [List.mapM_cons, Sem.run_bind, hv, hvs, Result.andThen_ok, Sem.run_pure]
    · cases i with
      | zero => exact hR
      | succ i => simpa using hRs i (by simpa using hi)

theorem finQ_run {C : Cx} {ok : Nat → Prop} {H : List Hd} {a : Act} {w : World} (h : Holds C ok H σ a w) {fn : Func} {xs : List AV} (hr : resAll P σ fn.results.toList xs) :
    ∃ v, (results fn a.tmps).run P w = .ok v w ∧ R ok w H (pack xs) v := by
  obtain ⟨vs, hvs, hl, hR⟩ := resAll_run (P := P) h _ _ hr
  have hm : (results fn a.tmps).run P w = .ok (if h : vs.toArray.size = 1 then vs.toArray[0] else .tuple vs.toArray) w := by
    have e : results fn a.tmps = (do let vs ← fn.results.mapM (resSem a.tmps); pure (if h : vs.size = 1 then vs[0] else .tuple vs)) := rfl
    rw [e, Array.mapM_eq_mapM_toList]
    simp only [Sem.run_bind, Sem.run_map, hvs, Result.andThen_ok, Sem.run_pure]
  refine ⟨_, hm, ?_⟩
  match xs, hl, hR with
  | [x], hl, hR =>
    have h1 : vs.toArray.size = 1 := by simpa using hl
    rw [dif_pos h1]
    have := hR 0 (by simp)
    have e : vs.getD 0 undef = vs.toArray[0] := by
      have : 0 < vs.length := by simp [hl]
      simp [List.getD, this]
    rw [e] at this
    exact this
  | [], hl, hR =>
    have h1 : ¬ vs.toArray.size = 1 := by simp at hl; simp [hl]
    rw [dif_neg h1]
    exact .tup [] _ (by simpa using hl) (fun i hi => by simp at hi)
  | x :: y :: xs, hl, hR =>
    have h1 : ¬ vs.toArray.size = 1 := by simp at hl; simp [hl]
    rw [dif_neg h1]
    refine .tup _ _ (by simpa using hl) (fun i hi => ?_)
    have := hR i hi
    have hi2 : i < vs.length := by omega
    have e : vs.toArray.getD i undef = vs.getD i undef := by simp [Array.getD, List.getD, hi2]
    rw [e]
    exact this

theorem Runs.of_fin {f : FuncId} {fn : Func} {c : Code} {args : List AV} {E E' : List Ent} {res : AV} (hf : P.funcs[f]? = some fn) (hb : fn.body = some c)
    (h : SP P c (.enter args fn.ntmps E) (finQ P fn res E')) : Runs P f args E res E' := by
  intro ok X H w vals hm hs ha
  refine calls_of_wp hf hb (wp_mono (h.run ⟨w, ok, X, H⟩ ok H _ w ?_) ?_)
  · refine ⟨hm, ?_, rfl, hm.hlen, fun t ht => ?_⟩
    · simp [St.enter, hs]
    · simp only [St.enter]
      by_cases e : t < args.length
      · have e1 : (args ++ List.replicate (fn.ntmps - args.length) AV.junk).getD t .junk = args.getD t .junk := by simp [List.getD, List.getElem?_append_left e]
        have e2 : (vals ++ Array.replicate (fn.ntmps - vals.size) undef).getD t undef = vals.getD t undef := by
          simp [Array.getD_eq_getD_getElem?, Array.getElem?_append_left (show t < vals.size by omega)]
        rw [e1, e2]; exact ha t e
      · have e1 : (args ++ List.replicate (fn.ntmps - args.length) AV.junk).getD t .junk = .junk := by
          simp only [List.getD, List.getElem?_append_right (Nat.le_of_not_lt e), List.getElem?_replicate]
          split <;> rfl
        rw [e1]; exact .junk _
  · rintro e a' w' ⟨ok', H', σ', h1, h2⟩
    cases e with
    | ret =>
      obtain ⟨x, π, hx, hok, rfl, rfl⟩ := h2
      obtain ⟨v, hv, hR⟩ := finQ_run (P := P) h1 hx
      exact ⟨h1.defers, v, hv, v, ok', _, rfl, h1.mem.norm π (h1.base ▸ hok), hR.back π⟩
    | normal =>
      obtain ⟨x, π, hx, hok, rfl, rfl⟩ := h2
      obtain ⟨v, hv, hR⟩ := finQ_run (P := P) h1 hx
      exact ⟨h1.defers, v, hv, v, ok', _, rfl, h1.mem.norm π (h1.base ▸ hok), hR.back π⟩
    | _ => exact h2.elim

theorem SP.seqc {x y : Code} (hx : SP P x σ (seqQ (fun s => SP P y s Q) Q)) : SP P (.seq x y) σ Q := SP.seq _ hx (fun _ h => h)
theorem SP.join {x y : Code} (K : St → Prop) (hy : ∀ s, K s → SP P y s Q) (hx : (∀ s, K s → SP P y s Q) → SP P x σ (seqQ (fun s => SP P y s Q) Q)) : SP P (.seq x y) σ Q := SP.seq _ (hx hy) (fun _ h => h)
theorem SP.condT {c : Operand} {x y : Code} (hc : σ.get c = .d (.lit (.bool true))) (h : SP P x σ Q) : SP P (.cond c x y) σ Q := SP.cond true hc (fun _ => h) (fun h => by cases h)
theorem SP.condF {c : Operand} {x y : Code} (hc : σ.get c = .d (.lit (.bool false))) (h : SP P y σ Q) : SP P (.cond c x y) σ Q := SP.cond false hc (fun h => by cases h) (fun _ => h)
/-- A drawn region first. -/
theorem SP.dseq {id : Nat} {ops : Array Oper} {y : Code} {σ' : St} {rs : List AV} {ess : List (List Ent)} {bs : List Bool} (hm : P.follows .mixedOrders = true) (hcalm : (edgesOkB ops && dstsOk ops && slotsOk ops σ.slots.length && calmOk ops) = true) (hbars : barsOk ops bs = true)
    (h : SChain P ops ops.toList σ rs ess bs σ') (hy : SP P y σ' Q) : SP P (.seq (.region id ops true) y) σ Q :=
  SP.seq (fun s => s = σ') (.draw hm hcalm hbars h rfl) (fun _ e => e ▸ hy)
end

theorem SP.sub2 {P : Program} {σ : St} {Q : Exit → St → Prop} {c : Code} (S : St) (m : List Bool) (π : List (Nat × Bool)) (hok : normOk σ.base σ.ents π = true) (hS : S = ⟨slotsNorm π m σ.slots, entsNorm σ.ents π, σ.base⟩) (h : SP P c S Q) : SP P c σ Q := SP.sub ⟨m, π, hok, hS⟩ h

section
variable {P : Program} {o : Oper} {es : List Ent}
theorem ok_loadR {x : Operand} {t : TypeId} {agg : Bool} {n off : Nat} {cs : List D} {y : D} (hy : y = cellsVar agg cs off n) (hT : Ty P t agg n) (hn : off + n ≤ cs.length) (h1 : agg = false → n = 1) (ho : o.op = .load t x) : OpOk P o [(x, .d (.ref cs off))] es (.d y) es := hy ▸ ok_load_ref hT hn h1 ho
theorem ok_loadB {x : Operand} {t : TypeId} {agg : Bool} {k n off : Nat} {cs : List AV} {y : D} (hy : y = cellsVar agg (getDs cs) off n) (hk : es[k]? = some (.box cs)) (hd : cs.all AV.isD = true) (hT : Ty P t agg n) (hn : off + n ≤ cs.length) (h1 : agg = false → n = 1) (ho : o.op = .load t x) :
    OpOk P o [(x, .ptr k off)] es (.d y) es := hy ▸ ok_load_box hk hd hT hn h1 ho
theorem ok_fieldD {x : Operand} {t : TypeId} {f off n : Nat} {agg : Bool} {cs : List D} {y : D} (hy : y = cellsVar agg cs off n) (hp : partB P t f off agg n = true) (hn : off + n ≤ cs.length) (h1 : agg = false → n = 1) (ho : o.op = .field t x f) : OpOk P o [(x, .d (.agg cs))] es (.d y) es := hy ▸ ok_fieldV hp hn h1 ho
theorem ok_buildD {t : TypeId} {parts : Array (Nat × Operand)} {places : List (Nat × Nat)} {z : Value} {y : D} (hS : StructOk P t places z) (vs : List AV) (ho : o.op = .build t parts) (hy : y = .agg (getDs (fillA (fun (i : Nat) => places[i]?) (zCells z) parts.toList vs))) (hp : partsB (fun (i : Nat) => places[i]?) (zCells z).length parts.toList vs = true)
    (hd : (fillA (fun (i : Nat) => places[i]?) (zCells z) parts.toList vs).all AV.isD = true) : OpOk P o (partNeeds parts.toList vs) es (.d y) es := hy ▸ ok_build hS vs hp hd ho
theorem ok_convI {s t : TypeId} {x : Operand} {k0 k : IntKind} {n : Int} (hs : P.underlying s = some (.int k0)) (ht : P.underlying t = some (.int k)) (ho : o.op = .convert s t x) : OpOk P o [(x, .d (.lit (.int k0 n)))] es (.d (.lit (.int k (k.wrap n)))) es :=
  ok_conv ho fun w => by simp [convert, underlying, hs, ht, Conv.intToInt]
theorem ok_convS {s t : TypeId} {x : Operand} {u : ByteArray} (hs : P.underlying s = some .string) (ht : P.underlying t = some .string) (ho : o.op = .convert s t x) : OpOk P o [(x, .d (eS u))] es (.d (eS u)) es :=
  ok_conv ho fun w => by simp [convert, underlying, hs, ht]
theorem ok_eqb {t t' : TypeId} {x y : Operand} {a b : Bool} (ht : P.underlying t = some .bool) (ho : o.op = .binOp .eql t x y t') : OpOk P o [(x, .d (eB a)), (y, .d (eB b))] es (.d (eB (a == b))) es :=
  ok_bin (u := .bool a) (v := .bool b) (r := .bool (a == b)) ho (fun w => by
    show ((do pure (.bool (← Op.equal t (.bool a) (.bool b))) : Sem Value)).run P w = _
    simp only [Sem.run_bind, run_equal_bool w t a b ht, Result.andThen_ok, Sem.run_pure]) ⟨rfl, rfl⟩
theorem ok_neb {t t' : TypeId} {x y : Operand} {a b : Bool} (ht : P.underlying t = some .bool) (ho : o.op = .binOp .neq t x y t') : OpOk P o [(x, .d (eB a)), (y, .d (eB b))] es (.d (eB (!(a == b)))) es :=
  ok_bin (u := .bool a) (v := .bool b) (r := .bool (!(a == b))) ho (fun w => by
    show ((do pure (.bool (!(← Op.equal t (.bool a) (.bool b)))) : Sem Value)).run P w = _
    simp only [Sem.run_bind, run_equal_bool w t a b ht, Result.andThen_ok, Sem.run_pure]) ⟨rfl, rfl⟩
end

def loop1 {A Rr : Type} (body : (A → Option Rr) → A → Option Rr) : Nat → A → Option Rr
  | 0, _ => none
  | n + 1, a => body (loop1 body n) a
theorem SP.loop1 {P : Program} {σ : St} {Q : Exit → St → Prop} {cd : Code} {A Rr : Type} (S : A → St) (body : (A → Option Rr) → A → Option Rr) (r : Rr) (a0 : A) (hs : Sub σ (S a0)) (h : Go.Proofs.Ytdhhcmdofnjhiaa.loop1 body fuel a0 = some r)
    (round : ∀ (J : St → Prop) (k : A → Option Rr), (∀ σ' a, Sub σ' (S a) → k a = some r → J σ') → ∀ a, body k a = some r → SP P cd (S a) (seqQ J Q)) : SP P (.loop cd) σ Q := by
  refine SP.loop (fun n s => ∃ a, Sub s (S a) ∧ Go.Proofs.Ytdhhcmdofnjhiaa.loop1 body n a = some r) fuel ⟨a0, hs, h⟩ ?_
  rintro n s ⟨a, hsub, hL⟩
  refine SP.sub hsub ?_
  cases n with
  | zero => cases hL
  | succ n => exact round _ (Go.Proofs.Ytdhhcmdofnjhiaa.loop1 body n) (fun σ' a h1 h2 => ⟨n, Nat.lt_succ_self n, a, h1, h2⟩) a hL

def loop2 {A B Rr : Type} (body : (A → B → Option Rr) → A → B → Option Rr) : Nat → A → B → Option Rr
  | 0, _, _ => none
  | n + 1, a, b => body (loop2 body n) a b
theorem SP.loop2 {P : Program} {σ : St} {Q : Exit → St → Prop} {cd : Code} {A B Rr : Type} (S : A → B → St) (body : (A → B → Option Rr) → A → B → Option Rr) (r : Rr) (a0 : A) (b0 : B) (hs : Sub σ (S a0 b0)) (h : Go.Proofs.Ytdhhcmdofnjhiaa.loop2 body fuel a0 b0 = some r)
    (round : ∀ (J : St → Prop) (k : A → B → Option Rr), (∀ σ' a b, Sub σ' (S a b) → k a b = some r → J σ') → ∀ a b, body k a b = some r → SP P cd (S a b) (seqQ J Q)) : SP P (.loop cd) σ Q := by
  refine SP.loop (fun n s => ∃ a b, Sub s (S a b) ∧ Go.Proofs.Ytdhhcmdofnjhiaa.loop2 body n a b = some r) fuel ⟨a0, b0, hs, h⟩ ?_
  rintro n s ⟨a, b, hsub, hL⟩
  refine SP.sub hsub ?_
  cases n with
  | zero => cases hL
  | succ n => exact round _ (Go.Proofs.Ytdhhcmdofnjhiaa.loop2 body n) (fun σ' a b h1 h2 => ⟨n, Nat.lt_succ_self n, a, b, h1, h2⟩) a b hL

def loop3 {A B C Rr : Type} (body : (A → B → C → Option Rr) → A → B → C → Option Rr) : Nat → A → B → C → Option Rr
  | 0, _, _, _ => none
  | n + 1, a, b, c => body (loop3 body n) a b c
theorem SP.loop3 {P : Program} {σ : St} {Q : Exit → St → Prop} {cd : Code} {A B C Rr : Type} (S : A → B → C → St) (body : (A → B → C → Option Rr) → A → B → C → Option Rr) (r : Rr) (a0 : A) (b0 : B) (c0 : C) (hs : Sub σ (S a0 b0 c0)) (h : Go.Proofs.Ytdhhcmdofnjhiaa.loop3 body fuel a0 b0 c0 = some r)
    (round : ∀ (J : St → Prop) (k : A → B → C → Option Rr), (∀ σ' a b c, Sub σ' (S a b c) → k a b c = some r → J σ') → ∀ a b c, body k a b c = some r → SP P cd (S a b c) (seqQ J Q)) : SP P (.loop cd) σ Q := by
  refine SP.loop (fun n s => ∃ a b c, Sub s (S a b c) ∧ Go.Proofs.Ytdhhcmdofnjhiaa.loop3 body n a b c = some r) fuel ⟨a0, b0, c0, hs, h⟩ ?_
  rintro n s ⟨a, b, c, hsub, hL⟩
  refine SP.sub hsub ?_
  cases n with
  | zero => cases hL
  | succ n => exact round _ (Go.Proofs.Ytdhhcmdofnjhiaa.loop3 body n) (fun σ' a b c h1 h2 => ⟨n, Nat.lt_succ_self n, a, b, c, h1, h2⟩) a b c hL

def loop4 {A B C D Rr : Type} (body : (A → B → C → D → Option Rr) → A → B → C → D → Option Rr) : Nat → A → B → C → D → Option Rr
  | 0, _, _, _, _ => none
  | n + 1, a, b, c, d => body (loop4 body n) a b c d
theorem SP.loop4 {P : Program} {σ : St} {Q : Exit → St → Prop} {cd : Code} {A B C D Rr : Type} (S : A → B → C → D → St) (body : (A → B → C → D → Option Rr) → A → B → C → D → Option Rr) (r : Rr) (a0 : A) (b0 : B) (c0 : C) (d0 : D) (hs : Sub σ (S a0 b0 c0 d0)) (h : Go.Proofs.Ytdhhcmdofnjhiaa.loop4 body fuel a0 b0 c0 d0 = some r)
    (round : ∀ (J : St → Prop) (k : A → B → C → D → Option Rr), (∀ σ' a b c d, Sub σ' (S a b c d) → k a b c d = some r → J σ') → ∀ a b c d, body k a b c d = some r → SP P cd (S a b c d) (seqQ J Q)) : SP P (.loop cd) σ Q := by
  refine SP.loop (fun n s => ∃ a b c d, Sub s (S a b c d) ∧ Go.Proofs.Ytdhhcmdofnjhiaa.loop4 body n a b c d = some r) fuel ⟨a0, b0, c0, d0, hs, h⟩ ?_
  rintro n s ⟨a, b, c, d, hsub, hL⟩
  refine SP.sub hsub ?_
  cases n with
  | zero => cases hL
  | succ n => exact round _ (Go.Proofs.Ytdhhcmdofnjhiaa.loop4 body n) (fun σ' a b c d h1 h2 => ⟨n, Nat.lt_succ_self n, a, b, c, d, h1, h2⟩) a b c d hL

def loop5 {A B C D E Rr : Type} (body : (A → B → C → D → E → Option Rr) → A → B → C → D → E → Option Rr) : Nat → A → B → C → D → E → Option Rr
  | 0, _, _, _, _, _ => none
  | n + 1, a, b, c, d, e => body (loop5 body n) a b c d e
theorem SP.loop5 {P : Program} {σ : St} {Q : Exit → St → Prop} {cd : Code} {A B C D E Rr : Type} (S : A → B → C → D → E → St) (body : (A → B → C → D → E → Option Rr) → A → B → C → D → E → Option Rr) (r : Rr) (a0 : A) (b0 : B) (c0 : C) (d0 : D) (e0 : E) (hs : Sub σ (S a0 b0 c0 d0 e0)) (h : Go.Proofs.Ytdhhcmdofnjhiaa.loop5 body fuel a0 b0 c0 d0 e0 = some r)
    (round : ∀ (J : St → Prop) (k : A → B → C → D → E → Option Rr), (∀ σ' a b c d e, Sub σ' (S a b c d e) → k a b c d e = some r → J σ') → ∀ a b c d e, body k a b c d e = some r → SP P cd (S a b c d e) (seqQ J Q)) : SP P (.loop cd) σ Q := by
  refine SP.loop (fun n s => ∃ a b c d e, Sub s (S a b c d e) ∧ Go.Proofs.Ytdhhcmdofnjhiaa.loop5 body n a b c d e = some r) fuel ⟨a0, b0, c0, d0, e0, hs, h⟩ ?_
  rintro n s ⟨a, b, c, d, e, hsub, hL⟩
  refine SP.sub hsub ?_
  cases n with
  | zero => cases hL
  | succ n => exact round _ (Go.Proofs.Ytdhhcmdofnjhiaa.loop5 body n) (fun σ' a b c d e h1 h2 => ⟨n, Nat.lt_succ_self n, a, b, c, d, e, h1, h2⟩) a b c d e hL

def loop6 {A B C D E F Rr : Type} (body : (A → B → C → D → E → F → Option Rr) → A → B → C → D → E → F → Option Rr) : Nat → A → B → C → D → E → F → Option Rr
  | 0, _, _, _, _, _, _ => none
  | n + 1, a, b, c, d, e, f => body (loop6 body n) a b c d e f
theorem SP.loop6 {P : Program} {σ : St} {Q : Exit → St → Prop} {cd : Code} {A B C D E F Rr : Type} (S : A → B → C → D → E → F → St) (body : (A → B → C → D → E → F → Option Rr) → A → B → C → D → E → F → Option Rr) (r : Rr) (a0 : A) (b0 : B) (c0 : C) (d0 : D) (e0 : E) (f0 : F) (hs : Sub σ (S a0 b0 c0 d0 e0 f0)) (h : Go.Proofs.Ytdhhcmdofnjhiaa.loop6 body fuel a0 b0 c0 d0 e0 f0 = some r)
    (round : ∀ (J : St → Prop) (k : A → B → C → D → E → F → Option Rr), (∀ σ' a b c d e f, Sub σ' (S a b c d e f) → k a b c d e f = some r → J σ') → ∀ a b c d e f, body k a b c d e f = some r → SP P cd (S a b c d e f) (seqQ J Q)) : SP P (.loop cd) σ Q := by
  refine SP.loop (fun n s => ∃ a b c d e f, Sub s (S a b c d e f) ∧ Go.Proofs.Ytdhhcmdofnjhiaa.loop6 body n a b c d e f = some r) fuel ⟨a0, b0, c0, d0, e0, f0, hs, h⟩ ?_
  rintro n s ⟨a, b, c, d, e, f, hsub, hL⟩
  refine SP.sub hsub ?_
  cases n with
  | zero => cases hL
  | succ n => exact round _ (Go.Proofs.Ytdhhcmdofnjhiaa.loop6 body n) (fun σ' a b c d e f h1 h2 => ⟨n, Nat.lt_succ_self n, a, b, c, d, e, f, h1, h2⟩) a b c d e f hL

def loop7 {A B C D E F G Rr : Type} (body : (A → B → C → D → E → F → G → Option Rr) → A → B → C → D → E → F → G → Option Rr) : Nat → A → B → C → D → E → F → G → Option Rr
  | 0, _, _, _, _, _, _, _ => none
  | n + 1, a, b, c, d, e, f, g => body (loop7 body n) a b c d e f g
theorem SP.loop7 {P : Program} {σ : St} {Q : Exit → St → Prop} {cd : Code} {A B C D E F G Rr : Type} (S : A → B → C → D → E → F → G → St) (body : (A → B → C → D → E → F → G → Option Rr) → A → B → C → D → E → F → G → Option Rr) (r : Rr) (a0 : A) (b0 : B) (c0 : C) (d0 : D) (e0 : E) (f0 : F) (g0 : G) (hs : Sub σ (S a0 b0 c0 d0 e0 f0 g0)) (h : Go.Proofs.Ytdhhcmdofnjhiaa.loop7 body fuel a0 b0 c0 d0 e0 f0 g0 = some r)
    (round : ∀ (J : St → Prop) (k : A → B → C → D → E → F → G → Option Rr), (∀ σ' a b c d e f g, Sub σ' (S a b c d e f g) → k a b c d e f g = some r → J σ') → ∀ a b c d e f g, body k a b c d e f g = some r → SP P cd (S a b c d e f g) (seqQ J Q)) : SP P (.loop cd) σ Q := by
  refine SP.loop (fun n s => ∃ a b c d e f g, Sub s (S a b c d e f g) ∧ Go.Proofs.Ytdhhcmdofnjhiaa.loop7 body n a b c d e f g = some r) fuel ⟨a0, b0, c0, d0, e0, f0, g0, hs, h⟩ ?_
  rintro n s ⟨a, b, c, d, e, f, g, hsub, hL⟩
  refine SP.sub hsub ?_
  cases n with
  | zero => cases hL
  | succ n => exact round _ (Go.Proofs.Ytdhhcmdofnjhiaa.loop7 body n) (fun σ' a b c d e f g h1 h2 => ⟨n, Nat.lt_succ_self n, a, b, c, d, e, f, g, h1, h2⟩) a b c d e f g hL

def loop8 {A B C D E F G I Rr : Type} (body : (A → B → C → D → E → F → G → I → Option Rr) → A → B → C → D → E → F → G → I → Option Rr) : Nat → A → B → C → D → E → F → G → I → Option Rr
  | 0, _, _, _, _, _, _, _, _ => none
  | n + 1, a, b, c, d, e, f, g, i => body (loop8 body n) a b c d e f g i
theorem SP.loop8 {P : Program} {σ : St} {Q : Exit → St → Prop} {cd : Code} {A B C D E F G I Rr : Type} (S : A → B → C → D → E → F → G → I → St) (body : (A → B → C → D → E → F → G → I → Option Rr) → A → B → C → D → E → F → G → I → Option Rr) (r : Rr) (a0 : A) (b0 : B) (c0 : C) (d0 : D) (e0 : E) (f0 : F) (g0 : G) (i0 : I) (hs : Sub σ (S a0 b0 c0 d0 e0 f0 g0 i0)) (h : Go.Proofs.Ytdhhcmdofnjhiaa.loop8 body fuel a0 b0 c0 d0 e0 f0 g0 i0 = some r)
    (round : ∀ (J : St → Prop) (k : A → B → C → D → E → F → G → I → Option Rr), (∀ σ' a b c d e f g i, Sub σ' (S a b c d e f g i) → k a b c d e f g i = some r → J σ') → ∀ a b c d e f g i, body k a b c d e f g i = some r → SP P cd (S a b c d e f g i) (seqQ J Q)) : SP P (.loop cd) σ Q := by
  refine SP.loop (fun n s => ∃ a b c d e f g i, Sub s (S a b c d e f g i) ∧ Go.Proofs.Ytdhhcmdofnjhiaa.loop8 body n a b c d e f g i = some r) fuel ⟨a0, b0, c0, d0, e0, f0, g0, i0, hs, h⟩ ?_
  rintro n s ⟨a, b, c, d, e, f, g, i, hsub, hL⟩
  refine SP.sub hsub ?_
  cases n with
  | zero => cases hL
  | succ n => exact round _ (Go.Proofs.Ytdhhcmdofnjhiaa.loop8 body n) (fun σ' a b c d e f g i h1 h2 => ⟨n, Nat.lt_succ_self n, a, b, c, d, e, f, g, i, h1, h2⟩) a b c d e f g i hL

def loop9 {A B C D E F G I L Rr : Type} (body : (A → B → C → D → E → F → G → I → L → Option Rr) → A → B → C → D → E → F → G → I → L → Option Rr) : Nat → A → B → C → D → E → F → G → I → L → Option Rr
  | 0, _, _, _, _, _, _, _, _, _ => none
  | n + 1, a, b, c, d, e, f, g, i, l => body (loop9 body n) a b c d e f g i l
theorem SP.loop9 {P : Program} {σ : St} {Q : Exit → St → Prop} {cd : Code} {A B C D E F G I L Rr : Type} (S : A → B → C → D → E → F → G → I → L → St) (body : (A → B → C → D → E → F → G → I → L → Option Rr) → A → B → C → D → E → F → G → I → L → Option Rr) (r : Rr) (a0 : A) (b0 : B) (c0 : C) (d0 : D) (e0 : E) (f0 : F) (g0 : G) (i0 : I) (l0 : L) (hs : Sub σ (S a0 b0 c0 d0 e0 f0 g0 i0 l0)) (h : Go.Proofs.Ytdhhcmdofnjhiaa.loop9 body fuel a0 b0 c0 d0 e0 f0 g0 i0 l0 = some r)
    (round : ∀ (J : St → Prop) (k : A → B → C → D → E → F → G → I → L → Option Rr), (∀ σ' a b c d e f g i l, Sub σ' (S a b c d e f g i l) → k a b c d e f g i l = some r → J σ') → ∀ a b c d e f g i l, body k a b c d e f g i l = some r → SP P cd (S a b c d e f g i l) (seqQ J Q)) : SP P (.loop cd) σ Q := by
  refine SP.loop (fun n s => ∃ a b c d e f g i l, Sub s (S a b c d e f g i l) ∧ Go.Proofs.Ytdhhcmdofnjhiaa.loop9 body n a b c d e f g i l = some r) fuel ⟨a0, b0, c0, d0, e0, f0, g0, i0, l0, hs, h⟩ ?_
  rintro n s ⟨a, b, c, d, e, f, g, i, l, hsub, hL⟩
  refine SP.sub hsub ?_
  cases n with
  | zero => cases hL
  | succ n => exact round _ (Go.Proofs.Ytdhhcmdofnjhiaa.loop9 body n) (fun σ' a b c d e f g i l h1 h2 => ⟨n, Nat.lt_succ_self n, a, b, c, d, e, f, g, i, l, h1, h2⟩) a b c d e f g i l hL
end Go.Proofs.Ytdhhcmdofnjhiaa
