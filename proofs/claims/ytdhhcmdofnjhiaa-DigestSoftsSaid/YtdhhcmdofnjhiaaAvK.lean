/- Calls over abstract states; an own row given up for a datum. No program's code. No condition. -/
import Derived.Test.YtdhhcmdofnjhiaaAvB
import Derived.Test.YtdhhcmdofnjhiaaStabK
namespace Go.Proofs.Ytdhhcmdofnjhiaa
open Go.RowKit

/-- Where a callee's entity comes from: an entity of the caller's, or nil. -/
inductive Sr where
  | ent (k : Nat)
  | nil (size : Nat)

def Sr.hd (H : List Hd) : Sr → Hd
  | .ent k => H.getD k ⟨undef, 0⟩
  | .nil s => ⟨.slice none 0 0, s⟩

/-- A value of the callee's, in the caller's names: n entities are there. -/
def AV.up1 (srcs : List Sr) (n : Nat) : AV → AV
  | .d x => .d x
  | .ptr k off => match srcs[k]? with | some (.ent j) => .ptr j off | some (.nil _) => .junk | none => .ptr (n + (k - srcs.length)) off
  | .osl k => match srcs[k]? with | some (.ent j) => .osl j | some (.nil _) => .junk | none => .osl (n + (k - srcs.length))
  | .eptr k i off => match srcs[k]? with | some (.ent j) => .eptr j i off | some (.nil _) => .junk | none => .eptr (n + (k - srcs.length)) i off
  | _ => .junk
def AV.up (srcs : List Sr) (n : Nat) : AV → AV
  | .tup xs => .tup (xs.map (AV.up1 srcs n))
  | x => x.up1 srcs n

/-- An argument: as the caller has it, as the callee has it. -/
def argOk1 (srcs : List Sr) : AV → AV → Prop
  | .d x, y => y = .d x
  | .ptr k off, y => ∃ i, y = .ptr i off ∧ srcs[i]? = some (.ent k)
  | _, _ => False
def argsOk1 (srcs : List Sr) : List AV → List AV → Prop
  | x :: xs, y :: ys => argOk1 srcs x y ∧ argsOk1 srcs xs ys
  | [], [] => True
  | _, _ => False
theorem args1_len {srcs : List Sr} : ∀ {xs ys : List AV}, argsOk1 srcs xs ys → xs.length = ys.length
  | [], [], _ => rfl
  | _ :: xs, _ :: ys, h => by simp [args1_len h.2]
  | [], _ :: _, h => h.elim
  | _ :: _, [], h => h.elim
theorem arg1_get {srcs : List Sr} : ∀ {xs ys : List AV}, argsOk1 srcs xs ys → ∀ i, i < ys.length → argOk1 srcs (xs.getD i .junk) (ys.getD i .junk)
  | [], [], _, i, hi => by simp at hi
  | _ :: xs, _ :: ys, h, 0, _ => by simpa using h.1
  | _ :: xs, _ :: ys, h, i + 1, hi => by simpa using arg1_get h.2 i (by simpa using hi)
  | [], _ :: _, h, _, _ => h.elim
  | _ :: _, [], h, _, _ => h.elim
def argOk (srcs : List Sr) : AV → AV → Prop
  | .fn f fi ca, y => ∃ fi' ca', y = .fn f fi' ca' ∧ argsOk1 srcs fi fi' ∧ argsOk1 srcs ca ca'
  | .d x, y => y = .d x ∨ (∃ i s, x = .lit (.slice none 0 0) ∧ y = .osl i ∧ srcs[i]? = some (.nil s)) ∨ (x = .lit (.slice none 0 0) ∧ y = .d (.sl []))
  | .osl k, y => ∃ i, y = .osl i ∧ srcs[i]? = some (.ent k)
  | .ptr k off, y => ∃ i, y = .ptr i off ∧ srcs[i]? = some (.ent k)
  | _, _ => False

def Ent.closed : Ent → Bool
  | .box cs => cs.all AV.isD
  | _ => true

theorem EntOk.any {ok : Nat → Prop} {w : World} {H H2 : List Hd} {h : Hd} {e : Ent} (he : EntOk ok w H h e) (hc : e.closed = true) : EntOk ok w H2 h e := by
  cases e with
  | dead => trivial
  | box cs =>
    obtain ⟨b, vs, T, h1, h2, h3, h4⟩ := he
    refine ⟨b, vs, T, h1, h2, h3, fun i hi => ⟨(h4 i hi).1, ?_⟩⟩
    have h5 := (h4 i hi).2
    simp only [Ent.closed, List.all_eq_true] at hc
    have h6 := hc (cs.getD i .junk) (by simp [List.getD, hi])
    cases hx : cs.getD i .junk with
    | d x => rw [hx] at h5; cases h5 with | d _ _ h => exact .d _ _ h
    | _ => rw [hx] at h6; simp [AV.isD] at h6
  | arr e s es =>
    obtain ⟨h1, h2, xs, h3, h4, h5⟩ := he
    refine ⟨h1, h2, xs, h3, h4, fun i hi => ⟨(h5 i hi).1, ?_⟩⟩
    have h6 := (h5 i hi).2
    have hm : (flat es).getD i .junk ∈ flat es := by simp [List.getD, hi]
    unfold flat at hm ⊢
    simp only [List.mem_flatMap, List.mem_map] at hm
    obtain ⟨x, _, y, _, hy⟩ := hm
    unfold flat at h6
    rw [← hy] at h6 ⊢
    cases h6 with | d _ _ h => exact .d _ _ h

/-- The caller's entities behind the call. -/
def entsUp (srcs : List Sr) (es E' : List Ent) : List Ent :=
  (es.zipIdx.map fun (e, j) => match srcs.findIdx? (fun s => match s with | .ent k => k == j | .nil _ => false) with | some i => E'.getD i .dead | none => e) ++ E'.drop srcs.length

def srcsB (srcs : List Sr) (es E E' : List Ent) : Bool :=
  decide (srcs.length = E.length) && decide (srcs.length ≤ E'.length) && E.all Ent.closed && E'.all Ent.closed &&
  decide ((srcs.filterMap fun s => match s with | .ent k => some k | .nil _ => none).Nodup) &&
  ((srcs.zip E').all fun p => match p.1 with | .ent _ => true | .nil _ => !p.2.live) && (srcs.all fun s => match s with | .ent k => decide (k < es.length) && (es.getD k .dead).live | .nil _ => true)

/-- The callee's entities, out of the caller's. -/
def entsDown (srcs : List Sr) (es : List Ent) : List Ent → Prop
  | E => ∀ (i : Nat) (s : Sr), srcs[i]? = some s → match s with | .ent k => E[i]? = es[k]? | .nil sz => ∃ e, E[i]? = some (.arr e sz [])

theorem up1_ok {ok : Nat → Prop} {w : World} {H Hc H' : List Hd} {srcs : List Sr} {x : AV} {v : Value} (hc : Hc = srcs.map (Sr.hd H)) (hlt : ∀ (i k : Nat), srcs[i]? = some (.ent k) → k < H.length) (hn : Names Hc H') (h : R ok w H' x v) : R ok w (H ++ H'.drop srcs.length) (x.up1 srcs H.length) v := by
  have key : ∀ (k : Nat) (hd : Hd), H'[k]? = some hd → (∀ (j : Nat), srcs[k]? = some (.ent j) → (H ++ H'.drop srcs.length)[j]? = some hd) ∧ (srcs[k]? = none → (H ++ H'.drop srcs.length)[H.length + (k - srcs.length)]? = some hd) := by
    intro k hd hk
    refine ⟨fun j hj => ?_, fun hno => ?_⟩
    · have hjl := hlt k j hj
      have h1 : Hc[k]? = some (H.getD j ⟨undef, 0⟩) := by rw [hc, List.getElem?_map, hj]; rfl
      have h2 := hn _ _ h1
      rw [hk] at h2
      rw [List.getElem?_append_left hjl]
      simp [List.getD, hjl] at h2
      simp [hjl, h2]
    · have hk2 : srcs.length ≤ k := by simpa using hno
      rw [List.getElem?_append_right (by omega), List.getElem?_drop]
      have : srcs.length + (H.length + (k - srcs.length) - H.length) = k := by omega
      rw [this, hk]
  cases h with
  | d x v h => exact .d x v h
  | ptr k off b s h =>
    obtain ⟨h1, h2⟩ := key k _ h
    simp only [AV.up1]
    split <;> rename_i hs
    · exact .ptr _ off b s (h1 _ hs)
    · exact .junk _
    · exact .ptr _ off b s (h2 hs)
  | osl k ad n cap s h =>
    obtain ⟨h1, h2⟩ := key k _ h
    simp only [AV.up1]
    split <;> rename_i hs
    · exact .osl _ ad n cap s (h1 _ hs)
    · exact .junk _
    · exact .osl _ ad n cap s (h2 hs)
  | eptr k i off b n cap s h =>
    obtain ⟨h1, h2⟩ := key k _ h
    simp only [AV.up1]
    split <;> rename_i hs
    · exact .eptr _ i off b n cap s (h1 _ hs)
    · exact .junk _
    · exact .eptr _ i off b n cap s (h2 hs)
  | fn f first cap vs us hl hm h h' => exact .junk _
  | tup xs vs hl h => exact .junk _
  | junk v => exact .junk _

theorem up_ok {ok : Nat → Prop} {w : World} {H Hc H' : List Hd} {srcs : List Sr} {x : AV} {v : Value} (hc : Hc = srcs.map (Sr.hd H)) (hlt : ∀ (i k : Nat), srcs[i]? = some (.ent k) → k < H.length) (hn : Names Hc H') (h : R ok w H' x v) : R ok w (H ++ H'.drop srcs.length) (x.up srcs H.length) v := by
  cases h with
  | tup xs vs hl h => exact .tup _ vs (by simp [hl]) (fun i hi => by rw [List.length_map] at hi; rw [getD_map_junk _ _ _ hi]; exact up1_ok hc hlt hn (h i hi))
  | d x v h => exact up1_ok hc hlt hn (.d x v h)
  | ptr k off b s h => exact up1_ok hc hlt hn (.ptr k off b s h)
  | osl k ad n cap s h => exact up1_ok hc hlt hn (.osl k ad n cap s h)
  | eptr k i off b n cap s h => exact up1_ok hc hlt hn (.eptr k i off b n cap s h)
  | fn f first cap vs us hl hm h h' => exact .junk _
  | junk v => exact .junk _

/-- What a call's arguments are asked to be. -/
def argNeeds : List Operand → List AV → List (Operand × AV)
  | x :: xs, v :: vs => (x, v) :: argNeeds xs vs
  | _, _ => []
def argsOk (srcs : List Sr) : List AV → List AV → Prop
  | x :: xs, y :: ys => argOk srcs x y ∧ argsOk srcs xs ys
  | [], [] => True
  | _, _ => False

theorem args_len {srcs : List Sr} : ∀ {xs ys : List AV}, argsOk srcs xs ys → xs.length = ys.length
  | [], [], _ => rfl
  | _ :: xs, _ :: ys, h => by simp [args_len h.2]
  | [], _ :: _, h => h.elim
  | _ :: _, [], h => h.elim

theorem arg_get {srcs : List Sr} {ops : List Operand} : ∀ {xs ys : List AV}, ops.length = xs.length → argsOk srcs xs ys → ∀ i, i < ys.length → ∃ o x, ops[i]? = some o ∧ (o, x) ∈ argNeeds ops xs ∧ argOk srcs x (ys.getD i .junk) := by
  induction ops with
  | nil =>
    intro xs ys hl h i hi
    cases xs with
    | nil => cases ys with | nil => simp at hi | cons _ _ => exact h.elim
    | cons _ _ => simp at hl
  | cons o ops ih =>
    intro xs ys hl h i hi
    cases xs with
    | nil => simp at hl
    | cons x xs =>
      cases ys with
      | nil => exact h.elim
      | cons y ys =>
        cases i with
        | zero => exact ⟨o, x, rfl, by simp [argNeeds], h.1⟩
        | succ i =>
          obtain ⟨o', x', h1, h2, h3⟩ := ih (by simpa using hl) h.2 i (by simpa using hi)
          exact ⟨o', x', by simpa using h1, by simp [argNeeds, h2], by simpa using h3⟩

theorem mem_blocks {srcs : List Sr} {H : List Hd} {b : Nat} : b ∈ (srcs.filterMap fun s => match s with | .ent k => blkOf (H.getD k ⟨undef, 0⟩).v | .nil _ => none) ↔ ∃ k, .ent k ∈ srcs ∧ blkOf (H.getD k ⟨undef, 0⟩).v = some b := by
  rw [List.mem_filterMap]
  constructor
  · rintro ⟨s, hs, h⟩
    cases s with
    | ent k => exact ⟨k, hs, h⟩
    | nil _ => cases h
  · rintro ⟨k, hs, h⟩
    exact ⟨_, hs, h⟩

section
variable {P : Program} {o : Oper} {es : List Ent}

theorem nodup_idx : ∀ {srcs : List Sr}, (srcs.filterMap fun s => match s with | .ent k => some k | .nil _ => none).Nodup → ∀ (i j k : Nat), srcs[i]? = some (.ent k) → srcs[j]? = some (.ent k) → i = j
  | [], _, i, j, k, h, _ => by simp at h
  | s :: srcs, hn, i, j, k, hi, hj => by
    have hmem : ∀ (n : Nat), srcs[n]? = some (.ent k) → k ∈ srcs.filterMap fun s => match s with | .ent k => some k | .nil _ => none := fun n h => by
      rw [List.mem_filterMap]; exact ⟨_, List.mem_of_getElem? h, rfl⟩
    have hn2 : (srcs.filterMap fun s => match s with | .ent k => some k | .nil _ => none).Nodup := by
      cases s with
      | ent k' => simp only [List.filterMap_cons] at hn; exact (List.nodup_cons.1 hn).2
      | nil _ => simpa only [List.filterMap_cons] using hn
    match i, j with
    | 0, 0 => rfl
    | 0, j + 1 =>
      simp at hi hj
      subst hi
      simp only [List.filterMap_cons] at hn
      exact absurd (hmem j hj) (List.nodup_cons.1 hn).1
    | i + 1, 0 =>
      simp at hi hj
      subst hj
      simp only [List.filterMap_cons] at hn
      exact absurd (hmem i hi) (List.nodup_cons.1 hn).1
    | i + 1, j + 1 => rw [nodup_idx hn2 i j k (by simpa using hi) (by simpa using hj)]

/-- A call of a function that is known. -/
theorem call_core {f : FuncId} {C : Cx} {ok : Nat → Prop} {H : List Hd} {w : World} (hm : Mem C ok H es w) (srcs : List Sr) {avs avs' : List AV} {E E' : List Ent} {res : AV} (hr : Runs P f avs' E res E')
    (hb : srcsB srcs es E E' = true) (hE : entsDown srcs es E) (ha : argsOk srcs avs avs') {ops : List Operand} (hl : ops.length = avs.length) {a : Act} (hn : ∀ n ∈ argNeeds ops avs, R ok w H n.2 (a.eval n.1)) :
    Calls P f (ops.map a.eval).toArray w fun e w' => ∃ v ok' H', e = .returned v ∧ Grow ok w ok' w' ∧ Names H H' ∧ Mem C ok' H' (entsUp srcs es E') w' ∧ R ok' w' H' (res.up srcs es.length) v := by
  unfold srcsB at hb
  simp only [Bool.and_eq_true, decide_eq_true_eq, List.all_eq_true] at hb
  obtain ⟨⟨⟨⟨⟨⟨hb1, hb2⟩, hb3⟩, hb4⟩, hb5⟩, hb6⟩, hb7⟩ := hb
  have hidx := nodup_idx hb5
  let Hc := srcs.map (Sr.hd H)
  let X := srcs.filterMap fun s => match s with | .ent k => blkOf (H.getD k ⟨undef, 0⟩).v | .nil _ => none
  have hX : ∀ b, b ∈ X ↔ ∃ k, .ent k ∈ srcs ∧ blkOf (H.getD k ⟨undef, 0⟩).v = some b := fun b => mem_blocks
  have hsrc : ∀ (i k : Nat), srcs[i]? = some (.ent k) → k < es.length ∧ (es.getD k .dead).live = true := by
    intro i k hi
    have := hb7 _ (List.mem_of_getElem? hi)
    simpa using this
  have hlt : ∀ (i k : Nat), srcs[i]? = some (.ent k) → k < H.length := fun i k hi => by rw [hm.hlen]; exact (hsrc i k hi).1
  have hHk : ∀ (k : Nat), k < H.length → H[k]? = some (H.getD k ⟨undef, 0⟩) := fun k hk => by simp [List.getD, hk]
  have hesk : ∀ (k : Nat), k < es.length → es[k]? = some (es.getD k .dead) := fun k hk => by simp [List.getD, hk]
  -- a block of X is a live entity's
  have hXlive : ∀ b, b ∈ X → ∃ (i k : Nat), srcs[i]? = some (.ent k) ∧ blkOf (H.getD k ⟨undef, 0⟩).v = some b ∧ ¬ ok b ∧ b < w.heap.size ∧ (C.w0.heap.size ≤ b ∨ b ∈ C.X) := by
    intro b hb
    obtain ⟨k, hk, hbk⟩ := (hX b).1 hb
    obtain ⟨i, hi, he⟩ := List.getElem_of_mem hk
    have hi' : srcs[i]? = some (.ent k) := by simp [hi, he]
    have := hm.blk k _ _ b (hesk k (hsrc i k hi').1) (hsrc i k hi').2 (hHk k (hlt i k hi')) hbk
    exact ⟨i, k, hi', hbk, this⟩
  have hmc : Mem ⟨w, ok, X, Hc⟩ ok Hc E w := by
    refine ⟨.refl _ _, fun _ h => h, fun _ h => .inl h, hm.okLt, .refl _, by simp [Hc, hb1], ?_, ?_, ?_⟩
    · intro i e h he hh
      have hi : i < srcs.length := by rw [hb1]; exact (List.getElem?_eq_some_iff.1 he).1
      have hcl : e.closed = true := hb3 e (List.mem_of_getElem? he)
      have hs : srcs[i]? = some srcs[i] := by simp [hi]
      have hd := hE i _ hs
      simp only [Hc, List.getElem?_map, hs, Option.map_some, Option.some.injEq] at hh
      cases hsi : srcs[i] with
      | ent k =>
        rw [hsi] at hd hh hs
        simp only [Sr.hd] at hh
        subst hh
        simp only at hd
        rw [he] at hd
        exact (hm.ent k e _ hd.symm (hHk k (hlt i k hs))).any hcl
      | nil sz =>
        rw [hsi] at hd hh
        simp only [Sr.hd] at hh
        subst hh
        obtain ⟨e', he'⟩ := hd
        rw [he] at he'
        obtain rfl := Option.some.inj he'
        exact ⟨rfl, by simp, [], ⟨by simp, .inl ⟨rfl, rfl⟩⟩, by simp [flat], fun i hi => by simp [flat] at hi⟩
    · intro i e h b he hlv hh hbl
      have hi : i < srcs.length := by rw [hb1]; exact (List.getElem?_eq_some_iff.1 he).1
      have hs : srcs[i]? = some srcs[i] := by simp [hi]
      simp only [Hc, List.getElem?_map, hs, Option.map_some, Option.some.injEq] at hh
      cases hsi : srcs[i] with
      | ent k =>
        rw [hsi] at hh hs
        simp only [Sr.hd] at hh
        subst hh
        have hbX : b ∈ X := (hX b).2 ⟨k, List.mem_of_getElem? hs, hbl⟩
        obtain ⟨_, _, _, _, h1, h2, _⟩ := hXlive b hbX
        exact ⟨h1, h2, .inr hbX⟩
      | nil sz =>
        rw [hsi] at hh
        simp only [Sr.hd] at hh
        subst hh
        simp [blkOf] at hbl
    · intro i j e e' h h' b he he' hlv hlv' hh hh' hbl hbl'
      have hi : i < srcs.length := by rw [hb1]; exact (List.getElem?_eq_some_iff.1 he).1
      have hj : j < srcs.length := by rw [hb1]; exact (List.getElem?_eq_some_iff.1 he').1
      have hs : srcs[i]? = some srcs[i] := by simp [hi]
      have hs' : srcs[j]? = some srcs[j] := by simp [hj]
      simp only [Hc, List.getElem?_map, hs, Option.map_some, Option.some.injEq] at hh
      simp only [Hc, List.getElem?_map, hs', Option.map_some, Option.some.injEq] at hh'
      cases hsi : srcs[i] with
      | nil sz => rw [hsi] at hh; simp only [Sr.hd] at hh; subst hh; simp [blkOf] at hbl
      | ent k =>
        cases hsj : srcs[j] with
        | nil sz => rw [hsj] at hh'; simp only [Sr.hd] at hh'; subst hh'; simp [blkOf] at hbl'
        | ent k' =>
          rw [hsi] at hh hs
          rw [hsj] at hh' hs'
          simp only [Sr.hd] at hh hh'
          subst hh; subst hh'
          have hkk := hm.dis k k' _ _ _ _ b (hesk k (hsrc i k hs).1) (hesk k' (hsrc j k' hs').1) (hsrc i k hs).2 (hsrc j k' hs').2 (hHk k (hlt i k hs)) (hHk k' (hlt j k' hs')) hbl hbl'
          subst hkk
          exact hidx i j k hs hs'
  have hargs : ∀ i, i < avs'.length → R ok w Hc (avs'.getD i .junk) ((ops.map a.eval).toArray.getD i undef) := by
    intro i hi
    obtain ⟨op, x, ho, hmem, harg⟩ := arg_get hl ha i hi
    have hR := hn _ hmem
    have e : (ops.map a.eval).toArray.getD i undef = a.eval op := by
      obtain ⟨h1, h2⟩ := List.getElem?_eq_some_iff.1 ho
      simp [Array.getD, h1, h2]
    rw [e]
    simp only at hR
    generalize avs'.getD i .junk = y at harg ⊢
    generalize a.eval op = u at hR ⊢
    have hHc : ∀ (j : Nat) (s : Sr), srcs[j]? = some s → Hc[j]? = some (Sr.hd H s) := fun j s hs => by simp [Hc, hs]
    cases x with
    | d x =>
      rcases harg with rfl | ⟨j, s, rfl, rfl, hs⟩ | ⟨rfl, rfl⟩
      · cases hR with | d _ _ h => exact .d _ _ h
      · have := hR.lit
        rw [this]
        exact .osl j none 0 0 s (hHc j _ hs)
      · have := hR.lit
        rw [this]
        exact .d _ _ (.sl0 none 0)
    | osl k =>
      obtain ⟨j, rfl, hs⟩ := harg
      cases hR with
      | osl _ ad n cap s hH =>
        refine .osl j ad n cap s ?_
        rw [hHc j _ hs]
        simp [Sr.hd, List.getD, hH]
    | ptr k off =>
      obtain ⟨j, rfl, hs⟩ := harg
      cases hR with
      | ptr _ _ b s hH =>
        refine .ptr j off b s ?_
        rw [hHc j _ hs]
        simp [Sr.hd, List.getD, hH]
    | fn f fi ca =>
      obtain ⟨fi', ca', rfl, h1, h2⟩ := harg
      have one : ∀ (x y : AV) (v : Value), argOk1 srcs x y → R ok w H x v → R ok w Hc y v := by
        intro x y v hxy hx
        cases x with
        | d x => obtain rfl := hxy; cases hx with | d _ _ h => exact .d _ _ h
        | ptr k off =>
          obtain ⟨j, rfl, hs⟩ := hxy
          cases hx with
          | ptr _ _ b s hH =>
            refine .ptr j off b s ?_
            rw [hHc j _ hs]
            simp [Sr.hd, List.getD, hH]
        | _ => exact hxy.elim
      cases hR with
      | fn _ _ _ vs us hl1 hl2 h3 h4 =>
        refine .fn f fi' ca' vs us (by rw [hl1, args1_len h1]) (by rw [hl2, args1_len h2]) (fun i hi => ?_) (fun i hi => ?_)
        · exact one _ _ _ (arg1_get h1 i hi) (h3 i (by rw [args1_len h1]; exact hi))
        · exact one _ _ _ (arg1_get h2 i hi) (h4 i (by rw [args1_len h2]; exact hi))
    | _ => exact harg.elim
  refine (hr ok X Hc w _ hmc (by simp [hl, args_len ha]) hargs).mono ?_
  rintro e w' ⟨v, ok', H', rfl, hm', hR⟩
  have hgr : Grow ok w ok' w' := fun b hb => ⟨hm'.okSub b hb, hm'.fr.block b (hm.okLt b hb) (fun hbX => by obtain ⟨_, _, _, _, h1, _⟩ := hXlive b hbX; exact h1 hb)⟩
  have hHlen : srcs.length ≤ H'.length := by rw [hm'.hlen]; exact hb2
  refine ⟨v, ok', H ++ H'.drop srcs.length, rfl, hgr, Names.push _ _, ?_, by have := up_ok rfl hlt hm'.names hR; rwa [hm.hlen] at this⟩
  let idx : Nat → Option Nat := fun j => srcs.findIdx? (fun s => match s with | .ent k => k == j | .nil _ => false)
  have hidxs : ∀ (j i : Nat), idx j = some i → srcs[i]? = some (.ent j) := by
    intro j i h
    simp only [idx, List.findIdx?_eq_some_iff_getElem] at h
    obtain ⟨h1, h2, _⟩ := h
    have : srcs[i]? = some srcs[i] := by simp [h1]
    cases hs : srcs[i] with
    | ent k => rw [hs] at h2 this; simp at h2; rw [this, h2]
    | nil _ => rw [hs] at h2; simp at h2
  have hidxn : ∀ (j : Nat), idx j = none → ∀ (i : Nat), srcs[i]? ≠ some (.ent j) := by
    intro j h i hi
    simp only [idx, List.findIdx?_eq_none_iff] at h
    have := h _ (List.mem_of_getElem? hi)
    simp at this
  have hlow : ∀ (j : Nat), j < es.length → (entsUp srcs es E')[j]? = some (match idx j with | some i => E'.getD i .dead | none => es.getD j .dead) := by
    intro j hj
    unfold entsUp
    rw [List.getElem?_append_left (by simpa using hj)]
    simp only [List.getElem?_map, List.getElem?_zipIdx, hesk j hj, Option.map_some, Nat.zero_add]
    rfl
  have hlenUp : (entsUp srcs es E').length = es.length + (E'.length - srcs.length) := by simp [entsUp]
  have hhigh : ∀ (j : Nat), es.length ≤ j → (entsUp srcs es E')[j]? = E'[srcs.length + (j - es.length)]? := by
    intro j hj
    unfold entsUp
    rw [List.getElem?_append_right (by simpa using hj), List.getElem?_drop]
    simp
  have hHlow : ∀ (j : Nat), j < es.length → (H ++ H'.drop srcs.length)[j]? = H[j]? := fun j hj => List.getElem?_append_left (by rw [hm.hlen]; exact hj)
  have hHhigh : ∀ (j : Nat), es.length ≤ j → (H ++ H'.drop srcs.length)[j]? = H'[srcs.length + (j - es.length)]? := by
    intro j hj
    rw [List.getElem?_append_right (by rw [hm.hlen]; exact hj), List.getElem?_drop, hm.hlen]
  -- each entity behind the call is one of the callee's or an old one that was not handed over
  have hcls : ∀ (j : Nat) (e : Ent) (h : Hd), (entsUp srcs es E')[j]? = some e → e.live = true ∨ True → (H ++ H'.drop srcs.length)[j]? = some h →
      (∃ (i : Nat), E'[i]? = some e ∧ H'[i]? = some h ∧ ((j < es.length ∧ srcs[i]? = some (.ent j)) ∨ (es.length ≤ j ∧ i = srcs.length + (j - es.length)))) ∨ (j < es.length ∧ es[j]? = some e ∧ H[j]? = some h ∧ ∀ (i : Nat), srcs[i]? ≠ some (.ent j)) := by
    intro j e h he _ hh
    by_cases hj : j < es.length
    · rw [hlow j hj] at he
      rw [hHlow j hj] at hh
      cases hi : idx j with
      | none =>
        rw [hi] at he
        simp only [Option.some.injEq] at he
        exact .inr ⟨hj, by rw [hesk j hj, he], hh, hidxn j hi⟩
      | some i =>
        rw [hi] at he
        simp only [Option.some.injEq] at he
        have hs := hidxs j i hi
        have hil : i < srcs.length := (List.getElem?_eq_some_iff.1 hs).1
        have hiE : i < E'.length := by omega
        refine .inl ⟨i, by simp [List.getD, hiE] at he; simp [hiE, he], ?_, .inl ⟨hj, hs⟩⟩
        refine hm'.names i h ?_
        simp only [Hc, List.getElem?_map, hs, Option.map_some, Sr.hd]
        simp [List.getD, hh]
    · rw [hhigh j (by omega)] at he
      rw [hHhigh j (by omega)] at hh
      exact .inl ⟨_, he, hh, .inr ⟨by omega, rfl⟩⟩
  have hold : ∀ (j : Nat) (e : Ent) (h : Hd) (b : Nat), es[j]? = some e → H[j]? = some h → (∀ (i : Nat), srcs[i]? ≠ some (.ent j)) → e.live = true → blkOf h.v = some b → b < w.heap.size ∧ b ∉ X ∧ ¬ ok b ∧ (C.w0.heap.size ≤ b ∨ b ∈ C.X) := by
    intro j e h b he hh hno hlv hbl
    have h1 := hm.blk j e h b he hlv hh hbl
    refine ⟨h1.2.1, fun hbX => ?_, h1.1, h1.2.2⟩
    obtain ⟨i, k, hs, hbk, _⟩ := hXlive b hbX
    have := hm.dis j k e _ h _ b he (hesk k (hsrc i k hs).1) hlv (hsrc i k hs).2 hh (hHk k (hlt i k hs)) hbl hbk
    subst this
    exact hno i hs
  have hnewblk : ∀ (i : Nat) (e : Ent) (h : Hd) (b : Nat), E'[i]? = some e → H'[i]? = some h → e.live = true → blkOf h.v = some b → ¬ ok' b ∧ b < w'.heap.size ∧ (w.heap.size ≤ b ∨ b ∈ X) := fun i e h b he hh hlv hbl => hm'.blk i e h b he hlv hh hbl
  refine ⟨⟨hm'.fr.os.trans hm.fr.os, hm'.fr.tape.trans hm.fr.tape, hm'.fr.output.trans hm.fr.output, Nat.le_trans hm.fr.size hm'.fr.size, fun k hk hx => ?_⟩, fun b hb => hm'.okSub b (hm.okSub b hb), ?_, hm'.okLt, hm.names.trans (Names.push _ _), ?_, ?_, ?_, ?_⟩
  · have hkw : k < w.heap.size := Nat.lt_of_lt_of_le hk hm.fr.size
    rw [hm'.fr.block k hkw (fun hkX => by
      obtain ⟨_, _, _, _, _, _, h⟩ := hXlive k hkX
      rcases h with h | h
      · omega
      · exact hx h)]
    exact hm.fr.block k hk hx
  · intro b hb
    rcases hm'.okSup b hb with h | h | h
    · exact hm.okSup b h
    · exact .inr (.inl (Nat.le_trans hm.fr.size h))
    · obtain ⟨_, _, _, _, _, _, h⟩ := hXlive b h
      exact .inr h
  · rw [hlenUp, List.length_append, List.length_drop, hm.hlen, hm'.hlen]
  · intro j e h he hh
    rcases hcls j e h he (.inr trivial) hh with ⟨i, h1, h2, _⟩ | ⟨_, h1, h2, h3⟩
    · exact (hm'.ent i e h h1 h2).any (hb4 e (List.mem_of_getElem? h1))
    · refine (hm.ent j e h h1 h2).mono hgr (Names.push _ _) (fun hlv b hbl => ?_)
      have h4 := hold j e h b h1 h2 h3 hlv hbl
      exact hm'.fr.block b h4.1 h4.2.1
  · intro j e h b he hlv hh hbl
    rcases hcls j e h he (.inr trivial) hh with ⟨i, h1, h2, _⟩ | ⟨_, h1, h2, h3⟩
    · have h4 := hnewblk i e h b h1 h2 hlv hbl
      refine ⟨h4.1, h4.2.1, ?_⟩
      rcases h4.2.2 with h5 | h5
      · exact .inl (Nat.le_trans hm.fr.size h5)
      · obtain ⟨_, _, _, _, _, _, h⟩ := hXlive b h5
        exact h
    · have h4 := hold j e h b h1 h2 h3 hlv hbl
      refine ⟨fun hok' => ?_, Nat.lt_of_lt_of_le h4.1 hm'.fr.size, h4.2.2.2⟩
      rcases hm'.okSup b hok' with h5 | h5 | h5
      · exact h4.2.2.1 h5
      · have : w.heap.size ≤ b := h5
        omega
      · exact h4.2.1 h5
  · intro j j' e e' h h' b he he' hlv hlv' hh hh' hbl hbl'
    rcases hcls j e h he (.inr trivial) hh with ⟨i, h1, h2, h3⟩ | ⟨_, h1, h2, h3⟩
    · rcases hcls j' e' h' he' (.inr trivial) hh' with ⟨i', h1', h2', h3'⟩ | ⟨_, h1', h2', h3'⟩
      · have hii := hm'.dis i i' e e' h h' b h1 h1' hlv hlv' h2 h2' hbl hbl'
        subst hii
        rcases h3 with ⟨_, h4⟩ | ⟨h4, h5⟩
        · rcases h3' with ⟨_, h4'⟩ | ⟨h4', h5'⟩
          · rw [h4] at h4'; simpa using h4'
          · have := (List.getElem?_eq_some_iff.1 h4).1; omega
        · rcases h3' with ⟨_, h4'⟩ | ⟨h4', h5'⟩
          · have := (List.getElem?_eq_some_iff.1 h4').1; omega
          · omega
      · have h4 := hold j' e' h' b h1' h2' h3' hlv' hbl'
        rcases (hnewblk i e h b h1 h2 hlv hbl).2.2 with h5 | h5
        · omega
        · exact absurd h5 h4.2.1
    · rcases hcls j' e' h' he' (.inr trivial) hh' with ⟨i', h1', h2', h3'⟩ | ⟨_, h1', h2', h3'⟩
      · have h4 := hold j e h b h1 h2 h3 hlv hbl
        rcases (hnewblk i' e' h' b h1' h2' hlv' hbl').2.2 with h5 | h5
        · omega
        · exact absurd h5 h4.2.1
      · exact hm.dis j j' e e' h h' b h1 h1' hlv hlv' h2 h2' hbl hbl'

theorem ok_call {f : FuncId} {ops : Array Operand} {ats : Array TypeId} (srcs : List Sr) {avs avs' : List AV} {E E' : List Ent} {res : AV} (hr : Runs P f avs' E res E') (hf : entersB P f = true) (hb : srcsB srcs es E E' = true) (hE : entsDown srcs es E) (ha : argsOk srcs avs avs') (hl : ops.toList.length = avs.length)
    (ho : o.op = .call { callee := .value (.func f), args := ops, argTypes := ats }) : OpOk P o (argNeeds ops.toList avs) es (res.up srcs es.length) (entsUp srcs es E') := by
  intro C ok H a w Q hm hn
  unfold Oper.wp
  rw [execOp_func ho, enters_of_b hf, Oper.upon_enter]
  have e : ops.map a.eval = (ops.toList.map a.eval).toArray := by apply Array.ext'; simp
  rw [e]
  refine (call_core hm srcs hr hb hE ha hl hn).mono ?_
  rintro e w' ⟨v, ok', H', rfl, h1, h2, h3, h4⟩
  exact ⟨v, ok', H', rfl, h1, h2, h3, h4⟩
end
end Go.Proofs.Ytdhhcmdofnjhiaa
