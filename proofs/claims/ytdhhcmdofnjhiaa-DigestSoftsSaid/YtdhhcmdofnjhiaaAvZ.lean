/- A region whose order is drawn, by all the states it may be in: told by evaluation. No program's code. No condition. -/
import Derived.Test.YtdhhcmdofnjhiaaAvX
namespace Go.Proofs.Ytdhhcmdofnjhiaa
open Go.RowKit

/-- A call with plain arguments, told by its contract. -/
structure Orc (P : Program) where
  i : Nat
  f : FuncId
  avs : List AV
  res : AV
  run : Runs P f avs [] res []
  ent : entersB P f = true
  dat : avs.all AV.isD = true

def orcAt {P : Program} (i : Nat) : List (Orc P) → Option (Orc P)
  | [] => none
  | c :: l => match Nat.beq i c.i with | true => some c | false => orcAt i l

section
variable {P : Program}
/-- One operation: the state behind it, and which call it is. -/
def nStep (T : Kn P) (L : List (Orc P)) (ops : Array Oper) (σ : St) (i : Nat) : Option (St × Option (FuncId × List AV)) :=
  match ops[i]? with
  | none => none
  | some o => match orcAt i L with
    | some c => match guardV ops σ o.guard with
      | some true => some (σ.put1 o.dst (c.res.up [] σ.ents.length), callV σ o)
      | _ => none
    | none => match autoStep T ops σ o with
      | some r => some (σ.put o.dst r.x r.E, none)
      | none => none
def nRun (T : Kn P) (L : List (Orc P)) (ops : Array Oper) (σ : St) : List Nat → St
  | [] => σ
  | i :: l => match nStep T L ops σ i with
    | some (σ', _) => nRun T L ops σ' l
    | none => σ
def nReady (ops : Array Oper) (m : List Nat) (i : Nat) : Bool := match ops[i]? with
  | some o => o.after.toList.all fun e => !Region.binds .any e || (m.contains e.on && decide (e.on < ops.size))
  | none => false
def nFull (ops : Array Oper) (m : List Nat) : Bool := (List.range ops.size).all fun i => m.contains i
/-- The nodes, and the ways between them, are all. -/
def nodesOk (ops : Array Oper) (N : List (List Nat)) (Tr : List (Nat × Nat × Nat)) (F : List Nat) : Bool :=
  (List.range N.length).all fun k =>
    ((List.range ops.size).all fun i => (N.getD k []).contains i || !nReady ops (N.getD k []) i ||
      Tr.any fun t => t.1 == k && t.2.1 == i && decide (t.2.2 < N.length) && (List.range ops.size).all fun j => (N.getD t.2.2 []).contains j == ((N.getD k []).contains j || j == i)) &&
    (F.contains k || (List.range ops.size).any fun i => !(N.getD k []).contains i && nReady ops (N.getD k []) i)
def nWant (L : List (Orc P)) (i : Nat) : Option (FuncId × List AV) := (orcAt i L).map fun c => (c.f, c.avs)

theorem nStep_ok (T : Kn P) {L : List (Orc P)} {ops : Array Oper} {σ σ' : St} {i : Nat} {o : Oper} (ho : ops[i]? = some o) (h : nStep T L ops σ i = some (σ', nWant L i)) : ∃ x E bar, StepFact P ops σ x E bar o ∧ σ' = σ.put o.dst x E := by
  unfold nStep nWant at h
  rw [ho] at h
  simp only at h
  split at h
  · rename_i c hc
    split at h
    · rename_i hg
      simp only [hc, Option.map_some, Option.some.injEq, Prod.mk.injEq] at h
      obtain ⟨ns, h1, h2, h3⟩ := callV_ok c.run c.ent h.2 c.dat
      exact ⟨_, _, false, step_yes h1 h2 (guardV_yes hg) h3, h.1.symm⟩
    · cases h
  · split at h
    · rename_i r hr
      simp only [Option.some.injEq, Prod.mk.injEq] at h
      exact ⟨_, _, _, autoStep_ok T hr, h.1.symm⟩
    · cases h

/-- What holds of s holds of t. -/
def Fin (s t : St) : Prop := ∀ C ok H a w, Holds C ok H s a w → ∃ ok' H', Holds C ok' H' t a w
theorem fin_refl (s : St) : Fin s s := fun _ ok H _ _ h => ⟨ok, H, h⟩
theorem fin_sub {s t : St} (h : Sub s t) : Fin s t := fun _ ok _ _ _ hh => let ⟨H', h'⟩ := hh.sub h; ⟨ok, H', h'⟩

theorem SP.nodes (T : Kn P) {id : Nat} {ops : Array Oper} {σ : St} {Q : Exit → St → Prop} (L : List (Orc P)) (N : List (List Nat)) (Tr : List (Nat × Nat × Nat)) (F : List Nat) (fin : St) (hm : P.follows .mixedOrders = true) (hN : nodesOk ops N Tr F = true) (h0 : N.getD 0 [0] = [])
    (hT : (Tr.map fun t => nStep T L ops (nRun T L ops σ (N.getD t.1 [])) t.2.1) = Tr.map fun t => some (nRun T L ops σ (N.getD t.2.2 []), nWant L t.2.1))
    (hF : Alls (fun k => Fin (nRun T L ops σ (N.getD k [])) fin) F) (hQ : Q .normal fin) : SP P (.region id ops true) σ Q := by
  refine ⟨fun C ok H a w hh => ?_⟩
  refine wp_region_any hm ?_
  let S : Nat → St := fun k => nRun T L ops σ (N.getD k [])
  let I : Array Bool → Act → World → Prop := fun l a w => l.size = ops.size ∧ ∃ k ok H, k < N.length ∧ (∀ i, i < ops.size → l.getD i false = (N.getD k []).contains i) ∧ Holds C ok H (S k) a w
  unfold nodesOk at hN
  rw [List.all_eq_true] at hN
  have hNN := fun k (hk : k < N.length) => hN k (by simpa using hk)
  refine wpAny_of_inv I (fun l a w h => h.1) ?_ ?_ ops.size _ _ _ ?_ ?_
  · rintro l a w ⟨h1, k, ok, H, hk, hl, hh⟩ i hi
    unfold Region.ready at hi
    rw [List.mem_filter] at hi
    obtain ⟨hi1, hi2⟩ := hi
    have hi' : i < ops.size := by simpa using hi1
    have ho : ops[i]? = some ops[i] := by simp [hi']
    simp only [Bool.and_eq_true] at hi2
    have hdeps := hi2.2
    rw [ho] at hdeps
    simp only [Option.map_some, Option.getD_some] at hdeps
    have hdeps' := fun e he => (Array.all_eq_true_iff_forall_mem.1 hdeps) e he
    have hself : l.getD i false = false := by
      have h8 := hi2.1
      have hil : i < l.size := by omega
      simp [Array.getD, hil] at h8 ⊢
      exact h8
    have hnc : (N.getD k []).contains i = false := by rw [← hl i hi']; exact hself
    have hrd : nReady ops (N.getD k []) i = true := by
      unfold nReady
      rw [ho]
      simp only [List.all_eq_true]
      intro e he
      have h9 := hdeps' e (by simpa using he)
      cases hb : Region.binds .any e with
      | false => simp
      | true =>
        simp only [hb, Bool.not_true, Bool.false_or] at h9 ⊢
        by_cases hon : e.on < ops.size
        · rw [← hl e.on hon, h9]; simp [hon]
        · have : l.getD e.on false = false := by simp [Array.getD, show ¬ e.on < l.size by omega]
          rw [this] at h9; cases h9
    have h2 := hNN k hk
    simp only [Bool.and_eq_true, List.all_eq_true] at h2
    have h3 := h2.1 i (by simpa using hi')
    rw [hnc, hrd] at h3
    simp only [Bool.not_true, Bool.or_self, Bool.false_or, List.any_eq_true] at h3
    obtain ⟨⟨k', i', t⟩, htm, h4⟩ := h3
    simp only [Bool.and_eq_true, beq_iff_eq, decide_eq_true_eq, List.all_eq_true] at h4
    obtain ⟨⟨⟨rfl, rfl⟩, ht⟩, h5⟩ := h4
    have h6 : nStep T L ops (S k') i' = some (S t, nWant L i') := List.map_inj_left.1 hT (k', i', t) htm
    obtain ⟨x, E, bar, hs, he⟩ := nStep_ok T ho h6
    have hnew : ∀ (a' : Act) (w' : World) (ok' : Nat → Prop) (H' : List Hd), Holds C ok' H' ((S k').put ops[i'].dst x E) a' w' → I (l.setIfInBounds i' true) a' w' := by
      intro a' w' ok' H' hp
      refine ⟨by simp [h1], t, ok', H', ht, fun j hj => ?_, he ▸ hp⟩
      have h7 := h5 j (by simpa using hj)
      rw [h7, ← hl j hj]
      by_cases hij : i' = j
      · subst hij; simp [Array.getD, h1, hj]
      · have : (j == i') = false := by simp; omega
        rw [this, Bool.or_false]
        simp only [Array.getD_eq_getD_getElem?, Array.getElem?_setIfInBounds_ne hij]
    unfold wpOp
    rw [ho]
    show if Region.wanted ops[i'] (yielded ops a.tmps) = true then _ else _
    rcases hs.1 with ⟨ns, hop, hneed, _, hg⟩ | ⟨rfl, rfl, hg⟩
    · rw [if_pos (wanted_yes hh hg)]
      refine .inl (Oper.wp_mono ?_ (hop C ok H a w _ hh.mem (fun n hn' => needs_mem hneed n hn' ▸ hh.get n.1)))
      rintro a' w' ⟨v, ok', H', rfl, hgr, hnn, hm', hx⟩
      exact hnew _ _ _ _ (hh.put ops[i'].dst hgr hnn hm' hx)
    · rw [if_neg (by rw [wanted_no hh hg]; simp)]
      exact hnew _ _ _ _ (hh.put ops[i'].dst (.refl _ _) (.refl _) hh.mem (.d _ _ (.lit _)))
  · rintro l a w ⟨h1, k, ok, H, hk, hl, hh⟩ hr
    have h2 := hNN k hk
    simp only [Bool.and_eq_true, Bool.or_eq_true] at h2
    have hFk : k ∈ F := by
      rcases h2.2 with h | h
      · simpa using h
      · rw [List.any_eq_true] at h
        obtain ⟨i, hi, h3⟩ := h
        simp only [List.mem_range] at hi
        simp only [Bool.and_eq_true, Bool.not_eq_true'] at h3
        obtain ⟨h4, h5⟩ := h3
        have ho : ops[i]? = some ops[i] := by simp [hi]
        have hmem : i ∈ Region.ready .any ops l := by
          unfold Region.ready
          rw [List.mem_filter]
          refine ⟨by simpa using hi, ?_⟩
          have hf : l.getD i false = false := by rw [hl i hi]; exact h4
          have hil : i < l.size := by omega
          have hf' : l.getD i true = false := by simp [Array.getD, hil] at hf ⊢; exact hf
          rw [hf', ho]
          simp only [Bool.not_false, Bool.true_and, Option.map_some, Option.getD_some]
          rw [Array.all_eq_true_iff_forall_mem]
          intro e he
          unfold nReady at h5
          rw [ho] at h5
          simp only [List.all_eq_true] at h5
          have h6 := h5 e (by simpa using he)
          cases hb : Region.binds .any e with
          | false => simp
          | true =>
            simp only [hb, Bool.not_true, Bool.false_or] at h6 ⊢
            rw [Bool.and_eq_true, decide_eq_true_eq] at h6
            rw [hl e.on h6.2]; exact h6.1
        rw [hr] at hmem
        simp at hmem
    obtain ⟨ok', H', h3⟩ := hF.mem k hFk C ok H a w hh
    exact ⟨ok', H', fin, h3, hQ⟩
  · unfold toCome; simp
  · refine ⟨by simp, 0, ok, H, ?_, fun i hi => ?_, ?_⟩
    · cases N with
      | nil => cases h0
      | cons x l => simp
    · have e : N.getD 0 [] = [] := by
        cases N with
        | nil => rfl
        | cons x l => simpa using h0
      rw [e]; simp [Array.getD]
    · have e : S 0 = σ := by
        show nRun T L ops σ (N.getD 0 []) = σ
        cases N with
        | nil => rfl
        | cons x l => have : x = [] := by simpa using h0
                      subst this; rfl
      rw [e]
      refine ⟨⟨⟨hh.mem.fr.os, hh.mem.fr.tape, hh.mem.fr.output, hh.mem.fr.size, hh.mem.fr.block⟩, hh.mem.okSub, hh.mem.okSup, hh.mem.okLt, hh.mem.names, hh.mem.hlen, fun k e h h1 h2 => (hh.mem.ent k e h h1 h2).drew, hh.mem.blk, hh.mem.dis⟩, hh.size, hh.defers, hh.base, fun t ht => R.mono (w := w) (ok := ok) (w' := { w with drawn := w.drawn + 1 }) (fun b hb => ⟨hb, rfl⟩) (.refl _) (hh.slot t ht)⟩
def orc {f : FuncId} {avs : List AV} {res : AV} (i : Nat) (run : Runs P f avs [] res []) (ent : entersB P f = true) (dat : avs.all AV.isD = true := by kernel_rfl) : Orc P := ⟨i, f, avs, res, run, ent, dat⟩
section
variable [T : Kn P] {id : Nat} {ops : Array Oper} {σ : St} {Q : Exit → St → Prop} {y : Code}
theorem SP.node1 (L : List (Orc P)) (N : List (List Nat)) (Tr : List (Nat × Nat × Nat)) (kf : Nat) (hQ : Q .normal (nRun T L ops σ (N.getD kf []))) (hm : P.follows .mixedOrders = true := by kernel_rfl) (hN : nodesOk ops N Tr [kf] = true := by kernel_rfl) (h0 : N.getD 0 [0] = [] := by kernel_rfl)
    (hT : (Tr.map fun t => nStep T L ops (nRun T L ops σ (N.getD t.1 [])) t.2.1) = Tr.map fun t => some (nRun T L ops σ (N.getD t.2.2 []), nWant L t.2.1) := by kernel_rfl) : SP P (.region id ops true) σ Q :=
  SP.nodes T L N Tr [kf] _ hm hN h0 hT ⟨fin_refl _, trivial⟩ hQ
theorem SP.nodeF (L : List (Orc P)) (N : List (List Nat)) (Tr : List (Nat × Nat × Nat)) (F : List Nat) (fin : St) (hF : Alls (fun k => Fin (nRun T L ops σ (N.getD k [])) fin) F) (hQ : Q .normal fin) (hm : P.follows .mixedOrders = true := by kernel_rfl) (hN : nodesOk ops N Tr F = true := by kernel_rfl) (h0 : N.getD 0 [0] = [] := by kernel_rfl)
    (hT : (Tr.map fun t => nStep T L ops (nRun T L ops σ (N.getD t.1 [])) t.2.1) = Tr.map fun t => some (nRun T L ops σ (N.getD t.2.2 []), nWant L t.2.1) := by kernel_rfl) : SP P (.region id ops true) σ Q :=
  SP.nodes T L N Tr F fin hm hN h0 hT hF hQ
theorem SP.nseq1 (L : List (Orc P)) (N : List (List Nat)) (Tr : List (Nat × Nat × Nat)) (kf : Nat) (hQ : SP P y (nRun T L ops σ (N.getD kf [])) Q) (hm : P.follows .mixedOrders = true := by kernel_rfl) (hN : nodesOk ops N Tr [kf] = true := by kernel_rfl) (h0 : N.getD 0 [0] = [] := by kernel_rfl)
    (hT : (Tr.map fun t => nStep T L ops (nRun T L ops σ (N.getD t.1 [])) t.2.1) = Tr.map fun t => some (nRun T L ops σ (N.getD t.2.2 []), nWant L t.2.1) := by kernel_rfl) : SP P (.seq (.region id ops true) y) σ Q :=
  SP.seq1 _ (SP.nodes T L N Tr [kf] _ hm hN h0 hT ⟨fin_refl _, trivial⟩ rfl) hQ
theorem SP.nseqF (L : List (Orc P)) (N : List (List Nat)) (Tr : List (Nat × Nat × Nat)) (F : List Nat) (fin : St) (hF : Alls (fun k => Fin (nRun T L ops σ (N.getD k [])) fin) F) (hQ : SP P y fin Q) (hm : P.follows .mixedOrders = true := by kernel_rfl) (hN : nodesOk ops N Tr F = true := by kernel_rfl) (h0 : N.getD 0 [0] = [] := by kernel_rfl)
    (hT : (Tr.map fun t => nStep T L ops (nRun T L ops σ (N.getD t.1 [])) t.2.1) = Tr.map fun t => some (nRun T L ops σ (N.getD t.2.2 []), nWant L t.2.1) := by kernel_rfl) : SP P (.seq (.region id ops true) y) σ Q :=
  SP.seq1 fin (SP.nodes T L N Tr F fin hm hN h0 hT hF rfl) hQ
end
end
end Go.Proofs.Ytdhhcmdofnjhiaa
