/- A region whose order is drawn, with operations that may stand on either side of one that turns an entity. No program's code. No condition. -/
import Derived.Test.YtdhhcmdofnjhiaaAvZ
namespace Go.Proofs.Ytdhhcmdofnjhiaa
open Go.RowKit

section
variable {P : Program} {ops : Array Oper} {es : List Ent}
def barsOkX (ops : Array Oper) (bs : List Bool) (sl : List Nat) : Bool := (List.range ops.size).all fun i => !(bs.getD i false) || (!sl.contains i &&
  ((List.range i).all fun j => sl.contains j || (List.range (i + 1)).any fun m => (decide (j < m) && !sl.contains m) && (match ops[m]? with | some o => edgeTo o j | none => false)) &&
   ((List.range ops.size).all fun k => !decide (i < k) || (List.range k).any fun m => decide (i ≤ m) && (match ops[k]? with | some o => edgeTo o m | none => false)))
theorem barsOkX_down {bs : List Bool} {sl : List Nat} (h : barsOkX ops bs sl = true) {i : Nat} (hi : i < ops.size) (hb : bs.getD i false = true) {D : Nat → Prop} (hd : ∀ (j : Nat) (o : Oper), ops[j]? = some o → D j → ∀ m, edgeTo o m = true → D m)
    (h0 : ∀ (o : Oper), ops[i]? = some o → ∀ m, edgeTo o m = true → D m) : ∀ j, j < i → sl.contains j = false → D j := by
  unfold barsOkX at h
  rw [List.all_eq_true] at h
  have h1 := h i (by simpa using hi)
  simp only [hb, Bool.not_true, Bool.false_or, Bool.and_eq_true, List.all_eq_true] at h1
  have key : ∀ n j, i - j ≤ n → j < i → sl.contains j = false → D j := by
    intro n
    induction n with
    | zero => intro j h2 h3 _; omega
    | succ n ih =>
      intro j h2 h3 hns
      have h4 := h1.1.2 j (by simpa using h3)
      rw [hns, Bool.false_or, List.any_eq_true] at h4
      obtain ⟨m, hm, h5⟩ := h4
      simp only [List.mem_range] at hm
      simp only [Bool.and_eq_true, decide_eq_true_eq, Bool.not_eq_true'] at h5
      obtain ⟨⟨h6, hms⟩, h7⟩ := h5
      have hml : m < ops.size := by omega
      have ho : ops[m]? = some ops[m] := by simp [hml]
      rw [ho] at h7
      by_cases e : m = i
      · subst e; exact h0 _ ho j h7
      · exact hd m _ ho (ih m (by omega) (by omega) hms) j h7
  exact fun j hj hs => key (i - j) j (Nat.le_refl _) hj hs
theorem barsOkX_up {bs : List Bool} {sl : List Nat} (h : barsOkX ops bs sl = true) {i : Nat} (hi : i < ops.size) (hb : bs.getD i false = true) {D : Nat → Prop} (hd : ∀ (j : Nat) (o : Oper), ops[j]? = some o → D j → ∀ m, edgeTo o m = true → D m) :
    ∀ k, i < k → ∀ (o : Oper), ops[k]? = some o → (∀ m, edgeTo o m = true → D m) → D i := by
  unfold barsOkX at h
  rw [List.all_eq_true] at h
  have h1 := h i (by simpa using hi)
  simp only [hb, Bool.not_true, Bool.false_or, Bool.and_eq_true, List.all_eq_true] at h1
  intro k
  induction k using Nat.strongRecOn with
  | _ k ih =>
    intro hik o ho hedges
    have hk : k < ops.size := (Array.getElem?_eq_some_iff.1 ho).1
    have h4 := h1.2 k (by simpa using hk)
    simp only [hik, decide_true, Bool.not_true, Bool.false_or, List.any_eq_true] at h4
    obtain ⟨m, hm, h5⟩ := h4
    simp only [List.mem_range] at hm
    simp only [Bool.and_eq_true, decide_eq_true_eq, ho] at h5
    obtain ⟨h6, h7⟩ := h5
    have hDm := hedges m h7
    by_cases e : m = i
    · subst e; exact hDm
    · have hml : m < ops.size := by omega
      have hom : ops[m]? = some ops[m] := by simp [hml]
      exact ih m hm (by omega) _ hom (hd m _ hom hDm)
theorem barsOkX_no {bs : List Bool} {sl : List Nat} (h : barsOkX ops bs sl = true) {i : Nat} (hi : i < ops.size) (hb : bs.getD i false = true) : sl.contains i = false := by
  unfold barsOkX at h
  rw [List.all_eq_true] at h
  have h1 := h i (by simpa using hi)
  simp only [hb, Bool.not_true, Bool.false_or, Bool.and_eq_true, Bool.not_eq_true'] at h1
  exact h1.1.1
theorem SP.drawX {id : Nat} {σ σ' : St} {Q : Exit → St → Prop} {rs : List AV} {ess : List (List Ent)} {bs : List Bool} (hm : P.follows .mixedOrders = true) (hcalm : (edgesOkB ops && dstsOk ops && slotsOk ops σ.slots.length && calmOk ops) = true) (sl : List Nat) (hbars : barsOkX ops bs sl = true)
    (h : SChain P ops ops.toList σ rs ess bs σ')
    (hsl : ∀ i, i ∈ sl → bs.getD i false = false ∧ ∀ m, i ≤ m → m ≤ ops.size → ∀ o, ops[i]? = some o → StepFact P ops ⟨(upTo' ops σ (fun i => rs.getD i .junk) (fun i => ess.getD i []) i).slots, (upTo' ops σ (fun i => rs.getD i .junk) (fun i => ess.getD i []) m).ents, σ.base⟩ (rs.getD i .junk) (upTo' ops σ (fun i => rs.getD i .junk) (fun i => ess.getD i []) m).ents false o) (hQ : Q .normal σ') : SP P (.region id ops true) σ Q := by
  refine ⟨fun C ok H a w hh => ?_⟩
  simp only [Bool.and_eq_true] at hcalm
  obtain ⟨⟨⟨he, hd⟩, hs⟩, hc⟩ := hcalm
  have hedge := edgesOkB_spec he
  have hinj := dstsOk_spec hd
  have hcalm := calmOk_spec hc
  have hslot : ∀ (i : Nat) (o : Oper) (d : Tmp), ops[i]? = some o → o.dst = some d → d < σ.slots.length := by
    intro i o d h1 h2
    unfold slotsOk at hs
    rw [List.all_eq_true] at hs
    simpa using hs d (mem_written h1 h2)
  let r : Nat → AV := fun i => rs.getD i .junk
  let ev : Nat → List Ent := fun i => ess.getD i []
  let bar : Nat → Bool := fun i => bs.getD i false
  obtain ⟨hfacts, hend⟩ := h.facts σ r ev bar 0 (fun k => by simp) (by simp) rfl (fun k y hy => by simp [r, List.getD, hy]) (fun k y hy => by simp [ev, List.getD, hy]) (fun k y hy => by simp [bar, List.getD, hy])
  let U : Nat → St := upTo' ops σ r ev
  have hU : ∀ i, i < ops.size → (U (i + 1)).ents = ev i := by
    intro i hi
    have ho : ops[i]? = some ops[i] := by simp [hi]
    show (upTo' ops σ r ev (i + 1)).ents = _
    simp only [upTo', ho]
    rfl
  have hconst : ∀ n lo, (∀ b, lo ≤ b → b < lo + n → bar b = false) → lo + n ≤ ops.size → (U (lo + n)).ents = (U lo).ents := by
    intro n
    induction n with
    | zero => intro lo _ _; rfl
    | succ n ih =>
      intro lo hb hle
      have h1 := ih lo (fun b h1 h2 => hb b h1 (by omega)) (by omega)
      have hi : lo + n < ops.size := by omega
      have ho : ops[lo + n]? = some ops[lo + n] := by simp [hi]
      have h2 := (hfacts (lo + n) _ (by omega) ho).2 (hb (lo + n) (by omega) (by omega))
      rw [← Nat.add_assoc, hU _ hi, h2]
      exact h1
  have hconst' : ∀ lo hi, lo ≤ hi → hi ≤ ops.size → (∀ b, lo ≤ b → b < hi → bar b = false) → (U hi).ents = (U lo).ents := by
    intro lo hi h1 h2 h3
    obtain ⟨n, rfl⟩ := Nat.exists_eq_add_of_le h1
    exact hconst n lo h3 h2
  refine wp_region_any hm ?_
  let I : Array Bool → Act → World → Prop := fun l a w => l.size = ops.size ∧ ∃ ok H m, m ≤ ops.size ∧ (∀ b, bar b = true → b < ops.size → (l.getD b false = true ↔ b < m)) ∧ Mem C ok H (U m).ents w ∧ a.tmps.size = σ.slots.length ∧ a.defers = [] ∧
    (∀ t, t < σ.slots.length → (∀ (j : Nat) (o : Oper), ops[j]? = some o → o.dst = some t → l.getD j false = false) → R ok w H (σ.slots.getD t .junk) (a.tmps.getD t undef)) ∧
    (∀ (i : Nat) (o : Oper) (d : Tmp), ops[i]? = some o → o.dst = some d → l.getD i false = true → R ok w H (r i) (a.tmps.getD d undef)) ∧
    (∀ (j : Nat) (o : Oper), ops[j]? = some o → l.getD j false = true → ∀ i, edgeTo o i = true → l.getD i false = true)
  refine wpAny_of_inv I (fun l a w h => h.1) ?_ ?_ ops.size _ _ _ ?_ ?_
  · rintro l a w ⟨h1, ok, H, m, hmle, hfront, hmem0, hsz, hdf, h5, h6, h7⟩ i hi
    unfold Region.ready at hi
    rw [List.mem_filter] at hi
    obtain ⟨hi1, hi2⟩ := hi
    have hi' : i < ops.size := by simpa using hi1
    have ho : ops[i]? = some ops[i] := by simp [hi']
    simp only [Bool.and_eq_true] at hi2
    have hdeps := hi2.2
    rw [ho] at hdeps
    simp only [Option.map_some, Option.getD_some] at hdeps
    have hdeps' := fun e he => (Array.all_eq_true_iff_forall_mem.1 hdeps) e he
    have hdone : ∀ j, edgeTo ops[i] j = true → l.getD j false = true ∧ j < i := by
      intro j hj
      unfold edgeTo at hj
      rw [List.any_eq_true] at hj
      obtain ⟨e, hee, hj⟩ := hj
      simp only [Bool.and_eq_true, decide_eq_true_eq] at hj
      have := hdeps' e (by simpa using hee)
      simp only [hj.2, Bool.not_true, Bool.false_or] at this
      rw [hj.1] at this
      exact ⟨this, hj.1 ▸ hedge i _ ho e hee hj.2⟩
    have hself : l.getD i false = false := by
      have h8 := hi2.1
      have hil : i < l.size := by omega
      simp [Array.getD, hil] at h8 ⊢
      exact h8
    have hclo : ∀ (j : Nat) (o : Oper), ops[j]? = some o → l.getD j false = true → ∀ m, edgeTo o m = true → l.getD m false = true := fun j o hj hl m hm => h7 j o hj hl m hm
    have hEi : (i ≤ m → sl.contains i = false) → (U i).ents = (U m).ents := fun hns => by
      by_cases him : i ≤ m
      · refine (hconst' i m him hmle (fun b h2 h3 => ?_)).symm
        rw [← Bool.not_eq_true]
        intro hb
        have hbl := (hfront b hb (by omega)).2 h3
        by_cases e : b = i
        · subst e; rw [hself] at hbl; cases hbl
        · have := barsOkX_down hbars (show b < ops.size by omega) hb (D := fun j => l.getD j false = true) hclo (fun o ho m hm => hclo b o ho hbl m hm) i (by omega) (hns him)
          rw [hself] at this; cases this
      · refine hconst' m i (by omega) (by omega) (fun b h2 h3 => ?_)
        rw [← Bool.not_eq_true]
        intro hb
        have := barsOkX_up hbars (show b < ops.size by omega) hb (D := fun j => l.getD j false = true) hclo i h3 _ ho (fun m hm => (hdone m hm).1)
        exact absurd ((hfront b hb (by omega)).1 this) (by omega)
    obtain ⟨E0, E1, hmem, hfact, hE1, hE2⟩ : ∃ E0 E1, Mem C ok H E0 w ∧ StepFact P ops ⟨(U i).slots, E0, σ.base⟩ (r i) E1 (bar i) ops[i] ∧ (bar i = false → E1 = (U m).ents) ∧ (bar i = true → E1 = ev i) := by
      by_cases hs : i ≤ m ∧ i ∈ sl
      · have h9 := hsl i hs.2
        refine ⟨(U m).ents, (U m).ents, hmem0, ?_, fun _ => rfl, fun hb => ?_⟩
        · rw [show bar i = false from h9.1]; exact h9.2 m hs.1 hmle _ ho
        · rw [show bar i = false from h9.1] at hb; cases hb
      · have hE := hEi (fun him => by
          rw [← Bool.not_eq_true]
          intro hc; exact hs ⟨him, by simpa using hc⟩)
        refine ⟨(U i).ents, ev i, by rw [hE]; exact hmem0, ?_, fun hb => ?_, fun _ => rfl⟩
        · have hf := hfacts i ops[i] (by omega) ho
          have hbase : (U i).base = σ.base := upTo_base i
          have : U i = ⟨(U i).slots, (U i).ents, σ.base⟩ := by rw [← hbase]
          exact this ▸ hf
        · rw [(hfacts i _ (by omega) ho).2 hb]; exact hE
    -- what the slots that it reads hold
    have hread : ∀ t, t ∈ tmpsOf ops[i] → R ok w H ((upTo' ops σ r ev i).slots.getD t .junk) (a.tmps.getD t undef) := by
      intro t ht
      by_cases hw : ∃ (j : Nat) (o : Oper), ops[j]? = some o ∧ o.dst = some t
      · obtain ⟨j, o, hj, hjd⟩ := hw
        rcases (hcalm i _ ho).1 j o t hj hjd ht with hce | hce
        · obtain ⟨hdj, hji⟩ := hdone j hce
          rw [upTo_mine hinj hj hjd (hslot j o t hj hjd) i hji]
          exact h6 j o t hj hjd hdj
        · have hij : i < j := by
            unfold edgeTo at hce
            rw [List.any_eq_true] at hce
            obtain ⟨e, hee, hce⟩ := hce
            simp only [Bool.and_eq_true, decide_eq_true_eq] at hce
            exact hce.1 ▸ hedge j _ hj e hee hce.2
          rw [upTo_other i (fun j' o' hj' ho' hd' => by have := hinj j j' o o' t hj ho' hjd hd'; omega)]
          refine h5 t (hslot j o t hj hjd) (fun j' o' ho' hd' => ?_)
          have hjj := hinj j j' o o' t hj ho' hjd hd'
          subst hjj
          rw [← Bool.not_eq_true]
          intro hd
          rw [h7 j o hj hd i hce] at hself
          cases hself
      · have hw' : ∀ (j : Nat) (o : Oper), ops[j]? = some o → o.dst ≠ some t := fun j o h1 h2 => hw ⟨j, o, h1, h2⟩
        rw [upTo_other i (fun j o _ hj => hw' j o hj)]
        by_cases htn : t < σ.slots.length
        · exact h5 t htn (fun j o hj hjd => absurd hjd (hw' j o hj))
        · rw [getD_junk htn]; exact .junk _
    have hyield : ∀ j d v, edgeTo ops[i] j = true → (ops[j]?).bind (·.dst) = some d → (upTo' ops σ r ev i).slots.getD d .junk = .d (.lit v) → yielded ops a.tmps j = (match v with | .bool b => some b | _ => none) := by
      intro j d v hj hjd hb
      cases hoj : ops[j]? with
      | none => rw [hoj] at hjd; simp at hjd
      | some oj =>
        rw [hoj] at hjd
        simp only [Option.bind_some] at hjd
        obtain ⟨hdj, hji⟩ := hdone j hj
        have hdn := hslot j oj d hoj hjd
        rw [upTo_mine hinj hoj hjd hdn i hji] at hb
        have hv := (hb ▸ h6 j oj d hoj hjd hdj).bool
        have hs : a.tmps[d]? = some v := by
          have : d < a.tmps.size := by rw [hsz]; exact hdn
          simp [Array.getD, this] at hv
          simp [this, hv]
        unfold yielded
        rw [hoj]
        simp only [Option.bind_some, hjd, hs]
        cases v <;> rfl
    have hput : ∀ (x : AV) (v : Value) (ok' : Nat → Prop) (H' : List Hd) (w' : World), x = r i → Grow ok w ok' w' → Names H H' → Mem C ok' H' E1 w' → R ok' w' H' x v → I (l.setIfInBounds i true) (a.put ops[i].dst v) w' := by
      intro x v ok' H' w' hx hgr hnm hmem' hR
      subst hx
      have hother : ∀ (d t : Nat), ops[i].dst = some d → d ≠ t → (a.put ops[i].dst v).tmps.getD t undef = a.tmps.getD t undef := by
        intro d t hd hne; rw [hd]; exact getD_put_other hne
      obtain ⟨m', hm'le, hfront', hmem2⟩ : ∃ m', m' ≤ ops.size ∧ (∀ b, bar b = true → b < ops.size → ((l.setIfInBounds i true).getD b false = true ↔ b < m')) ∧ Mem C ok' H' (U m').ents w' := by
        have hget : ∀ b, b ≠ i → (l.setIfInBounds i true).getD b false = l.getD b false := fun b hb => by
          simp only [Array.getD_eq_getD_getElem?, Array.getElem?_setIfInBounds_ne (Ne.symm hb)]
        have hgeti : (l.setIfInBounds i true).getD i false = true := by simp [Array.getD, h1, hi']
        cases hbi : bar i with
        | false =>
          refine ⟨m, hmle, fun b hb hbs => ?_, ?_⟩
          · have hne : b ≠ i := fun e => by subst e; rw [hbi] at hb; cases hb
            rw [hget b hne]; exact hfront b hb hbs
          · rw [← hE1 hbi]; exact hmem'
        | true =>
          refine ⟨i + 1, by omega, fun b hb hbs => ?_, by rw [hU i hi', ← hE2 hbi]; exact hmem'⟩
          by_cases e : b = i
          · subst e; rw [hgeti]; simp
          · rw [hget b e]
            constructor
            · intro hbl
              apply Classical.byContradiction
              intro hn
              have := barsOkX_down hbars hbs hb (D := fun j => l.getD j false = true) hclo (fun o ho m hm => hclo b o ho hbl m hm) i (by omega) (barsOkX_no hbars hi' hbi)
              rw [hself] at this; cases this
            · intro hlt
              exact barsOkX_down hbars hi' hbi (D := fun j => l.getD j false = true) hclo (fun o ho' m hm => by rw [ho] at ho'; obtain rfl := Option.some.inj ho'; exact (hdone m hm).1) b (by omega) (barsOkX_no hbars hbs hb)
      refine ⟨by simp [h1], ok', H', m', hm'le, hfront', hmem2, by rw [size_put]; exact hsz, by rw [defers_put]; exact hdf, ?_, ?_, ?_⟩
      · intro t ht hno
        have hne : ops[i].dst ≠ some t := by
          intro e
          have := hno i _ ho e
          simp [Array.getD, h1, hi'] at this
        have hold : (a.put ops[i].dst v).tmps.getD t undef = a.tmps.getD t undef := by
          cases hdi : ops[i].dst with
          | none => rfl
          | some d => exact hdi ▸ hother d t hdi (fun e => hne (by rw [hdi, e]))
        rw [hold]
        refine (h5 t ht (fun j o hj hjd => ?_)).mono hgr hnm
        have hij : i ≠ j := fun e => by subst e; rw [ho] at hj; obtain rfl := Option.some.inj hj; exact hne hjd
        have := hno j o hj hjd
        simpa only [Array.getD_eq_getD_getElem?, Array.getElem?_setIfInBounds_ne hij] using this
      · intro k o d hk hkd hl
        by_cases hik : i = k
        · subst hik
          rw [ho] at hk
          obtain rfl := Option.some.inj hk
          rw [hkd, getD_put_same (by rw [hsz]; exact hslot i _ d ho hkd)]
          exact hR
        · have hl' : l.getD k false = true := by
            simp only [Array.getD_eq_getD_getElem?, Array.getElem?_setIfInBounds_ne hik] at hl ⊢
            exact hl
          have := (h6 k o d hk hkd hl').mono hgr hnm
          cases hdst : ops[i].dst with
          | none => exact this
          | some d' =>
            have hne : d' ≠ d := fun e => hik (hinj i k _ _ d' ho hk hdst (e ▸ hkd))
            rw [← hdst, hother d' d hdst hne]; exact this
      · intro j o hj hl k hk
        have hil : i < l.size := by omega
        by_cases hik : i = k
        · subst hik; simp [Array.getD, hil]
        · have hkk : l.getD k false = true := by
            by_cases hij : i = j
            · subst hij
              rw [ho] at hj
              obtain rfl := Option.some.inj hj
              exact (hdone k hk).1
            · have hl' : l.getD j false = true := by
                simp only [Array.getD_eq_getD_getElem?, Array.getElem?_setIfInBounds_ne hij] at hl ⊢
                exact hl
              exact h7 j o hj hl' k hk
          simp only [Array.getD_eq_getD_getElem?, Array.getElem?_setIfInBounds_ne hik] at hkk ⊢
          exact hkk
    unfold wpOp
    rw [ho]
    show if Region.wanted ops[i] (yielded ops a.tmps) = true then _ else _
    rcases hfact.1 with ⟨ns, hop, hneed, hnt, hg⟩ | ⟨hx, hev, hg⟩
    · have hwant : Region.wanted ops[i] (yielded ops a.tmps) = true := by
        unfold Region.wanted
        rcases hg with hg | ⟨j, want, d, b, hg, hj, hb, rfl⟩
        · rw [hg]
        · rw [hg]
          show (yielded ops a.tmps j == some b) = true
          rw [hyield j d _ ((hcalm i _ ho).2 j b hg) hj hb]; simp
      rw [if_pos hwant]
      refine .inl (Oper.wp_mono ?_ (hop C ok H a w _ hmem (fun n hn => ?_)))
      · rintro a' w' ⟨v, ok', H', rfl, hgr, hnn, hm', hx⟩
        exact hput _ v ok' H' w' rfl hgr hnn hm' hx
      · have hnv := needs_mem hneed n hn
        obtain ⟨x, y⟩ := n
        simp only at hnv ⊢
        subst hnv
        cases x with
        | tmp t =>
          refine hread t ?_
          rw [List.all_eq_true] at hnt
          have : t ∈ needTmps ns := by
            unfold needTmps
            rw [List.mem_filterMap]
            exact ⟨_, hn, rfl⟩
          simpa using hnt t this
        | const v => exact .d _ _ (.lit v)
        | global g => exact .d _ _ (.lit _)
        | func f => exact .d _ _ (.fn (.func f) [] [] #[] #[] rfl rfl (fun i hi => by simp at hi) (fun i hi => by simp at hi))
    · have hwant : Region.wanted ops[i] (yielded ops a.tmps) = false := by
        unfold Region.wanted
        obtain ⟨j, want, d, v, hg, hj, hb, hv⟩ := hg
        rw [hg]
        show (yielded ops a.tmps j == some want) = false
        rw [hyield j d _ ((hcalm i _ ho).2 j want hg) hj hb]
        rcases hv with rfl | rfl
        · simp
        · rfl
      rw [if_neg (by rw [hwant]; simp)]
      exact hput _ _ ok H w hx.symm (.refl _ _) (.refl _) (by rw [hev]; exact hmem) (.d _ _ (.lit _))
  · rintro l a w ⟨h1, ok, H, m, hmle, hfront, hmem, hsz, hdf, h5, h6, h7⟩ hr
    have hall : ∀ n i, i < n → i < ops.size → l.getD i false = true := by
      intro n
      induction n with
      | zero => intro i hi; omega
      | succ n ih =>
        intro i hi hi2
        by_cases hn : i < n
        · exact ih i hn hi2
        · have hin : i = n := by omega
          subst hin
          rw [← Bool.not_eq_false]
          intro hf
          have ho : ops[i]? = some ops[i] := by simp [hi2]
          have hmem : i ∈ Region.ready .any ops l := by
            unfold Region.ready
            rw [List.mem_filter]
            refine ⟨by simpa using hi2, ?_⟩
            have hil : i < l.size := by omega
            have hf' : l.getD i true = false := by simp [Array.getD, hil] at hf ⊢; exact hf
            rw [hf', ho]
            simp only [Bool.not_false, Bool.true_and, Option.map_some, Option.getD_some]
            rw [Array.all_eq_true_iff_forall_mem]
            intro e he
            cases hbe : Region.binds .any e with
            | false => simp
            | true =>
              have hlt := hedge i _ ho e (by simpa using he) hbe
              rw [ih e.on (by omega) (by omega)]
              simp
          rw [hr] at hmem
          simp at hmem
    refine ⟨ok, H, σ', ?_, hQ⟩
    subst hend
    have hE : (U ops.size).ents = (U m).ents := hconst' m ops.size hmle (Nat.le_refl _) (fun b h2 h3 => by
      rw [← Bool.not_eq_true]
      intro hb
      exact absurd ((hfront b hb h3).1 (hall (b + 1) b (by omega) h3)) (by omega))
    refine ⟨by show Mem C ok H (U ops.size).ents w; rw [hE]; exact hmem, by rw [upTo_length]; exact hsz, hdf, by rw [upTo_base]; exact hh.base, fun t ht => ?_⟩
    rw [upTo_length] at ht
    by_cases hw : ∃ (j : Nat) (o : Oper), ops[j]? = some o ∧ o.dst = some t
    · obtain ⟨j, o, hj, hjd⟩ := hw
      have hjn : j < ops.size := (Array.getElem?_eq_some_iff.1 hj).1
      rw [upTo_mine hinj hj hjd ht ops.size hjn]
      exact h6 j o t hj hjd (hall (j + 1) j (by omega) hjn)
    · have hw' : ∀ (j : Nat) (o : Oper), ops[j]? = some o → o.dst ≠ some t := fun j o h1 h2 => hw ⟨j, o, h1, h2⟩
      rw [upTo_other ops.size (fun j o _ hj => hw' j o hj)]
      exact h5 t ht (fun j o hj hjd => absurd hjd (hw' j o hj))
  · unfold toCome; simp
  · refine ⟨by simp, ok, H, 0, Nat.zero_le _, fun b hb _ => by simp [Array.getD], ?_, hh.size, hh.defers, fun t ht _ => ?_, fun i o d _ _ hl => ?_, fun j o _ hl => ?_⟩
    · exact ⟨⟨hh.mem.fr.os, hh.mem.fr.tape, hh.mem.fr.output, hh.mem.fr.size, hh.mem.fr.block⟩, hh.mem.okSub, hh.mem.okSup, hh.mem.okLt, hh.mem.names, hh.mem.hlen, fun k e h h1 h2 => (hh.mem.ent k e h h1 h2).drew, hh.mem.blk, hh.mem.dis⟩
    · exact R.mono (w := w) (ok := ok) (w' := { w with drawn := w.drawn + 1 }) (fun b hb => ⟨hb, rfl⟩) (.refl _) (hh.slot t ht)
    · simp [Array.getD] at hl
    · simp [Array.getD] at hl

/-- The places at which an operation may stand. -/
def slackPairs (n : Nat) (sl : List Nat) : List (Nat × Nat) := sl.flatMap fun i => ((List.range (n + 1)).filter fun m => decide (i ≤ m)).map fun m => (i, m)
def upL (ops : Array Oper) (σ : St) (rs : List AV) (ess : List (List Ent)) (i : Nat) : St := upTo' ops σ (fun i => rs.getD i .junk) (fun i => ess.getD i []) i
def slackStep (T : Kn P) (ops : Array Oper) (σ : St) (rs : List AV) (ess : List (List Ent)) (p : Nat × Nat) : Option (AV × List Ent × Bool) :=
  match ops[p.1]? with
  | some o => (autoStep T ops ⟨(upL ops σ rs ess p.1).slots, (upL ops σ rs ess p.2).ents, σ.base⟩ o).map fun r => (r.x, r.E, r.bar)
  | none => none
theorem slack_ok (T : Kn P) {σ : St} {rs : List AV} {ess : List (List Ent)} {bs : List Bool} {sl : List Nat} (hns : (sl.all fun i => !(bs.getD i false)) = true)
    (hev : (slackPairs ops.size sl).map (slackStep T ops σ rs ess) = (slackPairs ops.size sl).map fun p => some (rs.getD p.1 .junk, (upL ops σ rs ess p.2).ents, false)) :
    ∀ i, i ∈ sl → bs.getD i false = false ∧ ∀ m, i ≤ m → m ≤ ops.size → ∀ o, ops[i]? = some o → StepFact P ops ⟨(upTo' ops σ (fun i => rs.getD i .junk) (fun i => ess.getD i []) i).slots, (upTo' ops σ (fun i => rs.getD i .junk) (fun i => ess.getD i []) m).ents, σ.base⟩ (rs.getD i .junk) (upTo' ops σ (fun i => rs.getD i .junk) (fun i => ess.getD i []) m).ents false o := by
  intro i hi
  refine ⟨by have := List.all_eq_true.1 hns i hi; simpa using this, fun m h1 h2 o ho => ?_⟩
  have hp : (i, m) ∈ slackPairs ops.size sl := by
    unfold slackPairs
    rw [List.mem_flatMap]
    exact ⟨i, hi, List.mem_map.2 ⟨m, List.mem_filter.2 ⟨by simp; omega, by simpa using h1⟩, rfl⟩⟩
  have h3 := List.map_inj_left.1 hev (i, m) hp
  unfold slackStep at h3
  rw [ho] at h3
  simp only [Option.map_eq_some_iff] at h3
  obtain ⟨r, hr, he⟩ := h3
  have h4 := autoStep_ok T hr
  simp only [Prod.mk.injEq] at he
  rw [he.1, he.2.1, he.2.2] at h4
  exact h4
theorem SP.drawS [T : Kn P] {id : Nat} {σ σ' : St} {Q : Exit → St → Prop} {rs : List AV} {ess : List (List Ent)} {bs : List Bool} (sl : List Nat) (h : SChain P ops ops.toList σ rs ess bs σ') (hQ : Q .normal σ') (hm : P.follows .mixedOrders = true := by kernel_rfl)
    (hcalm : (edgesOkB ops && dstsOk ops && slotsOk ops σ.slots.length && calmOk ops) = true := by kernel_rfl) (hbars : barsOkX ops bs sl = true := by kernel_rfl) (hns : (sl.all fun i => !(bs.getD i false)) = true := by kernel_rfl)
    (hev : (slackPairs ops.size sl).map (slackStep T ops σ rs ess) = (slackPairs ops.size sl).map fun p => some (rs.getD p.1 .junk, (upL ops σ rs ess p.2).ents, false) := by kernel_rfl) : SP P (.region id ops true) σ Q :=
  SP.drawX hm hcalm sl hbars h (slack_ok T hns hev) hQ
theorem SP.dseqS [T : Kn P] {id : Nat} {y : Code} {σ σ' : St} {Q : Exit → St → Prop} {rs : List AV} {ess : List (List Ent)} {bs : List Bool} (sl : List Nat) (h : SChain P ops ops.toList σ rs ess bs σ') (hQ : SP P y σ' Q) (hm : P.follows .mixedOrders = true := by kernel_rfl)
    (hcalm : (edgesOkB ops && dstsOk ops && slotsOk ops σ.slots.length && calmOk ops) = true := by kernel_rfl) (hbars : barsOkX ops bs sl = true := by kernel_rfl) (hns : (sl.all fun i => !(bs.getD i false)) = true := by kernel_rfl)
    (hev : (slackPairs ops.size sl).map (slackStep T ops σ rs ess) = (slackPairs ops.size sl).map fun p => some (rs.getD p.1 .junk, (upL ops σ rs ess p.2).ents, false) := by kernel_rfl) : SP P (.seq (.region id ops true) y) σ Q :=
  SP.seq1 σ' (SP.drawX hm hcalm sl hbars h (slack_ok T hns hev) rfl) hQ

/-- An own row that lies in a cell of a box is given up. -/
def St.thawC (σ : St) (k j : Nat) (xs : List D) (cs : List AV) : St := ⟨σ.slots.map (AV.thaw k xs), (σ.ents.set k .dead).set j (.box (cs.map (AV.thaw k xs))), σ.base⟩
theorem thawC_holds {σ : St} (k j : Nat) {e s : Nat} {xs : List D} {cs : List AV} (hk : σ.ents[k]? = some (.arr e s xs)) (hj : σ.ents[j]? = some (.box cs)) (hl : (cs.map (AV.thaw k xs)).all AV.leaf = true) : ∀ C ok H a w, Holds C ok H σ a w → ∃ ok', Holds C ok' H (σ.thawC k j xs cs) a w := by
  intro C ok H a w hh
  have hkj : k ≠ j := fun e => by subst e; rw [hk] at hj; cases hj
  obtain ⟨hd, hhd, hok⟩ := ent_at hh.mem.ent hh.mem.hlen hk
  have hkl : k < σ.ents.length := (List.getElem?_eq_some_iff.1 hk).1
  have hjl : j < (σ.ents.set k .dead).length := by rw [List.length_set]; exact (List.getElem?_eq_some_iff.1 hj).1
  let ok' : Nat → Prop := fun b => ok b ∨ blkOf hd.v = some b
  have hblk := fun b hb => hh.mem.blk k _ hd b hk rfl hhd hb
  have hg : Grow ok w ok' w := fun b hb => ⟨.inl hb, rfl⟩
  have hcell : ∀ {x : AV} {v : Value}, R ok w H x v → R ok' w H (x.thaw k xs) v := by
    intro x v hR0
    have hR := hR0.mono hg (Names.refl H)
    cases x with
    | osl i =>
      simp only [AV.thaw]
      split
      · rename_i hi
        subst hi
        obtain rfl := R_own_val hR hhd
        exact .d _ _ (own_reads hok (fun b hb => .inl hb) (fun b hb => .inr hb))
      · exact hR
    | eptr i i2 off =>
      simp only [AV.thaw]
      split
      · exact .junk _
      · exact hR
    | _ => exact hR
  have hent : ∀ (i : Nat) (e' : Ent), ((σ.ents.set k .dead).set j (.box (cs.map (AV.thaw k xs))))[i]? = some e' → (i = j ∧ e' = .box (cs.map (AV.thaw k xs))) ∨ (i ≠ j ∧ ((i = k ∧ e' = .dead) ∨ (i ≠ k ∧ σ.ents[i]? = some e'))) := by
    intro i e' he
    rcases set_get hjl he with ⟨rfl, rfl⟩ | ⟨h1, h2⟩
    · exact .inl ⟨rfl, rfl⟩
    · refine .inr ⟨h1, ?_⟩
      rcases set_get hkl h2 with ⟨rfl, rfl⟩ | ⟨h3, h4⟩
      · exact .inl ⟨rfl, rfl⟩
      · exact .inr ⟨h3, h4⟩
  have hold : ∀ (i : Nat) (e' : Ent), ((σ.ents.set k .dead).set j (.box (cs.map (AV.thaw k xs))))[i]? = some e' → e'.live = true → i ≠ k ∧ ∃ e0, σ.ents[i]? = some e0 ∧ e0.live = true := by
    intro i e' he hlv
    rcases hent i e' he with ⟨rfl, rfl⟩ | ⟨h1, ⟨rfl, rfl⟩ | ⟨h2, h3⟩⟩
    · exact ⟨Ne.symm hkj, _, hj, rfl⟩
    · cases hlv
    · exact ⟨h2, _, h3, hlv⟩
  refine ⟨ok', ⟨hh.mem.fr, fun b hb => .inl (hh.mem.okSub b hb), ?_, ?_, hh.mem.names, by simp [St.thawC, hh.mem.hlen], ?_, ?_, ?_⟩, by simp [St.thawC, hh.size], hh.defers, hh.base, ?_⟩
  · rintro b (hb | hb)
    · exact hh.mem.okSup b hb
    · exact .inr (hblk b hb).2.2
  · rintro b (hb | hb)
    · exact hh.mem.okLt b hb
    · exact (hblk b hb).2.1
  · intro i e' h' he hh'
    rcases hent i e' he with ⟨rfl, rfl⟩ | ⟨_, ⟨rfl, rfl⟩ | ⟨_, he'⟩⟩
    · obtain ⟨b, vs, T, h1, h2, h3, h4⟩ := hh.mem.ent i _ h' hj hh'
      refine ⟨b, vs, T, h1, h2, by simpa using h3, fun n hn => ?_⟩
      rw [List.length_map] at hn
      rw [getD_map_junk _ _ _ hn]
      refine ⟨?_, hcell (h4 n hn).2⟩
      rw [List.all_eq_true] at hl
      exact hl _ (List.mem_map.2 ⟨_, by simp [List.getD, hn], rfl⟩)
    · trivial
    · exact (hh.mem.ent i e' h' he' hh').mono hg (.refl _) (fun _ _ _ => rfl)
  · intro i e' h' b he hlv hh' hb
    obtain ⟨hik, e0, he0, hl0⟩ := hold i e' he hlv
    have h3 := hh.mem.blk i e0 h' b he0 hl0 hh' hb
    refine ⟨fun hb' => ?_, h3.2⟩
    rcases hb' with hb' | hb'
    · exact h3.1 hb'
    · exact hik (hh.mem.dis i k e0 _ h' hd b he0 hk hl0 rfl hh' hhd hb hb')
  · intro i i' e1 e2 h1 h2 b he1 he2 hl1 hl2 hh1 hh2 hb1 hb2
    obtain ⟨_, e1', he1', hl1'⟩ := hold i e1 he1 hl1
    obtain ⟨_, e2', he2', hl2'⟩ := hold i' e2 he2 hl2
    exact hh.mem.dis i i' e1' e2' h1 h2 b he1' he2' hl1' hl2' hh1 hh2 hb1 hb2
  · intro t ht
    simp only [St.thawC, List.length_map] at ht
    have e1 : (σ.thawC k j xs cs).slots.getD t .junk = (σ.slots.getD t .junk).thaw k xs := by
      simp only [St.thawC]; exact getD_map_junk _ _ _ ht
    rw [e1]
    exact hcell (hh.slot t ht)

theorem SP.conv {c : Code} {σ σ2 : St} {Q : Exit → St → Prop} (h : ∀ C ok H a w, Holds C ok H σ a w → ∃ ok', Holds C ok' H σ2 a w) (k : SP P c σ2 Q) : SP P c σ Q := ⟨fun C ok H a w hh => by
  obtain ⟨ok', hh'⟩ := h C ok H a w hh
  exact k.run C ok' H a w hh'⟩

end
end Go.Proofs.Ytdhhcmdofnjhiaa
