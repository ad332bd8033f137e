/- Elements of own rows, read and written. No program's code. No condition. -/
import Derived.Test.YtdhhcmdofnjhiaaAvM
namespace Go.Proofs.Ytdhhcmdofnjhiaa
open Go.RowKit

section
variable {P : Program} {o : Oper} {es : List Ent} {α : Type}

/-- Where an element of an own row lies. -/
theorem own_elem {ok : Nat → Prop} {w : World} {H : List Hd} {h : Hd} {e size k i off : Nat} {xs : List D} {v : Value} (hh : H[k]? = some h) (hok : EntOk ok w H h (.arr e size xs)) (hi : i < xs.length) (hv : R ok w H (.eptr k i off) v) :
    ∃ g cap cur ys, h.v = .slice (some ⟨g, 0, none⟩) xs.length cap ∧ w.heap[g]? = some (.cells cur e (0, 0)) ∧ xs.length ≤ cap ∧ cap ≤ maxLen ∧ cur.size = cap * size ∧ cur.toList.take (xs.length * size) = ys ∧ ys.length = xs.length * size ∧ Rs ok w H (flat xs) ys ∧ (∀ x ∈ xs, x.cells.length = size) ∧ v = .pointer (some ⟨g, i * size + off, none⟩) := by
  obtain ⟨h1, h2, ys, ⟨h3, h4⟩, h5⟩ := hok
  rcases h4 with ⟨h6, h7⟩ | ⟨g, cap, cur, h6, h7, h8, h9, h10, h11, h12⟩
  · omega
  · refine ⟨g, cap, cur, ys, h6, h8, h9, h10, h11, h12, h3, h5, h2, ?_⟩
    cases hv with
    | eptr _ _ _ b n c s hH =>
      rw [hh] at hH
      obtain rfl := Option.some.inj hH
      simp only [Value.slice.injEq, Option.some.injEq, Addr.mk.injEq] at h6
      simp only at h1
      rw [h6.1.1, h1]

theorem idx_lt {size n i j : Nat} (hi : i < n) (hj : j < size) : i * size + j < n * size :=
  calc i * size + j < i * size + size := by omega
    _ = (i + 1) * size := by rw [Nat.succ_mul]
    _ ≤ n * size := Nat.mul_le_mul_right _ hi

/-- A part of an element of an own row. -/
theorem ok_load_elem {x : Operand} {t : TypeId} {agg : Bool} {k n i off e size : Nat} {y : D} (enc : α → D) {l : List α} {a : α} (hy : y = cellsVar agg (enc a).cells off n) (hk : es[k]? = some (.arr e size (List.map enc l))) (ha : l[i]? = some a) (hT : Ty P t agg n) (hn : off + n ≤ (enc a).cells.length) (h1 : agg = false → n = 1)
    (ho : o.op = .load t x) : OpOk P o [(x, .eptr k i off)] es (.d y) es :=
  .pure fun ok H ac w hent hl hn' => by
    have hx := mem1 hn'
    simp only at hx
    subst hy
    obtain ⟨h, hh, hok⟩ := ent_at hent hl hk
    obtain ⟨hil, hia⟩ := List.getElem?_eq_some_iff.1 ha
    have hil' : i < (List.map enc l).length := by simpa using hil
    obtain ⟨g, cap, cur, ys, e1, e2, e3, e4, e5, e6, e7, e8, e9, e10⟩ := own_elem hh hok hil' hx
    have hgetD : (List.map enc l).getD i dz = enc a := by simp [List.getD, hil, hia]
    have hsz : (enc a).cells.length = size := by
      refine e9 _ ?_
      exact List.mem_map.2 ⟨a, by rw [← hia]; exact List.getElem_mem hil, rfl⟩
    have hfl := flat_len e9
    have hcell : ∀ j, j < size → w.cell? ⟨g, i * size + j, none⟩ = some (ys.getD (i * size + j) undef) := by
      intro j hj
      have h13 := idx_lt hil' hj
      have hcur : (List.map enc l).length * size ≤ cur.size := by rw [e5]; exact Nat.mul_le_mul_right _ e3
      have e11 : ys.getD (i * size + j) undef = cur[i * size + j]'(by omega) := by
        rw [← e6]
        have h14 : i * size + j < l.length * size := by simpa using h13
        simp [List.getD, List.getElem?_take_of_lt h14, show i * size + j < cur.size by omega]
      rw [e11]
      simp [World.cell?, e2, show i * size + j < cur.size by omega]
    have hrs : ∀ j, j < size → ((enc a).cells.getD j dz).leaf = true ∧ RD ok w ((enc a).cells.getD j dz) (ys.getD (i * size + j) undef) := by
      intro j hj
      have h13 := e8.2 (i * size + j) (by rw [hfl]; exact idx_lt hil' hj)
      rw [flat_get e9 i j hil' hj, hgetD] at h13
      refine ⟨h13.1, ?_⟩
      cases h13.2 with | d _ _ h => exact h
    obtain ⟨v, hr, hD⟩ := load_run (ok := ok) (w := w) (b := g) (p := i * size) (cs := (enc a).cells) hT hn h1 (fun j hj => (hrs j (by omega)).1) (fun j hj => by rw [hcell j (by omega)]; rfl) (fun j hj => by unfold cellAt; rw [hcell j (by omega)]; exact (hrs j (by omega)).2)
    exact ⟨v, by simp only [execOp, ho, e10, Sem.run_bind, hr, Result.andThen_ok, Sem.run_pure], .d _ _ hD⟩

/-- Cells of an element of an own row are stored. -/
theorem ok_store_elem {t : TypeId} {x y : Operand} {k i off n e size : Nat} (enc : α → D) {l : List α} {a a' : α} {v : AV} (hk : es[k]? = some (.arr e size (List.map enc l))) (ha : l[i]? = some a) (hl : v.cells.all AV.leaf = true) (hs : ∀ w, (sizeOf t).run P w = .ok n w) (hn : v.cells.length = n)
    (hle : off + n ≤ (enc a).cells.length) (hset : (enc a').cells.map AV.d = setAt ((enc a).cells.map AV.d) off v.cells) (hc : ∀ b, (enc b).cells.length = size) (ho : o.op = .store t x y) :
    OpOk P o [(x, .eptr k i off), (y, v)] es .junk (es.set k (.arr e size (List.map enc (l.set i a')))) :=
  .eff fun C ok H ac w hm hn' => by
    have h1 := (mem2 hn').1
    have h2 := (mem2 hn').2
    simp only at h1 h2
    obtain ⟨h, hh, hok⟩ := ent_at hm.ent hm.hlen hk
    obtain ⟨hil, hia⟩ := List.getElem?_eq_some_iff.1 ha
    have hil' : i < (List.map enc l).length := by simpa using hil
    have hok1 := hok.1
    obtain ⟨g, cap, cur, ys, e1, e2, e3, e4, e5, e6, e7, e8, e9, e10⟩ := own_elem hh hok hil' h1
    have hcells := h2.cellsRs hl
    have hll : (List.map enc l).length = l.length := by simp
    rw [hll] at e1 e3 e6 e7
    have hea : (enc a).cells.length = size := hc a
    have hvl : (ac.eval y).cells.toList.length = n := by rw [hcells.1, hn]
    have hsz : (ac.eval y).cells.size = n := by simpa using hvl
    have hcur : l.length * size ≤ cur.size := by rw [e5]; exact Nat.mul_le_mul_right _ e3
    have hend : i * size + off + n ≤ l.length * size := by
      have : (i + 1) * size ≤ l.length * size := Nat.mul_le_mul_right _ hil
      rw [Nat.succ_mul] at this
      omega
    have hst := run_storeCells_at (P := P) g (i * size + off) e (ac.eval y).cells.toList 0 cur w e2 (by rw [hvl]; omega) (fun u hu => by
      obtain ⟨j, hj, rfl⟩ := List.getElem_of_mem hu
      have h5 := hcells.2 j (by rw [← hcells.1]; exact hj)
      have := h5.2.leaf h5.1
      rwa [getD_of_lt hj] at this)
    simp only [Nat.add_zero] at hst
    have hel : ∀ (q : List α), ∀ y ∈ q.map enc, y.cells.length = size := fun q y hy => by obtain ⟨b, _, rfl⟩ := List.mem_map.1 hy; exact hc b
    obtain ⟨h3, h4⟩ := hm.upd (e := .arr e size (List.map enc (l.set i a'))) (w' := w.setRow g (cur.toList.take (i * size + off) ++ (ac.eval y).cells.toList ++ cur.toList.drop (i * size + off + (ac.eval y).cells.toList.length)).toArray) hk rfl hh (by rw [e1]; rfl) rfl rfl rfl (by simp [World.setRow]) (fun c hc => setRow_same' _ _ _ _ hc) (fun hg' => by
      have esz : (setAt cur.toList (i * size + off) (ac.eval y).cells.toList).length = cur.toList.length := setAt_length (by have := cur.length_toList; omega)
      refine ⟨hok1, hel _, setAt ys (i * size + off) (ac.eval y).cells.toList, ⟨?_, .inr ⟨g, cap, _, by simp; exact e1, Nat.zero_le _, setRow_heap w g cur _ e (0, 0) e2, by simpa using e3, e4, ?_, ?_⟩⟩, ?_⟩
      · rw [setAt_length (by omega)]; simpa using e7
      · have : (setAt cur.toList (i * size + off) (ac.eval y).cells.toList).length = cap * size := by rw [esz]; simpa using e5
        simpa [setAt] using this
      · rw [List.toList_toArray]
        show (setAt cur.toList (i * size + off) (ac.eval y).cells.toList).take _ = _
        rw [← e6]
        have hlen' : (List.map enc (l.set i a')).length = l.length := by simp
        rw [hlen']
        apply List.ext_getElem?
        intro j
        have hcl := cur.length_toList
        by_cases hj : j < l.length * size
        · have a1 : ((setAt cur.toList (i * size + off) (ac.eval y).cells.toList).take (l.length * size))[j]? = some ((setAt cur.toList (i * size + off) (ac.eval y).cells.toList).getD j undef) := by
            rw [List.getElem?_take_of_lt hj]
            simp [List.getD, show j < (setAt cur.toList (i * size + off) (ac.eval y).cells.toList).length by rw [esz]; omega]
          have tl : (cur.toList.take (l.length * size)).length = l.length * size := by simp; omega
          have sl : (setAt (cur.toList.take (l.length * size)) (i * size + off) (ac.eval y).cells.toList).length = l.length * size := by rw [setAt_length (by omega), tl]
          have a2 : (setAt (cur.toList.take (l.length * size)) (i * size + off) (ac.eval y).cells.toList)[j]? = some ((setAt (cur.toList.take (l.length * size)) (i * size + off) (ac.eval y).cells.toList).getD j undef) := by
            simp [List.getD, show j < (setAt (cur.toList.take (l.length * size)) (i * size + off) (ac.eval y).cells.toList).length by omega]
          rw [a1, a2, setAt_getD (by omega), setAt_getD (by omega)]
          congr 1
          split
          · rfl
          · simp [List.getD, List.getElem?_take_of_lt hj]
        · have tl : (cur.toList.take (l.length * size)).length = l.length * size := by simp; omega
          have sl : (setAt (cur.toList.take (l.length * size)) (i * size + off) (ac.eval y).cells.toList).length = l.length * size := by rw [setAt_length (by omega), tl]
          rw [List.getElem?_eq_none (by simp; omega), List.getElem?_eq_none (by omega)]
      · have hb := e8.mono hg' (Names.refl H)
        have hcr := hcells.mono hg' (Names.refl H)
        have hfl := flat_len (hel l)
        have hfl2 := flat_len (hel (l.set i a'))
        refine ⟨by rw [setAt_length (by omega), e7, hfl2]; simp, fun j hj => ?_⟩
        rw [hfl2] at hj
        simp only [List.length_map, List.length_set] at hj
        have hpos : 0 < size := by
          rcases Nat.eq_zero_or_pos size with h0 | h0
          · rw [h0, Nat.mul_zero] at hj; omega
          · exact h0
        have e0 : j = j / size * size + j % size := by rw [Nat.mul_comm]; exact (Nat.div_add_mod j size).symm
        have hq : j / size < l.length := Nat.div_lt_of_lt_mul (by rwa [Nat.mul_comm] at hj)
        have hr : j % size < size := Nat.mod_lt _ hpos
        have hdiv : j / size = i ↔ i * size ≤ j ∧ j < i * size + size := by
          rw [Nat.div_eq_iff hpos, Nat.mul_comm]; omega
        rw [hvl] at hb hcr
        generalize j / size = qd at e0 hq hdiv
        generalize j % size = qm at e0 hr
        have hg3 := flat_get (hel (l.set i a')) qd qm (by simpa using hq) hr
        rw [← e0] at hg3
        have hg1 := flat_get (hel l) qd qm (by simpa using hq) hr
        rw [← e0] at hg1
        rw [hg3, setAt_getD (by omega), hvl]
        by_cases hqi : qd = i
        · have hnew : (List.map enc (l.set i a')).getD (qd) dz = enc a' := by rw [hqi]; simp [List.getD, hil]
          have hold : (List.map enc l).getD (qd) dz = enc a := by rw [hqi]; simp [List.getD, hil, hia]
          rw [hnew]
          have hcl2 : (enc a').cells.length = size := hc a'
          have e11 : AV.d ((enc a').cells.getD (qm) dz) = (setAt ((enc a).cells.map AV.d) off v.cells).getD (qm) .junk := by
            rw [← hset]; simp [List.getD, show qm < (enc a').cells.length by omega]
          rw [e11, setAt_getD (by rw [List.length_map, hn]; exact hle), hn]
          have hji : j = i * size + qm := by rw [← hqi]; exact e0
          by_cases hin : off ≤ qm ∧ qm < off + n
          · rw [if_pos hin, if_pos (by omega)]
            have : j - (i * size + off) = qm - off := by omega
            rw [this]
            exact hcr.2 _ (by omega)
          · rw [if_neg hin, if_neg (by omega)]
            have e12 : ((enc a).cells.map AV.d).getD (qm) .junk = .d ((enc a).cells.getD (qm) dz) := by simp [List.getD, show qm < (enc a).cells.length by omega]
            rw [e12, ← hold, ← hg1]
            exact hb.2 j (by rw [hfl]; simpa using hj)
        · have hsame : (List.map enc (l.set i a')).getD (qd) dz = (List.map enc l).getD (qd) dz := by
            simp [List.getD, List.getElem?_set_ne (Ne.symm hqi)]
          have hnot : ¬ (i * size + off ≤ j ∧ j < i * size + off + n) := by
            rintro ⟨ha1, ha2⟩
            exact hqi (hdiv.2 ⟨by omega, by omega⟩)
          rw [if_neg hnot, hsame, ← hg1]
          exact hb.2 j (by rw [hfl]; simpa using hj))
    refine ⟨undef, _, ok, H, .inr ⟨rfl, ?_⟩, h4, .refl _, h3, .junk _⟩
    simp only [execOp, ho, e10, Instr.storeAt, Instr.sureAddr, storeVar, Sem.run_bind, Sem.run_pure, Result.andThen_ok, hs, hsz, ne_eq, not_true_eq_false, if_false, hst]
end
end Go.Proofs.Ytdhhcmdofnjhiaa
