/- Literals over abstract states: structs and rows; make; fields of values; parts of rows and texts. No program's code. No condition. -/
import Derived.Test.YtdhhcmdofnjhiaaAvA
namespace Go.Proofs.Ytdhhcmdofnjhiaa
open Go.RowKit

theorem foldset (off : Nat) : ∀ (vs : List Value) (i : Nat) (cells : Array Value), off + i + vs.length ≤ cells.size →
    ((vs.zipIdx i).foldl (fun cs (p : Value × Nat) => cs.setIfInBounds (off + p.2) p.1) cells).toList = setAt cells.toList (off + i) vs
  | [], i, cells, h => by simp [setAt]
  | v :: vs, i, cells, h => by
    simp only [List.length_cons] at h
    rw [List.zipIdx_cons, List.foldl_cons]
    rw [foldset off vs (i + 1) _ (by simp; omega)]
    simp only [Array.toList_setIfInBounds]
    have hlt : off + i < cells.toList.length := by simp; omega
    unfold setAt
    rw [List.set_eq_take_append_cons_drop, if_pos hlt]
    have h1 : (cells.toList.take (off + i)).length = off + i := by simp; omega
    have e1 : (List.take (off + i) cells.toList ++ v :: List.drop (off + i + 1) cells.toList).take (off + (i + 1)) = cells.toList.take (off + i) ++ [v] := by
      rw [List.take_append, h1, List.take_of_length_le (by omega)]
      have : off + (i + 1) - (off + i) = 1 := by omega
      rw [this]; simp
    have e2 : (List.take (off + i) cells.toList ++ v :: List.drop (off + i + 1) cells.toList).drop (off + (i + 1) + vs.length) = cells.toList.drop (off + i + (vs.length + 1)) := by
      rw [List.drop_append, h1, List.drop_of_length_le (by omega)]
      have : off + (i + 1) + vs.length - (off + i) = vs.length + 1 := by omega
      rw [this]; simp [List.drop_drop]; congr 1; omega
    rw [e1, e2]
    simp

def partNeeds : List (Nat × Operand) → List AV → List (Operand × AV)
  | (_, x) :: ps, v :: vs => (x, v) :: partNeeds ps vs
  | _, _ => []
def partsB (place : Nat → Option (Nat × Nat)) (n : Nat) : List (Nat × Operand) → List AV → Bool
  | (i, _) :: ps, v :: vs => (match place i with | some (off, s) => decide (v.cells.length = s) && decide (off + s ≤ n) && v.cells.all AV.leaf | none => false) && partsB place n ps vs
  | [], [] => true
  | _, _ => false
def fillA (place : Nat → Option (Nat × Nat)) : List AV → List (Nat × Operand) → List AV → List AV
  | cs, (i, _) :: ps, v :: vs => fillA place (setAt cs ((place i).getD (0, 0)).1 v.cells) ps vs
  | cs, _, _ => cs

theorem Rs.setAt {ok : Nat → Prop} {w : World} {H : List Hd} {cs ys : List AV} {vs us : List Value} {off : Nat} (h : Rs ok w H cs vs) (k : Rs ok w H ys us) (hle : off + ys.length ≤ cs.length) : Rs ok w H (setAt cs off ys) (setAt vs off us) := by
  refine ⟨by rw [setAt_length (by rw [h.1, k.1]; exact hle), setAt_length hle, h.1], fun i hi => ?_⟩
  rw [setAt_length hle] at hi
  rw [setAt_getD hle, setAt_getD (by rw [h.1, k.1]; exact hle), k.1]
  split
  · exact k.2 _ (by omega)
  · exact h.2 i hi

theorem fill_run {ok : Nat → Prop} {w : World} {H : List Hd} {place : Nat → Option (Nat × Nat)} {a : Act} : ∀ (ps : List (Nat × Operand)) (vs : List AV) (cs : List AV) (cells : Array Value), Rs ok w H cs cells.toList → partsB place cs.length ps vs = true →
    (∀ n ∈ partNeeds ps vs, R ok w H n.2 (a.eval n.1)) → ∃ cells', Instr.fill place cells (ps.map fun p => (p.1, a.eval p.2)) = some cells' ∧ Rs ok w H (fillA place cs ps vs) cells'.toList
  | [], [], cs, cells, hr, _, _ => ⟨cells, rfl, hr⟩
  | [], _ :: _, _, _, _, h, _ => by simp [partsB] at h
  | _ :: _, [], _, _, _, h, _ => by simp [partsB] at h
  | (i, x) :: ps, v :: vs, cs, cells, hr, h, hn => by
    simp only [partsB, Bool.and_eq_true] at h
    obtain ⟨h1, h2⟩ := h
    cases hp : place i with
    | none => rw [hp] at h1; cases h1
    | some os =>
      obtain ⟨off, s⟩ := os
      rw [hp] at h1
      simp only [Bool.and_eq_true, decide_eq_true_eq] at h1
      obtain ⟨⟨h3, h4⟩, h5⟩ := h1
      have hv : Rs ok w H v.cells (a.eval x).cells.toList := (hn (x, v) (by simp [partNeeds])).cellsRs h5
      have hsz : (a.eval x).cells.size = s := by have := hv.1; simp at this; omega
      have hcsz : cells.size = cs.length := by simpa using hr.1
      have hset : ((a.eval x).cells.zipIdx.foldl (fun cs (p : Value × Nat) => cs.setIfInBounds (off + p.2) p.1) cells).toList = setAt cells.toList off (a.eval x).cells.toList := by
        rw [← Array.foldl_toList, Array.toList_zipIdx]
        exact foldset off (a.eval x).cells.toList 0 cells (by simp; omega)
      have hrs := hr.setAt hv (off := off) (by omega)
      rw [← hset] at hrs
      obtain ⟨cells', hc, hR⟩ := fill_run ps vs (setAt cs off v.cells) _ hrs (by rw [setAt_length (by omega)]; exact h2) (fun n hn' => hn n (by simp [partNeeds, hn']))
      refine ⟨cells', ?_, ?_⟩
      · simp only [List.map_cons, Instr.fill, hp]
        rw [if_neg (by simp; omega)]
        exact hc
      · simp only [fillA, hp, Option.getD_some]; exact hR

def zeroRow (z : Value) (n : Nat) : List AV := (List.range n).map fun k => (zCells z).getD (k % z.cells.size) .junk
theorem zeroRow_rs {ok : Nat → Prop} {w : World} {H : List Hd} {z : Value} {n : Nat} (hl : z.cells.all (·.oneCell') = true) (hz : 0 < z.cells.size) : Rs ok w H (zeroRow z n) (((Array.range n).map (z.cells[· % z.cells.size]!)).toList) := by
  refine ⟨by simp [zeroRow], fun i hi => ?_⟩
  have hi' : i < n := by simpa [zeroRow] using hi
  have hm : i % z.cells.size < z.cells.size := Nat.mod_lt _ hz
  have e1 : (zeroRow z n).getD i .junk = .d (zD z.cells[i % z.cells.size]) := by simp [zeroRow, zCells, List.getD, hi', hm]
  have e2 : (((Array.range n).map (z.cells[· % z.cells.size]!)).toList).getD i undef = z.cells[i % z.cells.size] := by simp [List.getD, hi', hm]
  rw [e1, e2]
  exact ⟨zD_leaf ((Array.all_eq_true_iff_forall_mem.1 hl) _ (by simp)), .d _ _ (zD_ok _)⟩
theorem zCells_rs {ok : Nat → Prop} {w : World} {H : List Hd} {z : Value} (hl : z.cells.all (·.oneCell') = true) : Rs ok w H (zCells z) z.cells.toList := by
  refine ⟨by simp [zCells], fun i hi => ?_⟩
  simp only [zCells, List.length_map, Array.length_toList] at hi
  have e1 : (zCells z).getD i .junk = .d (zD z.cells[i]) := by simp [zCells, List.getD, hi]
  have e2 : z.cells.toList.getD i undef = z.cells[i] := by simp [List.getD, hi]
  rw [e1, e2]
  exact ⟨zD_leaf ((Array.all_eq_true_iff_forall_mem.1 hl) _ (by simp)), .d _ _ (zD_ok _)⟩

theorem getDs_of_flat {l : List AV} {ys : List D} (h : l = flat ys) : True := trivial

theorem run_mapM_places {P : Program} {w : World} : ∀ (l : List Field), (∀ f ∈ l, (P.info? f.type).isSome = true) →
    (l.mapM fun f => (do pure (f.offset, ← sizeOf f.type) : Sem (Nat × Nat))).run P w = .ok (l.map fun f => (f.offset, P.cellsOf f.type)) w
  | [], _ => rfl
  | f :: l, h => by
    obtain ⟨i, hi⟩ := Option.isSome_iff_exists.1 (h f (by simp))
    have ih := run_mapM_places (P := P) (w := w) l (fun g hg => h g (by simp [hg]))
    have hs : (sizeOf f.type).run P w = .ok i.size w := by simp [sizeOf, typeInfo, hi]
    have hc : P.cellsOf f.type = i.size := by simp [Program.cellsOf, hi]
    simp only [List.mapM_cons, Sem.run_bind, hs, Result.andThen_ok, Sem.run_pure, ih, List.map_cons, hc]

/-- A struct type: its fields' places, its zero value. -/
structure StructOk (P : Program) (t : TypeId) (places : List (Nat × Nat)) (z : Value) : Prop where
  fields : ∃ fs, P.underlying t = some (.struct fs) ∧ (∀ f ∈ fs.toList, (P.info? f.type).isSome = true) ∧ (fs.toList.map fun f => (f.offset, P.cellsOf f.type)) = places
  zero : (P.info? t).bind (·.zero) = some z
  one : z.cells.all (·.oneCell') = true
def structB (P : Program) (t : TypeId) (places : List (Nat × Nat)) : Bool :=
  match P.underlying t with
  | some (.struct fs) => fs.toList.all (fun f => (P.info? f.type).isSome) && decide ((fs.toList.map fun f => (f.offset, P.cellsOf f.type)) = places)
  | _ => false
theorem struct_of {P : Program} {t : TypeId} {places : List (Nat × Nat)} {z : Value} (h : structB P t places = true) (hz : (P.info? t).bind (·.zero) = some z) (h1 : z.cells.all (·.oneCell') = true) : StructOk P t places z := by
  unfold structB at h
  split at h
  · rename_i fs hu
    simp only [Bool.and_eq_true, List.all_eq_true, decide_eq_true_eq] at h
    exact ⟨⟨fs, hu, h.1, h.2⟩, hz, h1⟩
  · cases h

section
variable {P : Program} {o : Oper} {es : List Ent}

theorem run_zero {t : TypeId} {z : Value} (hz : (P.info? t).bind (·.zero) = some z) (w : World) : (zeroValue t).run P w = .ok z w := by
  obtain ⟨i, hi, hz'⟩ := Option.bind_eq_some_iff.1 hz
  simp [zeroValue, typeInfo, hi, hz']

theorem isD_toD {l : List AV} (h : l.all AV.isD = true) : l = (getDs l).map .d := by
  rw [List.all_eq_true] at h
  unfold getDs
  rw [List.map_map]
  conv => lhs; rw [← List.map_id l]
  refine List.map_congr_left fun x hx => ?_
  have := h x hx
  cases x <;> first | rfl | (simp [AV.isD] at this)

/-- A struct's value, of data. -/
theorem ok_build {t : TypeId} {parts : Array (Nat × Operand)} {places : List (Nat × Nat)} {z : Value} (hS : StructOk P t places z) (vs : List AV) (hp : partsB (fun (i : Nat) => places[i]?) (zCells z).length parts.toList vs = true)
    (hd : (fillA (fun (i : Nat) => places[i]?) (zCells z) parts.toList vs).all AV.isD = true) (ho : o.op = .build t parts) :
    OpOk P o (partNeeds parts.toList vs) es (.d (.agg (getDs (fillA (fun (i : Nat) => places[i]?) (zCells z) parts.toList vs)))) es :=
  .pure fun ok H a w _ _ hn => by
    obtain ⟨⟨fs, hu, hf, hpl⟩, hz, h1⟩ := hS
    have hzr := run_zero (P := P) hz w
    have hu' : (underlying t).run P w = .ok (.struct fs) w := by simp [underlying, hu]
    have hm : (fs.mapM fun f => (do pure (f.offset, ← sizeOf f.type) : Sem (Nat × Nat))).run P w = .ok places.toArray w := by
      rw [Array.mapM_eq_mapM_toList]
      rw [Sem.run_map, run_mapM_places _ hf, hpl]
      rfl
    obtain ⟨cells', hc, hR⟩ := fill_run (place := fun (i : Nat) => places[i]?) parts.toList vs (zCells z) z.cells (zCells_rs (ok := ok) (w := w) (H := H) h1) hp hn
    refine ⟨.agg cells', ?_, .d _ _ ?_⟩
    · have e : (parts.map fun (i, x) => (i, a.eval x)).toList = parts.toList.map fun p => (p.1, a.eval p.2) := by simp
      have e2 : (fun (i : Nat) => places.toArray[i]?) = (fun (i : Nat) => places[i]?) := by funext i; simp
      simp only [execOp, ho, Instr.build, Sem.run_bind, hzr, hu', hm, Result.andThen_ok]
      rw [e, e2, hc]
      rfl
    · rw [isD_toD hd] at hR
      generalize getDs (fillA (fun (i : Nat) => places[i]?) (zCells z) parts.toList vs) = xs at hR ⊢
      obtain ⟨h2, h3⟩ := hR
      simp only [List.length_map] at h2 h3
      have hg : ∀ i, i < xs.length → (xs.map AV.d).getD i .junk = .d (xs.getD i dz) := by
        intro i hi; simp [List.getD, hi]
      have hsz : cells'.size = xs.length := by simpa using h2
      refine .agg xs cells' hsz ?_ ?_ <;> intro i hi
      · have := (h3 i hi).1; rw [hg i hi] at this; exact this
      · have h4 := (h3 i hi).2
        rw [hg i hi] at h4
        have hi2 : i < cells'.size := by omega
        have e : cells'.toList.getD i undef = cells'.getD i undef := by simp [List.getD, Array.getD, hi2]
        rw [e] at h4
        cases h4 with | d _ _ h => exact h

theorem flat_leaf_len {ys : List D} {size : Nat} (h : ∀ y ∈ ys, y.cells.length = size) : (flat ys).length = ys.length * size := flat_len h

/-- A literal row, from its cells in a new block. -/
theorem rd_row {ok : Nat → Prop} {w : World} {H : List Hd} {ys : List D} {size b : Nat} {cells : Array Value} {e : TypeId} {fr : Nat × Nat} (hy : ∀ y ∈ ys, y.cells.length = size) (hb : w.heap[b]? = some (.cells cells e fr)) (hok : ok b) (hr : Rs ok w H (flat ys) cells.toList) :
    RD ok w (.sl ys) (.slice (some ⟨b, 0, none⟩) ys.length ys.length) := by
  have hl := flat_len hy
  have hcs : cells.size = ys.length * size := by have := hr.1; simp at this; omega
  have hg : ∀ i, i < ys.length → ys.getD i dz ∈ ys := fun i hi => by simp [List.getD, hi]
  have hk : ∀ i j, i < ys.length → j < size → i * size + j < ys.length * size := by
    intro i j hi hj
    calc i * size + j < i * size + size := by omega
      _ = (i + 1) * size := by rw [Nat.succ_mul]
      _ ≤ ys.length * size := Nat.mul_le_mul_right _ hi
  have hc : ∀ i j, i < ys.length → j < size → w.cell? ⟨b, 0 + (i * size + j), none⟩ = some (cells.toList.getD (i * size + j) undef) := by
    intro i j hi hj
    have := hk i j hi hj
    rw [Nat.zero_add]
    simp [World.cell?, hb, hcs, this, List.getD]
  refine .sl ys b 0 ys.length size (Nat.le_refl _) hok (fun i hi => hy _ (hg i hi)) (fun i hi j hj => ?_) (fun i hi j hj => ?_) (fun i hi j hj => ?_)
  · have := (hr.2 (i * size + j) (by rw [hl]; exact hk i j hi hj)).1
    rw [flat_get hy i j hi hj] at this
    exact this
  · rw [hc i j hi hj]; rfl
  · have := (hr.2 (i * size + j) (by rw [hl]; exact hk i j hi hj)).2
    rw [flat_get hy i j hi hj] at this
    unfold cellAt
    rw [hc i j hi hj]
    cases this with | d _ _ h => exact h

theorem buildSlice_run {t e : TypeId} {size bytes len : Nat} {z : Value} (hE : El P t e size bytes) (hz : (P.info? e).bind (·.zero) = some z) (h1 : z.cells.all (·.oneCell') = true) (hzs : z.cells.size = size) (hlen : len * size ≤ 16777216) {parts : Array (Nat × Operand)} {vs : List AV}
    (hp : partsB (fun i => some (i * size, size)) (len * size) parts.toList vs = true) {ok : Nat → Prop} {w : World} {H : List Hd} {a : Act} (hn : ∀ n ∈ partNeeds parts.toList vs, R ok w H n.2 (a.eval n.1)) :
    ∃ cells, (Instr.buildSlice t len (parts.map fun (i, x) => (i, a.eval x))).run P w = .ok (.slice (some ⟨w.heap.size, 0, none⟩) len len) (w.alloc (.cells cells e)) ∧ Rs ok w H (fillA (fun i => some (i * size, size)) (zeroRow z (len * size)) parts.toList vs) cells.toList := by
  obtain ⟨i, z', hi, _, hs, _, _⟩ := hE.info
  have hzr := run_zero (P := P) hz w
  have hsz : (sizeOf e).run P w = .ok size w := by simp [sizeOf, typeInfo, hi, hs]
  have hu' : (underlying t).run P w = .ok (.slice e) w := by simp [underlying, hE.und]
  have e0 : (parts.map fun (i, x) => (i, a.eval x)).toList = parts.toList.map fun p => (p.1, a.eval p.2) := by simp
  have hzl : (zeroRow z (len * size)).length = len * size := by simp [zeroRow]
  have hpos : 0 < z.cells.size := by rw [hzs]; exact hE.pos
  obtain ⟨cells', hc, hR⟩ := fill_run (place := fun i => some (i * size, size)) parts.toList vs (zeroRow z (len * size)) _ (zeroRow_rs (ok := ok) (w := w) (H := H) (n := len * size) h1 hpos) (by rw [hzl]; exact hp) hn
  refine ⟨cells', ?_, hR⟩
  have h24 : ¬ (len * size > 2 ^ 24) := by omega
  by_cases h0 : len * size = 0
  · have hr0 : (Array.range (len * size)).map (fun k => (z.cells[k % z.cells.size]! : Value)) = #[] := by rw [h0]; simp
    rw [hr0] at hc
    have hr1 : (Array.range (len * size)).map (fun k => ((#[] : Array Value)[k % (#[] : Array Value).size]! : Value)) = #[] := by rw [h0]; simp
    simp only [Instr.buildSlice, Sem.run_bind, hu', Result.andThen_ok, hsz, h24, if_false, Sem.run_ite, h0, if_true, Sem.run_pure]
    simp only [h0] at hr1
    rw [hr1, e0, hc]
    rfl
  · simp only [Instr.buildSlice, Sem.run_bind, hu', Result.andThen_ok, hsz, h24, if_false, Sem.run_ite, h0, hzr, Sem.run_pure]
    rw [e0, hc]
    rfl

/-- A literal row that will not turn. -/
theorem ok_lits {t e : TypeId} {size bytes len : Nat} {z : Value} (hE : El P t e size bytes) (hz : (P.info? e).bind (·.zero) = some z) (h1 : z.cells.all (·.oneCell') = true) (hzs : z.cells.size = size) (hlen : len * size ≤ 16777216) {parts : Array (Nat × Operand)} (vs : List AV) (ys : List D)
    (hp : partsB (fun i => some (i * size, size)) (len * size) parts.toList vs = true) (hy : fillA (fun i => some (i * size, size)) (zeroRow z (len * size)) parts.toList vs = flat ys) (hl : ys.length = len) (hyl : ys.all (fun y => decide (y.cells.length = size)) = true) (ho : o.op = .buildSlice t len parts) :
    OpOk P o (partNeeds parts.toList vs) es (.d (.sl ys)) es :=
  .eff fun C ok H a w hm hn => by
    obtain ⟨cells, hr, hrs⟩ := buildSlice_run hE hz h1 hzs hlen hp hn
    rw [hy] at hrs
    obtain ⟨h2, h3⟩ := hm.fresh (.cells cells e)
    refine ⟨.slice (some ⟨w.heap.size, 0, none⟩) len len, _, _, H, .inl ?_, h3, .refl _, h2, .d _ _ ?_⟩
    · simp only [execOp, ho, Sem.run_bind, hr, Result.andThen_ok, Sem.run_pure]
    · rw [← hl]
      exact rd_row (H := H) (fun y hy => by rw [List.all_eq_true] at hyl; simpa using hyl y hy) (heap_alloc_new w _) (.inr rfl) (hrs.mono h3 (.refl _))
/-- A literal row of one's own. -/
theorem ok_lits_own {t e : TypeId} {size bytes len : Nat} {z : Value} (hE : El P t e size bytes) (hz : (P.info? e).bind (·.zero) = some z) (h1 : z.cells.all (·.oneCell') = true) (hzs : z.cells.size = size) (hlen : len * size ≤ 16777216) {parts : Array (Nat × Operand)} (vs : List AV) (ys : List D)
    (hp : partsB (fun i => some (i * size, size)) (len * size) parts.toList vs = true) (hy : fillA (fun i => some (i * size, size)) (zeroRow z (len * size)) parts.toList vs = flat ys) (hl : ys.length = len) (hyl : ys.all (fun y => decide (y.cells.length = size)) = true) (ho : o.op = .buildSlice t len parts) :
    OpOk P o (partNeeds parts.toList vs) es (.osl es.length) (es ++ [.arr e size ys]) :=
  .eff fun C ok H a w hm hn => by
    obtain ⟨cells, hr, hrs⟩ := buildSlice_run hE hz h1 hzs hlen hp hn
    rw [hy] at hrs
    have hy' : ∀ y ∈ ys, y.cells.length = size := fun y hy => by rw [List.all_eq_true] at hyl; simpa using hyl y hy
    have hfl := flat_len hy'
    have hcs : cells.size = ys.length * size := by have := hrs.1; simp at this; omega
    have hpos := hE.pos
    have hmax : ys.length ≤ 16777216 := by
      have : ys.length * 1 ≤ ys.length * size := Nat.mul_le_mul_left _ hpos
      rw [hl] at this ⊢
      omega
    obtain ⟨h2, h3⟩ := hm.push (.cells cells e) ⟨.slice (some ⟨w.heap.size, 0, none⟩) len len, size⟩ (.arr e size ys) (fun b hb => by simpa [blkOf] using hb.symm) (by
      refine ⟨rfl, hy', cells.toList, ⟨by simpa using hcs, .inr ⟨w.heap.size, len, cells, by rw [hl], Nat.zero_le _, heap_alloc_new w _, by omega, by unfold maxLen; omega, by rw [hcs, hl], ?_⟩⟩, ?_⟩
      · rw [List.take_of_length_le (by simp; omega)]
      · exact hrs.mono (fun b hb => ⟨hb, Below.heap_alloc _ _ _ (hm.okLt b hb)⟩) (Names.push _ _))
    refine ⟨.slice (some ⟨w.heap.size, 0, none⟩) len len, _, ok, _, .inl ?_, h3, Names.push _ _, h2, .osl _ _ _ _ size (by rw [← hm.hlen]; simp)⟩
    simp only [execOp, ho, Sem.run_bind, hr, Result.andThen_ok, Sem.run_pure]
end
end Go.Proofs.Ytdhhcmdofnjhiaa
