/- Laws of this work's own that no program is named in: whole structs loaded and stored as one aggregate, an append of one element. No condition. -/
import Derived.WalkKit
import Derived.WalkSpells
import Derived.WalkLawsBesides
import Derived.Lib.Hide
import Derived.Laws.AppendOwnNone
import Derived.Laws.CopyOwn
import Derived.Lib.AppendStr
import Derived.Laws.IdiomStrings
import Derived.Laws.BitsAllLaws
namespace Go.Proofs.Ytdhhcmdofnjhiaa
open Go.RowKit

/-- The facts on an element type that append asks. -/
def AppInfo (P : Program) (t e : TypeId) (size bytes : Nat) : Prop :=
  ∃ i z, P.underlying t = some (.slice e) ∧ P.info? e = some i ∧ i.zero = some z ∧ i.size = size ∧ i.bytes = bytes ∧ z.cells.size = size ∧ 0 < size

theorem appInfo_mk {P : Program} {t e : TypeId} {size bytes : Nat} (z : Value) (ht : P.underlying t = some (.slice e))
    (hi : (P.info? e).map (fun i => (i.zero, i.size, i.bytes)) = some (some z, size, bytes)) (hz : z.cells.size = size) (hs : 0 < size) : AppInfo P t e size bytes := by
  obtain ⟨i, h1, h2, h3, h4⟩ := info_parts hi
  exact ⟨i, z, ht, h1, h2, h3, h4, hz, hs⟩

theorem addr_add (b o j : Nat) : (⟨b, o, none⟩ : Addr).add j = ⟨b, o + j, none⟩ := by
  unfold Addr.add; split <;> simp_all

section
variable {P : Program} {ops : Array Oper} {rest : List Oper} {o : Oper} {a : Act} {w : World} {Q : Exit → Act → World → Prop}

theorem run_loadVar_agg (w : World) (ty : TypeId) (b off : Nat) (cs : Array Value) (hA : (isAgg ty).run P w = .ok true w) (hS : (sizeOf ty).run P w = .ok cs.size w)
    (hc : ∀ j, j < cs.size → w.cell? ⟨b, off + j, none⟩ = some (cs.getD j undef)) : (loadVar ty ⟨b, off, none⟩).run P w = .ok (.agg cs) w := by
  have hl : (loadCells ⟨b, off, none⟩ cs.toList.length).run P w = .ok cs.toList.toArray w :=
    run_loadCells_list (P := P) w ⟨b, off, none⟩ cs.toList (fun j v hv => by
      rw [addr_add]
      have hj : j < cs.size := by
        have := (List.getElem?_eq_some_iff.1 hv).1; simpa using this
      rw [hc j hj]
      simp only [Array.getElem?_toList] at hv
      simp [Array.getD, hj] at hv ⊢
      exact hv)
  simp only [Array.length_toList, Array.toArray_toList] at hl
  simp only [loadVar, Sem.run_bind, hA, hS, Result.andThen_ok, if_true, hl, Sem.run_pure]

/-- A whole struct is loaded: its cells lie at the address. -/
theorem wpList_load_agg (hgd : o.guard = none) (ty : TypeId) (x : Operand) (ho : o.op = .load ty x) (b off : Nat) (hx : a.eval x = .pointer (some ⟨b, off, none⟩))
    (cs : Array Value) (n : Nat) (hA : ∀ w, (isAgg ty).run P w = .ok true w) (hS : ∀ w, (sizeOf ty).run P w = .ok n w) (hn : cs.size = n)
    (hc : ∀ j, j < n → w.cell? ⟨b, off + j, none⟩ = some (cs.getD j undef))
    (h : wpList P ops Q rest (a.put o.dst (.agg cs)) w) : wpList P ops Q (o :: rest) a w := by
  refine wpList_plain hgd fun _ hK => ?_
  unfold Oper.wp execOp
  subst hn
  simp only [ho, hx, Instr.loadAt, Instr.sureAddr, Sem.run_bind, Sem.run_pure, Result.andThen_ok, run_loadVar_agg (P := P) w ty b off cs (hA w) (hS w) hc]
  exact hK _ _ h

theorem setRow_alloc (w : World) (old cs : Array Value) (t : TypeId) : (w.alloc (.cells old t)).setRow w.heap.size cs = w.alloc (.cells cs t) := by
  unfold World.setRow
  show ({ w with heap := (w.heap.push (.cells old t)).modify w.heap.size _ } : World) = { w with heap := w.heap.push (.cells cs t) }
  congr 1
  apply Array.ext
  · simp
  · intro i h1 h2
    simp only [Array.getElem_modify, Array.getElem_push]
    by_cases hi : i = w.heap.size
    · subst hi; simp
    · have : i < w.heap.size := by simp at h2; omega
      simp [this, Ne.symm hi]

/-- A whole struct is stored into the block that was made last. -/
theorem wpList_store_new (hgd : o.guard = none) (ty : TypeId) (x y : Operand) (ho : o.op = .store ty x y) (w0 : World) (t : TypeId) (old cs : Array Value)
    (hw : w = w0.alloc (.cells old t)) (g : Nat) (hx : a.eval x = .pointer (some ⟨g, 0, none⟩)) (hg : g = w0.heap.size) (hy : a.eval y = .agg cs) (n : Nat)
    (hi : (P.info? ty).map (·.size) = some n) (hn : cs.size = n) (hold : old.size = n) (h1 : cs.all (·.oneCell') = true)
    (h : wpList P ops Q rest (a.put o.dst undef) (w0.alloc (.cells cs t))) : wpList P ops Q (o :: rest) a w := by
  subst hw
  subst hn
  subst hg
  refine wpList_store_row hgd ty x y ho w0.heap.size cs hx hy t old (heap_alloc_new w0 _) hi hold h1 ?_
  rw [setRow_alloc]; exact h

/-- 'append(s, x)' of one element of one cell, s owned. -/
theorem wpList_app1 (hgd : o.guard = none) (s x : Operand) (t : TypeId) (ho : o.op = .call { callee := .builtin .append, args := #[s, x], argTypes := #[t, t] })
    (base : Nat) (e : TypeId) (bytes : Nat) (hI : AppInfo P t e 1 bytes) (v : Value) (n : Nat) (xs : List Value) (hs : a.eval s = v)
    (w0 : World) (u : Value) (hw : w = w0.alloc (.cells #[u] e)) (hown : w0.ownsRow base e 1 v n xs) (g : Nat) (hx : a.eval x = .slice (some ⟨g, 0, none⟩) 1 1) (hg : g = w0.heap.size)
    (hu : u.oneCell' = true) (hbytes : (n + 1) * bytes ≤ 140737488355328) (hn : n + 1 ≤ 140737488355328) (hbase : base ≤ w0.heap.size)
    (h : ∀ v' w', w'.ownsRow base e 1 v' (n + 1) (xs ++ [u]) → (∀ B W, B ≤ base → Below B W w0 → Below B W w') → v' ≠ .slice none 0 0 → wpList P ops Q rest (a.put o.dst v') w') :
    wpList P ops Q (o :: rest) a w := by
  subst hw
  subst hg
  obtain ⟨i, z, ht, hi, hz, hsz, hby, hzs, hpos⟩ := hI
  refine wpList_append_own _ hgd s x t ho base e i z 1 bytes ht hi hz hsz hby hzs hpos v n xs hs (hown.alloc _) ⟨w0.heap.size, 0, none⟩ 1 1 [u] hx rfl ?_ ?_ ?_ hbytes ?_ ?_
  · intro j y hj
    match j, hj with
    | 0, hj =>
      simp at hj; subst hj
      rw [addr_add, cell_of_row _ _ 0 #[u] e (0, 0) (heap_alloc_new w0 _)]; rfl
  · intro y hy; simp at hy; subst hy; exact hu
  · unfold maxLen; omega
  · simp; omega
  · intro v' w' h1 h2 h3
    refine h v' w' h1 (fun B W hB hb => ?_) ?_
    · refine (hb.alloc ?_ _).grown h2 ?_ ?_
      · omega
      · simp; omega
      · intro k hk
        have := (hown.lt k hk).1
        omega
    · intro e; have := h3.1 e; omega
end

/-- What is appended: news, m elements; nothing is asked of the address where there is none. -/
def SrcCells (w : World) (v : Value) (m size : Nat) (news : List Value) : Prop :=
  ∃ ad c, v = .slice ad m c ∧ (ad = none → c = 0) ∧ m ≤ c ∧ news.length = m * size ∧ (∀ u ∈ news, u.oneCell' = true) ∧
    ∀ j u, news[j]? = some u → ∃ b o, ad = some ⟨b, o, none⟩ ∧ w.cell? ⟨b, o + j, none⟩ = some u

/-- 'append(s, x...)', s owned, x any readable slice. -/
theorem wpList_app_src {P : Program} {ops : Array Oper} {rest : List Oper} {o : Oper} {a : Act} {w : World} {Q : Exit → Act → World → Prop}
    (hgd : o.guard = none) (s x : Operand) (t : TypeId) (ho : o.op = .call { callee := .builtin .append, args := #[s, x], argTypes := #[t, t] })
    (base : Nat) (e : TypeId) (size bytes : Nat) (hI : AppInfo P t e size bytes) (v : Value) (n : Nat) (xs : List Value) (hs : a.eval s = v) (hown : w.ownsRow base e size v n xs)
    (x2 : Value) (hx : a.eval x = x2) (m : Nat) (news : List Value) (hsrc : SrcCells w x2 m size news)
    (hbytes : (n + m) * bytes ≤ 140737488355328) (hn : n + m ≤ 140737488355328) (hbase : base ≤ w.heap.size)
    (h : ∀ v' w', w'.ownsRow base e size v' (n + m) (xs ++ news) → (∀ B W, B ≤ base → Below B W w → Below B W w') → (v' = .slice none 0 0 → v = .slice none 0 0 ∧ m = 0) → wpList P ops Q rest (a.put o.dst v') w') :
    wpList P ops Q (o :: rest) a w := by
  obtain ⟨i, z, ht, hi, hz, hsz, hby, hzs, hpos⟩ := hI
  obtain ⟨ad, c, rfl, hc, hmc, hl, h1, hcells⟩ := hsrc
  rcases ad with _ | ad
  · have hc0 := hc rfl
    have hm0 : m = 0 := by omega
    subst hm0; subst hc0
    have hnews : news = [] := List.eq_nil_of_length_eq_zero (by simpa using hl)
    subst hnews
    refine wpList_append_own_none hgd s x t ho base e i size ht hi v n xs hs hown hx ?_
    exact h v w (by simpa using hown) (fun B W _ hb => hb) (fun e => ⟨e, rfl⟩)
  · refine wpList_append_own _ hgd s x t ho base e i z size bytes ht hi hz hsz hby hzs hpos v n xs hs hown ad m c news hx hl ?_ h1 ?_ hbytes hbase ?_
    · intro j u hj
      obtain ⟨b, of, e1, e2⟩ := hcells j u hj
      simp at e1; subst e1
      rw [addr_add]; exact e2
    · unfold maxLen; omega
    · intro v' w' g1 g2 g3
      refine h v' w' g1 (fun B W hB hb => ?_) g3.1
      refine hb.grown g2 (by omega) (fun k hk => ?_)
      have := (hown.lt k hk).1
      omega

theorem ownsRow_lower {w : World} {base base' e size : Nat} {v : Value} {n : Nat} {xs : List Value} (h : w.ownsRow base e size v n xs) (hb : base' ≤ base) : w.ownsRow base' e size v n xs := by
  refine ⟨h.1, ?_⟩
  rcases h.2 with hn | ⟨g, cap, cur, h1, h2, rest⟩
  · exact .inl hn
  · exact .inr ⟨g, cap, cur, h1, Nat.le_trans hb h2, rest⟩

theorem ownsRow_stay {w w' : World} {base e size : Nat} {v : Value} {n : Nat} {xs : List Value} (h : w.ownsRow base e size v n xs) (hb : Below w.heap.size w w') : w'.ownsRow base e size v n xs := by
  refine ⟨h.1, ?_⟩
  rcases h.2 with hn | ⟨g, cap, cur, h1, h2, h3, rest⟩
  · exact .inl hn
  · exact .inr ⟨g, cap, cur, h1, h2, by rw [hb.block g (Array.getElem?_eq_some_iff.1 h3).1]; exact h3, rest⟩

/-- The facts on an element type of one cell that make asks. -/
def MakeInfo (P : Program) (t e : TypeId) (z : Value) (bytes : Nat) : Prop :=
  ∃ i, P.underlying t = some (.slice e) ∧ P.info? e = some i ∧ i.zero = some z ∧ i.size = 1 ∧ i.bytes = bytes ∧ z.cells = #[z]
theorem makeInfo_mk {P : Program} {t e : TypeId} {bytes : Nat} (z : Value) (ht : P.underlying t = some (.slice e))
    (hi : (P.info? e).map (fun i => (i.zero, i.size, i.bytes)) = some (some z, 1, bytes)) (hz : z.cells = #[z]) : MakeInfo P t e z bytes := by
  obtain ⟨i, h1, h2, h3, h4⟩ := info_parts hi
  exact ⟨i, ht, h1, h2, h3, h4, hz⟩

section
variable {P : Program} {ops : Array Oper} {rest : List Oper} {o : Oper} {a : Act} {w : World} {Q : Exit → Act → World → Prop}
/-- 'make([]T, l, c)', elements of one cell. -/
theorem wpList_make_lc (hgd : o.guard = none) (x y : Operand) (t : TypeId) (ho : o.op = .makeSlice t x y) (e : TypeId) (z : Value) (bytes : Nat) (hI : MakeInfo P t e z bytes)
    (l c : Int) (hx : a.eval x = .int .i64 l) (hy : a.eval y = .int .i64 c) (h0 : 0 ≤ l) (hlc : l ≤ c) (hb : (bytes : Int) * c ≤ 281474976710656) (hc : c ≤ 281474976710656) (base : Nat) (hbase : base ≤ w.heap.size)
    (h : ∀ w', w'.ownsRow base e 1 (.slice (some ⟨w.heap.size, 0, none⟩) l.toNat c.toNat) l.toNat (List.replicate l.toNat z) → (∀ B W, B ≤ base → Below B W w → Below B W w') →
      wpList P ops Q rest (a.put o.dst (.slice (some ⟨w.heap.size, 0, none⟩) l.toNat c.toNat)) w') : wpList P ops Q (o :: rest) a w := by
  obtain ⟨i, ht, hi, hz, hsz, hby, hzs⟩ := hI
  refine wpList_plain hgd fun _ hK => ?_
  have hr := run_make (P := P) w t e i z ht hi hz .i64 .i64 l c h0 hlc (by rw [hby]; exact hb) (by omega)
  unfold Oper.wp execOp
  simp only [ho, hx, hy, Sem.run_bind, Sem.run_pure, hr, Result.andThen_ok]
  refine hK _ _ (h _ ?_ (fun B W hB hbl => hbl.alloc (by omega) _))
  rw [hzs, hsz, Nat.mul_one]
  refine ⟨by simp, .inr ⟨w.heap.size, c.toNat, _, rfl, hbase, heap_alloc_new w _, by omega, by unfold maxLen; omega, by simp [size_madeCells], ?_⟩⟩
  rw [toList_madeCells_one, List.take_replicate, Nat.mul_one, Nat.min_eq_left (by omega)]

/-- 'copy(d, s)', d a whole row of the call's own, s of the same length. -/
theorem wpList_copy_whole (hgd : o.guard = none) (x y : Operand) (t : TypeId) (ho : o.op = .call { callee := .builtin .copy, args := #[x, y], argTypes := #[t, t] })
    (base : Nat) (e : TypeId) (hu : P.underlying t = some (.slice e)) (hsz : (P.info? e).map (·.size) = some 1) (g n cap : Nat) (xs : List Value) (hx : a.eval x = .slice (some ⟨g, 0, none⟩) n cap)
    (hown : w.ownsRow base e 1 (.slice (some ⟨g, 0, none⟩) n cap) n xs) (v2 : Value) (hy : a.eval y = v2) (news : List Value) (hsrc : SrcCells w v2 n 1 news)
    (h : ∀ w', w'.ownsRow base e 1 (.slice (some ⟨g, 0, none⟩) n cap) n news → (∀ B W, B ≤ base → Below B W w → Below B W w') → wpList P ops Q rest (a.put o.dst (goInt news.length)) w') :
    wpList P ops Q (o :: rest) a w := by
  obtain ⟨ad, c, rfl, hc, hmc, hl, h1, hcells⟩ := hsrc
  rcases hown.2 with ⟨e0, _⟩ | ⟨g', cap', cur, e0, hbase, hg, hnc, hcm, hcs, htake⟩
  · cases e0
  simp only [Value.slice.injEq, Option.some.injEq, Addr.mk.injEq] at e0
  obtain ⟨⟨rfl, -, -⟩, -, rfl⟩ := e0
  have hln : news.length = n := by omega
  refine wpList_copy_splice hgd x y t t ho e hu hsz _ _ n cap n c hx hy g 0 cur.toList e (by simpa using hg) news (by simp [hln]) ?_ (by simp; omega) h1 base w (Below.refl _ _) hbase ?_
  · intro hp
    refine ⟨rfl, ?_⟩
    obtain ⟨b, o', e1, e2⟩ := hcells 0 (news[0]) (by simp [hp])
    subst e1
    refine ⟨_, rfl, fun j u hj => ?_⟩
    obtain ⟨b', o'', e1', e2'⟩ := hcells j u hj
    simp at e1'
    obtain ⟨rfl, rfl⟩ := e1'
    rw [addr_add]; exact e2'
  · intro w' hw' hb'
    refine h w' ⟨by omega, .inr ⟨g, cap, _, rfl, hbase, hw'.out, hnc, hcm, ?_, ?_⟩⟩ (fun B W hB hbl => hbl.trans (hb'.mono hB))
    · have : (splice cur.toList 0 news).length = cur.toList.length := by simp [splice]; omega
      simp [this, hcs]
    · simp [splice, hln]
end

/-- A text's bytes as numbers. -/
def sb (s : ByteArray) : List Int := s.data.toList.map fun b => (b.toNat : Int)
theorem sb_length (s : ByteArray) : (sb s).length = s.size := by unfold sb; rw [List.length_map, Array.length_toList]; rfl
theorem strCells_sb (s : ByteArray) : Lib.strCells s = (sb s).map (.int .u8) := by unfold Lib.strCells sb; rw [List.map_map]; rfl
theorem sb_inj {s t : ByteArray} (h : sb s = sb t) : s = t := by
  unfold sb at h
  have : s.data.toList = t.data.toList := by
    refine (List.map_inj_right (f := fun b : UInt8 => (b.toNat : Int)) ?_).1 h
    intro a b e
    exact UInt8.toNat_inj.1 (Int.ofNat_inj.1 e)
  cases s; cases t; simp at this; subst this; rfl

section
variable {P : Program} {ops : Array Oper} {rest : List Oper} {o : Oper} {a : Act} {w : World} {Q : Exit → Act → World → Prop}
/-- 'append(b, s...)', s a text. -/
theorem wpList_app_str (hgd : o.guard = none) (sl x : Operand) (t u : TypeId) (ho : o.op = .call { callee := .builtin .append, args := #[sl, x], argTypes := #[t, u] })
    (base : Nat) (e : TypeId) (hI : MakeInfo P t e (.int .u8 0) 1) (hu : P.underlying u = some .string)
    (v : Value) (n : Nat) (xs : List Value) (hs : a.eval sl = v) (hown : w.ownsRow base e 1 v n xs) (s : ByteArray) (hx : a.eval x = .string s)
    (hb : n + s.size ≤ 140737488355328) (hbase : base ≤ w.heap.size)
    (h : ∀ v' w', w'.ownsRow base e 1 v' (n + s.size) (xs ++ (sb s).map (.int .u8)) → (∀ B W, B ≤ base → Below B W w → Below B W w') → wpList P ops Q rest (a.put o.dst v') w') : wpList P ops Q (o :: rest) a w := by
  obtain ⟨i, ht, hi, hz, hsz, hby, -⟩ := hI
  refine Lib.wpList_append_own_string _ hgd sl x t u ho base e i ht hu hi hz hsz hby v n xs hs hown s hx (by unfold maxLen; omega) hb hbase ?_
  intro v' w' g1 g2 _
  rw [strCells_sb] at g1
  refine h v' w' g1 (fun B W hB hbl => ?_)
  refine hbl.grown g2 (by omega) (fun k hk => ?_)
  have := (hown.lt k hk).1
  omega

/-- '[]byte(s)'. -/
theorem wpList_bytes_of_str (hgd : o.guard = none) (src dst : TypeId) (x : Operand) (ho : o.op = .convert src dst x) (e : TypeId) (hs : P.underlying src = some .string) (hd : P.underlying dst = some (.slice e))
    (he : P.underlying e = some (.int .u8)) (s : ByteArray) (hx : a.eval x = .string s)
    (h : ∀ v' w', SrcCells w' v' s.size 1 ((sb s).map (.int .u8)) → (∀ B W, B ≤ w.heap.size → Below B W w → Below B W w') → wpList P ops Q rest (a.put o.dst v') w') : wpList P ops Q (o :: rest) a w := by
  refine wpList_plain hgd fun _ hK => ?_
  have hr := run_bytes_of_string (P := P) w src dst e s hs hd he
  unfold Oper.wp execOp
  simp only [ho, hx, Sem.run_bind, Sem.run_pure, hr, Result.andThen_ok]
  refine hK _ _ (h _ _ ?_ (fun B W hB hbl => hbl.drew.alloc (by exact hB) _))
  refine ⟨_, _, rfl, fun h => by simp at h, grownCap_ge w s.size 0 e, by simp [sb_length], ?_, ?_⟩
  · intro u hu; obtain ⟨y, _, rfl⟩ := List.mem_map.1 hu; rfl
  · intro j u hj
    refine ⟨w.heap.size, 0, rfl, ?_⟩
    rw [Nat.zero_add]
    have hblk : (w.drew.alloc (.cells (bytesRow s (grownCap w s.size 0 e)) e ((bytesRow s (grownCap w s.size 0 e)).size, (bytesRow s (grownCap w s.size 0 e)).size + 1))).heap[w.heap.size]? = some (.cells (bytesRow s (grownCap w s.size 0 e)) e ((bytesRow s (grownCap w s.size 0 e)).size, (bytesRow s (grownCap w s.size 0 e)).size + 1)) := heap_alloc_new w.drew _
    rw [cell_of_row _ _ j _ e _ hblk]
    have hjs : j < s.size := by
      have := (List.getElem?_eq_some_iff.1 hj).1
      simpa [sb_length] using this
    unfold bytesRow
    rw [Array.getElem?_append_left (by simpa using hjs)]
    unfold sb at hj
    simpa [Array.getElem?_map] using hj
end

theorem box_cell {w : World} {cs : Array Value} {t : TypeId} {k : Nat} {v : Value} (h : cs[k]? = some v) : (w.alloc (.cells cs t)).cell? ⟨w.heap.size, k, none⟩ = some v := by
  rw [cell_of_row _ _ k cs t (0, 0) (heap_alloc_new w _)]; exact h
theorem box_cell_old {w : World} {cs : Array Value} {t : TypeId} {o2 : Obj} {k : Nat} {v : Value} (h : cs[k]? = some v) : ((w.alloc (.cells cs t)).alloc o2).cell? ⟨w.heap.size, k, none⟩ = some v := by
  rw [cell_of_row _ _ k cs t (0, 0) ((Below.heap_alloc _ o2 _ (by simp)).trans (heap_alloc_new w _))]; exact h
theorem box_cell_two {w : World} {o1 : Obj} {cs : Array Value} {t : TypeId} {k : Nat} {v : Value} (h : cs[k]? = some v) : ((w.alloc o1).alloc (.cells cs t)).cell? ⟨w.heap.size + 1, k, none⟩ = some v := by
  have := box_cell (w := w.alloc o1) (t := t) h
  simpa using this
theorem box_cells {w : World} {cs : Array Value} {t : TypeId} {k n : Nat} {ct : Array Value} (h : ∀ j, j < n → cs[k + j]? = some (ct.getD j undef)) :
    ∀ j, j < n → (w.alloc (.cells cs t)).cell? ⟨w.heap.size, k + j, none⟩ = some (ct.getD j undef) := fun j hj => box_cell (h j hj)

/-- The cells of a block that was made of an aggregate, as a rule for the walk. -/
theorem box_all (w : World) (cs : Array Value) (t : TypeId) : ∀ k, (w.alloc (.cells cs t)).cell? ⟨w.heap.size, k, none⟩ = cs[k]? := fun k => cell_of_row _ _ k cs t (0, 0) (heap_alloc_new w _)
theorem box_keep {w1 w2 : World} {cs : Array Value} {g B : Nat} (h : ∀ k, w1.cell? ⟨g, k, none⟩ = cs[k]?) (hb : Below B w1 w2) (hg : g < B) : ∀ k, w2.cell? ⟨g, k, none⟩ = cs[k]? :=
  fun k => (hb.cell (p := ⟨g, k, none⟩) hg).trans (h k)
end Go.Proofs.Ytdhhcmdofnjhiaa
