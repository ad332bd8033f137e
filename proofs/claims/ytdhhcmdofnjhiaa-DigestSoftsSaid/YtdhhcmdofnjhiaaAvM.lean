/- make, copy, append of a text, elements of own rows, integer operations of every kind; rows handed over. No program's code. No condition. -/
import Derived.Test.YtdhhcmdofnjhiaaAvS
namespace Go.Proofs.Ytdhhcmdofnjhiaa
open Go.RowKit

section
variable {P : Program} {o : Oper} {es : List Ent} {α : Type}

theorem gMake_some {b : Nat} {z : α} {n c : Int} {r : List α} (h : gMake b z n c = some r) : (0 ≤ n ∧ n ≤ c ∧ (b : Int) * c ≤ 140737488355328) ∧ r = List.replicate n.toNat z := by
  unfold gMake at h; split at h
  · exact ⟨‹_›, (Option.some.inj h).symm⟩
  · cases h

/-- 'make([]T, n, c)'. -/
theorem ok_make {x y : Operand} {t e : TypeId} {size bytes : Nat} {zv : Value} {n c : Int} {r : List α} (enc : α → D) (z : α) (h : gMake bytes z n c = some r) (hE : El P t e size bytes) (hz : (P.info? e).bind (·.zero) = some zv) (h1 : zv.cells.all (·.oneCell') = true) (hzs : zv.cells.size = size)
    (hzz : zCells zv = (enc z).cells.map .d) (hb : 0 < bytes) (ho : o.op = .makeSlice t x y) : OpOk P o [(x, .d (eI n)), (y, .d (eI c))] es (.osl es.length) (es ++ [.arr e size (List.map enc r)]) :=
  .eff fun C ok H a w hm hn => by
    obtain ⟨⟨h0, hnc, hbc⟩, rfl⟩ := gMake_some h
    have hx := (mem2 hn).1.lit
    have hy := (mem2 hn).2.lit
    simp only at hx hy
    obtain ⟨i, z', hi, hz', hs, hby, _⟩ := hE.info
    have hzv : i.zero = some zv := by rw [hi] at hz; simpa using hz
    have hc63 : c ≤ 9223372036854775807 := by
      have h2 : (1 : Int) * c ≤ (bytes : Int) * c := Int.mul_le_mul_of_nonneg_right (by omega) (by omega)
      omega
    have hr := run_make (P := P) w t e i zv hE.und hi hzv .i64 .i64 n c h0 hnc (by rw [hby]; omega) hc63
    rw [hs] at hr
    let cells := madeCells zv.cells (c.toNat * size)
    have hpos := hE.pos
    have hcs : cells.size = c.toNat * size := size_madeCells _ _
    have hlc : (zCells zv).length = size := by simp [zCells, hzs]
    have hel : ∀ y ∈ List.map enc (List.replicate n.toNat z), y.cells.length = size := by
      intro y hy
      simp only [List.map_replicate, List.mem_replicate] at hy
      rw [hy.2, ← hlc, hzz]; simp
    have hfl := flat_len hel
    have hlen : (List.map enc (List.replicate n.toNat z)).length = n.toNat := by simp
    rw [hlen] at hfl
    have hnle : n.toNat * size ≤ c.toNat * size := Nat.mul_le_mul_right _ (by omega)
    have hrs : ∀ {ok : Nat → Prop} {w : World} {H : List Hd}, Rs ok w H (flat (List.map enc (List.replicate n.toNat z))) (cells.toList.take (n.toNat * size)) := by
      intro ok w H
      refine ⟨by rw [hfl, List.length_take, Array.length_toList, hcs]; omega, fun k hk => ?_⟩
      rw [hfl] at hk
      have hd := Nat.div_add_mod k size
      have hq : k / size < n.toNat := Nat.div_lt_of_lt_mul (by rwa [Nat.mul_comm] at hk)
      have hm' : k % size < size := Nat.mod_lt _ hpos
      have e0 : k = k / size * size + k % size := by rw [Nat.mul_comm]; exact hd.symm
      have e1 : (flat (List.map enc (List.replicate n.toNat z))).getD k .junk = .d ((enc z).cells.getD (k % size) dz) := by
        have hg := flat_get hel (k / size) (k % size) (by rw [hlen]; exact hq) hm'
        rw [← e0] at hg
        rw [hg]
        congr 3
        simp [List.getD, hq]
      have hcl : (enc z).cells.length = size := by rw [← hlc, hzz]; simp
      have e2 : (AV.d ((enc z).cells.getD (k % size) dz)) = (zCells zv).getD (k % size) .junk := by
        rw [hzz]
        have : k % size < (enc z).cells.length := by omega
        simp [List.getD, this]
      have hmz : k % size < zv.cells.size := by omega
      have e3 : (cells.toList.take (n.toNat * size)).getD k undef = zv.cells[k % size] := by
        have hk2 : k < c.toNat * size := by omega
        have e : cells.toList = (List.range (c.toNat * size)).map fun i => zv.cells[i % zv.cells.size]! := by
          show (madeCells zv.cells (c.toNat * size)).toList = _
          simp [madeCells]
        rw [e]
        simp only [List.getD, List.getElem?_take_of_lt hk]
        simp [hk2, hzs]
        rw [getElem!_pos zv.cells (k % size) hmz]
      rw [e1, e2, e3]
      have e4 : (zCells zv).getD (k % size) .junk = .d (zD zv.cells[k % size]) := by simp [zCells, List.getD, hmz]
      rw [e4]
      exact ⟨zD_leaf ((Array.all_eq_true_iff_forall_mem.1 h1) _ (by simp)), .d _ _ (zD_ok _)⟩
    obtain ⟨h2, h3⟩ := hm.push (.cells cells e) ⟨.slice (some ⟨w.heap.size, 0, none⟩) n.toNat c.toNat, size⟩ (.arr e size (List.map enc (List.replicate n.toNat z))) (fun b hb => by simpa [blkOf] using hb.symm) (by
      refine ⟨rfl, hel, cells.toList.take (n.toNat * size), ⟨?_, .inr ⟨w.heap.size, c.toNat, cells, by rw [hlen], Nat.zero_le _, heap_alloc_new w _, by rw [hlen]; omega, by unfold maxLen; omega, hcs, by rw [hlen]⟩⟩, hrs⟩
      rw [hlen, List.length_take, Array.length_toList, hcs]; omega)
    refine ⟨.slice (some ⟨w.heap.size, 0, none⟩) n.toNat c.toNat, _, ok, _, .inl ?_, h3, Names.push _ _, h2, .osl _ _ _ _ size (by rw [← hm.hlen]; simp)⟩
    simp only [execOp, ho, hx, hy, Sem.run_bind, hr, Result.andThen_ok, Sem.run_pure]
    rfl

/-- What copy makes of l. -/
def gCopy (l m : List α) : List α := m.take l.length ++ l.drop m.length

/-- 'copy(d, s)', d an own row, s a row that is read. -/
theorem ok_copy {x y : Operand} {t e : TypeId} {size bytes k : Nat} (enc : α → D) (l m : List α) (hE : El P t e size bytes) (hk : es[k]? = some (.arr e size (List.map enc l))) (hc : ∀ a, (enc a).cells.length = size) (ho : o.op = .call { callee := .builtin .copy, args := #[x, y], argTypes := #[t, t] }) :
    OpOk P o [(x, .osl k), (y, .d (eL enc m))] es .junk (es.set k (.arr e size (List.map enc (gCopy l m)))) :=
  .eff fun C ok H a w hm hn => by
    have hx := (mem2 hn).1
    have hy := (mem2 hn).2
    simp only at hx hy
    obtain ⟨h, hh, hok⟩ := ent_at hm.ent hm.hlen hk
    have hxv := R_own_val hx hh
    obtain ⟨i, z', hi, hz', hs, hby, _⟩ := hE.info
    have hu : (underlying t).run P w = .ok (.slice e) w := by simp [underlying, hE.und]
    have hsz : (sizeOf e).run P w = .ok size w := by simp [sizeOf, typeInfo, hi, hs]
    have hel : ∀ (q : List α), ∀ y ∈ q.map enc, y.cells.length = size := fun q y hy => by obtain ⟨b, _, rfl⟩ := List.mem_map.1 hy; exact hc b
    have hyR : RD ok w (.sl (m.map enc)) (a.eval y) := by cases hy with | d _ _ h => exact h
    obtain ⟨news, hsrc, hnrs⟩ := src_view H hyR (hel m)
    obtain ⟨h1, h2, ys, hown, hrs⟩ := hok
    have hlm : (m.map enc).length = m.length := by simp
    have hll : (l.map enc).length = l.length := by simp
    have hnl : news.length = m.length * size := by rw [hsrc.len, hlm]
    -- how many elements are copied
    let n := Nat.min m.length l.length
    have hlenx : (Builtin.lenOf (a.eval y)).run P w = .ok m.length w := by
      rcases hsrc.at_ with ⟨ad, c, e1, _⟩ | ⟨c, e1, e2⟩
      · rw [e1]; simp [Builtin.lenOf]
      · rw [e1]; rw [hlm] at e2; simp [Builtin.lenOf, e2]
    have hfirst : (Builtin.firstCells size n (a.eval y)).run P w = .ok (news.take (n * size)).toArray w := by
      rcases hsrc.at_ with ⟨ad, c, e1, hcells⟩ | ⟨c, e1, e2⟩
      · rw [e1]
        refine run_firstCells_some (P := P) w size n ad _ c (news.take (n * size)) ?_ ?_
        · rw [List.length_take, hnl]
          have : n * size ≤ m.length * size := Nat.mul_le_mul_right _ (Nat.min_le_left _ _)
          omega
        · intro j v hj
          rw [List.getElem?_take] at hj
          split at hj
          · exact hcells j v hj
          · cases hj
      · rw [e1]
        rw [hlm] at e2
        have : news = [] := List.eq_nil_of_length_eq_zero (by rw [hnl, e2]; simp)
        simp [Builtin.firstCells, this]
    have hone : ∀ u ∈ news.take (n * size), u.oneCell' = true := fun u hu => hsrc.one u (List.mem_of_mem_take hu)
    have hn1 : n ≤ m.length := Nat.min_le_left _ _
    have hn2 : n ≤ l.length := Nat.min_le_right _ _
    have htl : (news.take (n * size)).length = n * size := by
      rw [List.length_take, hnl]
      have : n * size ≤ m.length * size := Nat.mul_le_mul_right _ hn1
      omega
    have hgc : gCopy l m = m.take n ++ l.drop n := by
      unfold gCopy
      by_cases hle : m.length ≤ l.length
      · have e1 : n = m.length := Nat.min_eq_left hle
        rw [e1, List.take_of_length_le hle, List.take_length]
      · have e1 : n = l.length := Nat.min_eq_right (by omega)
        rw [e1, List.drop_of_length_le (by omega), List.drop_length]
    have hgl : (gCopy l m).length = l.length := by rw [hgc]; simp; omega
    rcases hown.2 with ⟨hv, hl0⟩ | ⟨g, cap, cur, hv, _, hg, hncap, hcm, hcs, htake⟩
    · -- nil
      rw [hll] at hl0
      have hn0 : n = 0 := by omega
      have hl : l = [] := List.eq_nil_of_length_eq_zero hl0
      have hge : gCopy l m = l := by rw [hgc, hn0]; simp
      rw [hge]
      have hset : es.set k (.arr e size (List.map enc l)) = es := by
        apply List.ext_getElem?
        intro j
        by_cases hj : k = j
        · subst hj
          have hkl := (List.getElem?_eq_some_iff.1 hk).1
          rw [List.getElem?_set_self hkl, hk]
        · rw [List.getElem?_set_ne hj]
      rw [hset]
      refine ⟨goInt n, w, ok, H, .inl ?_, .refl _ _, .refl _, hm, .junk _⟩
      have e0 : Nat.min m.length 0 = n := by rw [hn0]; simp
      have hf0 : (Builtin.firstCells size 0 (a.eval y)).run P w = .ok #[] w := by rw [hn0] at hfirst; simpa using hfirst
      simp [execOp, ho, resolve, invoke, builtin, Builtin.copy_, hxv, hv, hu, hlenx, hsz, hf0, hn0]
    · rw [hll] at hv hncap htake
      have hlt : g < w.heap.size := (Array.getElem?_eq_some_iff.1 hg).1
      have hfit : n * size ≤ cur.size := by
        rw [hcs]; exact Nat.mul_le_mul_right _ (by omega)
      have hst := run_storeCells_at (P := P) g 0 e (news.take (n * size)) 0 cur w hg (by rw [htl]; omega) hone
      have hel2 : ∀ y ∈ (gCopy l m).map enc, y.cells.length = size := hel _
      obtain ⟨h3, h4⟩ := hm.upd (e := .arr e size (List.map enc (gCopy l m))) (w' := w.setRow g (cur.toList.take (0 + 0) ++ news.take (n * size) ++ cur.toList.drop (0 + 0 + (news.take (n * size)).length)).toArray) hk rfl hh (by rw [hv]; rfl) rfl rfl rfl (by simp [World.setRow]) (fun c hc => setRow_same' _ _ _ _ hc) (fun hg' => by
        refine ⟨h1, hel2, news.take (n * size) ++ ys.drop (n * size), ?_, ?_⟩
        · refine ⟨?_, .inr ⟨g, cap, _, by rw [List.length_map, hgl]; exact hv, Nat.zero_le _, setRow_heap w g cur _ e (0, 0) hg, by rw [List.length_map, hgl]; exact hncap, hcm, ?_, ?_⟩⟩
          · simp only [List.length_append, htl, List.length_drop, hown.1, List.length_map, hgl]
            have : n * size ≤ l.length * size := Nat.mul_le_mul_right _ hn2
            omega
          · simp only [Nat.add_zero, List.take_zero, List.nil_append, Nat.zero_add, htl]
            simp only [List.size_toArray, List.length_append, htl, List.length_drop, Array.length_toList]
            omega
          · simp only [Nat.add_zero, List.take_zero, List.nil_append, Nat.zero_add, htl, List.toList_toArray]
            rw [List.length_map, hgl, ← htake]
            rw [List.take_append, htl, List.take_of_length_le (by rw [htl]; exact Nat.mul_le_mul_right _ hn2)]
            congr 1
            rw [List.drop_take]
        · have ha := hnrs.mono hg' (Names.refl H)
          have hb := hrs.mono hg' (Names.refl H)
          have hfl1 := flat_len (hel l)
          have hfl2 := flat_len (hel m)
          have hfl3 := flat_len hel2
          have hlsz : n * size ≤ l.length * size := Nat.mul_le_mul_right _ hn2
          have hmsz : n * size ≤ m.length * size := Nat.mul_le_mul_right _ hn1
          refine ⟨by simp only [hfl3, List.length_append, htl, List.length_drop, hown.1, List.length_map, hgl]; omega, fun j hj => ?_⟩
          rw [hfl3, List.length_map, hgl] at hj
          have hpos := hE.pos
          have e0 : j = j / size * size + j % size := by rw [Nat.mul_comm]; exact (Nat.div_add_mod j size).symm
          have hq : j / size < l.length := Nat.div_lt_of_lt_mul (by rwa [Nat.mul_comm] at hj)
          have hr : j % size < size := Nat.mod_lt _ hpos
          have hg3 := flat_get hel2 (j / size) (j % size) (by rw [List.length_map, hgl]; exact hq) hr
          rw [← e0] at hg3
          by_cases hjn : j < n * size
          · have hqn : j / size < n := Nat.div_lt_of_lt_mul (by rwa [Nat.mul_comm] at hjn)
            have hg2 := flat_get (hel m) (j / size) (j % size) (by rw [hlm]; omega) hr
            rw [← e0] at hg2
            have hsame : ((gCopy l m).map enc).getD (j / size) dz = (m.map enc).getD (j / size) dz := by
              rw [hgc]
              simp only [List.getD, List.map_append]
              rw [List.getElem?_append_left (by simp; omega), List.map_take, List.getElem?_take_of_lt hqn]
            rw [hg3, hsame, ← hg2]
            have e5 : (news.take (n * size) ++ ys.drop (n * size)).getD j undef = news.getD j undef := by
              simp only [List.getD]
              rw [List.getElem?_append_left (by rw [htl]; exact hjn), List.getElem?_take_of_lt hjn]
            rw [e5]
            exact ha.2 j (by rw [hfl2, hlm]; omega)
          · have hqn : n ≤ j / size := (Nat.le_div_iff_mul_le hpos).2 (by omega)
            have hg1 := flat_get (hel l) (j / size) (j % size) (by rw [hll]; exact hq) hr
            rw [← e0] at hg1
            have hsame : ((gCopy l m).map enc).getD (j / size) dz = (l.map enc).getD (j / size) dz := by
              rw [hgc]
              have hlt' : (m.take n).length = n := by simp; omega
              simp only [List.getD, List.map_append]
              rw [List.getElem?_append_right (by rw [List.length_map, hlt']; exact hqn), List.length_map, hlt', List.map_drop, List.getElem?_drop]
              congr 2
              omega
            rw [hg3, hsame, ← hg1]
            have e5 : (news.take (n * size) ++ ys.drop (n * size)).getD j undef = ys.getD j undef := by
              simp only [List.getD]
              rw [List.getElem?_append_right (by rw [htl]; omega), htl, List.getElem?_drop]
              congr 2
              omega
            rw [e5]
            exact hb.2 j (by rw [hfl1, hll]; omega))
      refine ⟨goInt n, _, ok, H, .inl ?_, h4, .refl _, h3, .junk _⟩
      have e0 : Nat.min m.length l.length = n := rfl
      simp [execOp, ho, resolve, invoke, builtin, Builtin.copy_, hxv, hv, hu, hlenx, hsz, e0, hfirst]
      rw [hst]
      simp
end

/-- The bytes of a text. -/
def sBytes (s : ByteArray) : List Int := s.data.toList.map fun c => (c.toNat : Int)
theorem sBytes_length (s : ByteArray) : (sBytes s).length = s.size := by unfold sBytes; rw [List.length_map, Array.length_toList]; rfl

section
variable {P : Program} {o : Oper} {es : List Ent} {α : Type}

theorem flat_u8 : ∀ (l : List Int), flat (l.map eU8) = l.map fun n => .d (eU8 n)
  | [] => rfl
  | n :: l => by rw [List.map_cons, flat_cons, flat_u8 l]; rfl

/-- 'append(b, s...)', b an own row of bytes, s a text. -/
theorem ok_appS {s x : Operand} {t u e : TypeId} {k : Nat} {l r : List Int} {str : ByteArray} (h : gApp 1 l (sBytes str) = some r) (hE : El P t e 1 1) (hz : (P.info? e).bind (·.zero) = some (.int .u8 0)) (hu : P.underlying u = some .string) (hk : es[k]? = some (.arr e 1 (List.map eU8 l)))
    (ho : o.op = .call { callee := .builtin .append, args := #[s, x], argTypes := #[t, u] }) : OpOk P o [(s, .osl k), (x, .d (eS str))] es (.osl es.length) (es.set k .dead ++ [.arr e 1 (List.map eU8 r)]) :=
  .eff fun C ok H a w hm hn => by
    obtain ⟨rfl, hlen⟩ := gApp_some h
    rw [sBytes_length, Nat.mul_one] at hlen
    have hs := (mem2 hn).1
    have hx := (mem2 hn).2.lit
    simp only at hs hx
    obtain ⟨hd, hh, hok⟩ := ent_at hm.ent hm.hlen hk
    have hsv := R_own_val hs hh
    obtain ⟨h1, h2, ys, hown, hrs⟩ := hok
    obtain ⟨i, z', hi, hz', hs1, hby, _⟩ := hE.info
    have hz2 : i.zero = some (.int .u8 0) := by rw [hi] at hz; simpa using hz
    have hll : (l.map eU8).length = l.length := by simp
    have hmax : (l.map eU8).length + str.size ≤ maxLen := by rw [hll]; unfold maxLen; omega
    obtain ⟨v', w', hr, ho', hg, hnil⟩ := Lib.run_append_own_string (P := P) w 0 t u o.type e i hE.und hu hi hz2 hs1 hby hd.v _ ys hown str hmax (by rw [hll]; exact hlen) (Nat.zero_le _)
    have hblk : ∀ g, blkOf v' = some g → blkOf hd.v = some g ∨ w.heap.size ≤ g := by
      intro g hgv
      rcases hown.2 with ⟨hv0, hl0⟩ | ⟨g0, cap, cur, hv0, hbg, hg0, hnc, hcm, hcs, htake⟩
      · have hys : ys = [] := List.eq_nil_of_length_eq_zero (by rw [hown.1, hl0])
        obtain ⟨v2, w2, hr2, ho2, _, _⟩ := Lib.run_append_own_string (P := P) w w.heap.size t u o.type e i hE.und hu hi hz2 hs1 hby hd.v _ ys (by rw [hv0, hys, hl0]; exact World.ownsRow_nil w w.heap.size e 1) str hmax (by rw [hll]; exact hlen) (Nat.le_refl _)
        rw [hr] at hr2
        simp only [Result.ok.injEq] at hr2
        obtain ⟨rfl, rfl⟩ := hr2
        rcases ho2.2 with ⟨rfl, _⟩ | ⟨g', _, _, rfl, hle, _⟩
        · simp [blkOf] at hgv
        · simp [blkOf] at hgv; subst hgv; exact .inr hle
      · by_cases hroom : (l.map eU8).length + str.size ≤ cap
        · have hfit : (l.map eU8).length + str.size ≤ cur.size := by rw [hcs, Nat.mul_one]; exact hroom
          have hr2 := Lib.run_append_room_string (P := P) w t u o.type e i hE.und hu hi hs1 g0 _ cap cur hg0 str hroom hfit
          rw [← hv0, hr] at hr2
          simp only [Result.ok.injEq] at hr2
          obtain ⟨rfl, rfl⟩ := hr2
          rw [hv0]
          exact .inl hgv
        · have holds : ∀ (j : Nat) (u : Value), ys[j]? = some u → w.cell? ((⟨g0, 0, none⟩ : Addr).add j) = some u := hown.cells (g := g0) (by rw [hv0]; rfl)
          have hr2 := Lib.run_append_grow_string (P := P) w t u o.type e i _ hE.und hu hi hz2 ⟨g0, 0, none⟩ _ cap ys (by rw [hs1]; exact hown.1) holds str (by omega) (by unfold maxLen at hmax; omega) (growslice_fits (by omega) (by rw [hby, Nat.mul_one, hll]; exact hlen))
          rw [← hv0, hr] at hr2
          simp only [Result.ok.injEq] at hr2
          obtain ⟨rfl, rfl⟩ := hr2
          simp [blkOf] at hgv
          subst hgv
          exact .inr (Nat.le_refl _)
    obtain ⟨h3, h4⟩ := hm.turn (h' := ⟨v', 1⟩) (e := .arr e 1 (List.map eU8 (l ++ sBytes str))) hk rfl hh hg.os hg.tape hg.output hg.size (fun c hc hne => hg.block c hc (by rw [own_blk_eq hown]; exact fun e => hne e.symm)) (fun g hg' => ⟨own_blk_lt ho' hg', hblk g hg'⟩) (fun hgr => by
      refine ⟨rfl, fun y hy => by obtain ⟨q, _, rfl⟩ := List.mem_map.1 hy; rfl, ys ++ Lib.strCells str, ?_, ?_⟩
      · have e : (List.map eU8 (l ++ sBytes str)).length = (l.map eU8).length + str.size := by simp [sBytes_length]
        rw [e]; exact ho'
      · have a1 := hrs.mono hgr (Names.push H [⟨v', 1⟩])
        have hfl : (flat (l.map eU8)).length = l.length := by rw [flat_u8]; simp
        have hcl : (Lib.strCells str) = (sBytes str).map (.int .u8) := by unfold Lib.strCells sBytes; rw [List.map_map]; rfl
        rw [List.map_append, flat_append, flat_u8 (sBytes str), hcl]
        refine ⟨by rw [List.length_append, List.length_append, a1.1, List.length_map, List.length_map], fun i hi => ?_⟩
        by_cases hi2 : i < (flat (l.map eU8)).length
        · have e1 : (flat (l.map eU8) ++ (sBytes str).map fun n => AV.d (eU8 n)).getD i .junk = (flat (l.map eU8)).getD i .junk := by simp [List.getD, List.getElem?_append_left hi2]
          have e2 : (ys ++ (sBytes str).map (Value.int .u8)).getD i undef = ys.getD i undef := by simp [List.getD, List.getElem?_append_left (by rw [a1.1]; exact hi2 : i < ys.length)]
          rw [e1, e2]; exact a1.2 i hi2
        · have hi3 : i - (flat (l.map eU8)).length < (sBytes str).length := by rw [List.length_append, List.length_map] at hi; omega
          have e1 : (flat (l.map eU8) ++ (sBytes str).map fun n => AV.d (eU8 n)).getD i .junk = .d (eU8 (sBytes str)[i - (flat (l.map eU8)).length]) := by simp [List.getD, List.getElem?_append_right (Nat.le_of_not_lt hi2), hi3]
          have e2 : (ys ++ (sBytes str).map (Value.int .u8)).getD i undef = .int .u8 (sBytes str)[i - (flat (l.map eU8)).length] := by simp [List.getD, List.getElem?_append_right (by rw [a1.1]; omega : ys.length ≤ i), a1.1, hi3]
          rw [e1, e2]
          exact ⟨rfl, .d _ _ (.lit _)⟩)
    have hH : (H ++ [(⟨v', 1⟩ : Hd)])[es.length]? = some ⟨v', 1⟩ := by rw [← hm.hlen]; simp
    refine ⟨v', w', ok, _, .inl ?_, h4, Names.push _ _, h3, ?_⟩
    · simp [execOp, ho, resolve, invoke, builtin, hx, hsv, hr]
    · rcases ho'.2 with ⟨rfl, _⟩ | ⟨g', c', _, rfl, _⟩
      · exact .osl _ _ _ _ 1 hH
      · exact .osl _ _ _ _ 1 hH

/-- '[]byte(s)', only read. -/
theorem ok_bytes {x : Operand} {src dst e : TypeId} {s : ByteArray} (hs : P.underlying src = some .string) (hd : P.underlying dst = some (.slice e)) (he : P.underlying e = some (.int .u8)) (ho : o.op = .convert src dst x) : OpOk P o [(x, .d (eS s))] es (.d (eL eU8 (sBytes s))) es :=
  .eff fun C ok H a w hm hn => by
    have hx := (mem1 hn).lit
    simp only at hx
    have hr := run_bytes_of_string (P := P) w src dst e s hs hd he
    obtain ⟨h1, h2⟩ := hm.drew
    obtain ⟨h3, h4⟩ := h1.fresh (.cells (bytesRow s (grownCap w s.size 0 e)) e ((bytesRow s (grownCap w s.size 0 e)).size, (bytesRow s (grownCap w s.size 0 e)).size + 1))
    refine ⟨.slice (some ⟨w.heap.size, 0, none⟩) s.size (grownCap w s.size 0 e), _, _, H, .inl ?_, h2.trans h4, .refl _, h3, .d _ _ ?_⟩
    · simp only [execOp, ho, hx, Sem.run_bind, hr, Result.andThen_ok, Sem.run_pure]
    · have hsz : ((sBytes s).map eU8).length = s.size := by simp [sBytes_length]
      have hcell : ∀ i, i < s.size → (w.drew.alloc (.cells (bytesRow s (grownCap w s.size 0 e)) e ((bytesRow s (grownCap w s.size 0 e)).size, (bytesRow s (grownCap w s.size 0 e)).size + 1))).cell? ⟨w.heap.size, 0 + (i * 1 + 0), none⟩ = some (.int .u8 ((s.data.toList.getD i 0).toNat)) := by
        intro i hi
        have hb : (w.drew.alloc (.cells (bytesRow s (grownCap w s.size 0 e)) e ((bytesRow s (grownCap w s.size 0 e)).size, (bytesRow s (grownCap w s.size 0 e)).size + 1))).heap[w.heap.size]? = some (.cells (bytesRow s (grownCap w s.size 0 e)) e ((bytesRow s (grownCap w s.size 0 e)).size, (bytesRow s (grownCap w s.size 0 e)).size + 1)) := heap_alloc_new w.drew _
        rw [Nat.zero_add, Nat.mul_one, Nat.add_zero]
        have hi' : i < s.data.size := hi
        have hg : (bytesRow s (grownCap w s.size 0 e))[i]? = some (.int .u8 ((s.data.toList.getD i 0).toNat)) := by
          unfold bytesRow
          rw [Array.getElem?_append_left (by simpa using hi')]
          simp [Array.getElem?_eq_getElem hi', List.getD]
        unfold World.cell?
        simp only [hb]
        simpa using hg
      have hl : ∀ i, i < s.size → ((sBytes s).map eU8).getD i dz = eU8 ((s.data.toList.getD i 0).toNat) := by
        intro i hi
        have hi' : i < s.data.size := hi
        simp [sBytes, List.getD, Array.getElem?_eq_getElem hi']
      have z0 : ∀ j, j < 1 → j = 0 := fun j hj => by omega
      have := RD.sl (ok := fun b => ok b ∨ b = w.drew.heap.size) (w := w.drew.alloc (.cells (bytesRow s (grownCap w s.size 0 e)) e ((bytesRow s (grownCap w s.size 0 e)).size, (bytesRow s (grownCap w s.size 0 e)).size + 1))) ((sBytes s).map eU8) w.heap.size 0 (grownCap w s.size 0 e) 1 (by rw [hsz]; exact grownCap_ge w s.size 0 e) (.inr rfl)
        (fun i hi => by rw [hsz] at hi; rw [hl i hi]; rfl)
        (fun i hi j hj => by rw [hsz] at hi; rw [z0 j hj, hl i hi]; rfl)
        (fun i hi j hj => by rw [hsz] at hi; rw [z0 j hj, hcell i hi]; rfl)
        (fun i hi j hj => by rw [hsz] at hi; rw [z0 j hj]; unfold cellAt; rw [hcell i hi, hl i hi]; exact .lit _)
      rw [hsz] at this
      exact this

/-- Integer operations of every kind. -/
def gBits (op : BinOp) (k : IntKind) (x y : Int) : Int :=
  match op with
  | .and => k.wrap ((BitVec.ofInt k.bits x &&& BitVec.ofInt k.bits y).toNat)
  | .or => k.wrap ((BitVec.ofInt k.bits x ||| BitVec.ofInt k.bits y).toNat)
  | .xor => k.wrap ((BitVec.ofInt k.bits x ^^^ BitVec.ofInt k.bits y).toNat)
  | _ => k.wrap ((BitVec.ofInt k.bits x &&& ~~~(BitVec.ofInt k.bits y)).toNat)
theorem ok_and {t t' : TypeId} {x y : Operand} {k : IntKind} {u v : Int} (ho : o.op = .binOp .and t x y t') : OpOk P o [(x, .d (.lit (.int k u))), (y, .d (.lit (.int k v)))] es (.d (.lit (.int k (gBits .and k u v)))) es :=
  ok_bin ho (fun w => by simp [binOp, Op.intBits, gBits]) ⟨rfl, rfl⟩
theorem ok_or {t t' : TypeId} {x y : Operand} {k : IntKind} {u v : Int} (ho : o.op = .binOp .or t x y t') : OpOk P o [(x, .d (.lit (.int k u))), (y, .d (.lit (.int k v)))] es (.d (.lit (.int k (gBits .or k u v)))) es :=
  ok_bin ho (fun w => by simp [binOp, Op.intBits, gBits]) ⟨rfl, rfl⟩
theorem ok_xor {t t' : TypeId} {x y : Operand} {k : IntKind} {u v : Int} (ho : o.op = .binOp .xor t x y t') : OpOk P o [(x, .d (.lit (.int k u))), (y, .d (.lit (.int k v)))] es (.d (.lit (.int k (gBits .xor k u v)))) es :=
  ok_bin ho (fun w => by simp [binOp, Op.intBits, gBits]) ⟨rfl, rfl⟩
theorem ok_andNot {t t' : TypeId} {x y : Operand} {k : IntKind} {u v : Int} (ho : o.op = .binOp .andNot t x y t') : OpOk P o [(x, .d (.lit (.int k u))), (y, .d (.lit (.int k v)))] es (.d (.lit (.int k (gBits .andNot k u v)))) es :=
  ok_bin ho (fun w => by simp [binOp, Op.intBits, gBits]) ⟨rfl, rfl⟩
def gNot (k : IntKind) (x : Int) : Int := gBits .xor k (if k.signed then -1 else k.max) x
theorem ok_not {t : TypeId} {x : Operand} {k : IntKind} {u : Int} (ho : o.op = .unOp .xor t x) : OpOk P o [(x, .d (.lit (.int k u)))] es (.d (.lit (.int k (gNot k u)))) es :=
  ok_un ho (fun w => by simp [Op.unary, Op.intBits, gNot, gBits])
def gSh (op : BinOp) (k : IntKind) (x y : Int) : Option Int :=
  if y < 0 then none else some (match op with | .shl => k.wrap (x * 2 ^ (min y.toNat k.bits)) | _ => x.fdiv (2 ^ (min y.toNat k.bits)))
theorem ok_shl {t t' : TypeId} {x y : Operand} {k k' : IntKind} {u v r : Int} (h : gSh .shl k u v = some r) (ho : o.op = .binOp .shl t x y t') : OpOk P o [(x, .d (.lit (.int k u))), (y, .d (.lit (.int k' v)))] es (.d (.lit (.int k r))) es := by
  unfold gSh at h
  split at h
  · cases h
  · rename_i hv
    obtain rfl := Option.some.inj h
    exact ok_bin ho (fun w => by simp [binOp, Op.shift, hv]) ⟨rfl, rfl⟩
theorem ok_shr {t t' : TypeId} {x y : Operand} {k k' : IntKind} {u v r : Int} (h : gSh .shr k u v = some r) (ho : o.op = .binOp .shr t x y t') : OpOk P o [(x, .d (.lit (.int k u))), (y, .d (.lit (.int k' v)))] es (.d (.lit (.int k r))) es := by
  unfold gSh at h
  split at h
  · cases h
  · rename_i hv
    obtain rfl := Option.some.inj h
    exact ok_bin ho (fun w => by simp [binOp, Op.shift, hv]) ⟨rfl, rfl⟩
def gQuoK (k : IntKind) (a b : Int) : Option Int := if b = 0 then none else some (k.wrap (a.tdiv b))
def gRemK (a b : Int) : Option Int := if b = 0 then none else some (a.tmod b)
theorem ok_quoK {t t' : TypeId} {x y : Operand} {k : IntKind} {u v r : Int} (h : gQuoK k u v = some r) (ho : o.op = .binOp .quo t x y t') : OpOk P o [(x, .d (.lit (.int k u))), (y, .d (.lit (.int k v)))] es (.d (.lit (.int k r))) es := by
  unfold gQuoK at h
  split at h
  · cases h
  · rename_i hv
    obtain rfl := Option.some.inj h
    exact ok_bin ho (fun w => by simp [binOp, Op.intDiv, hv]) ⟨rfl, rfl⟩
theorem ok_remK {t t' : TypeId} {x y : Operand} {k : IntKind} {u v r : Int} (h : gRemK u v = some r) (ho : o.op = .binOp .rem t x y t') : OpOk P o [(x, .d (.lit (.int k u))), (y, .d (.lit (.int k v)))] es (.d (.lit (.int k r))) es := by
  unfold gRemK at h
  split at h
  · cases h
  · rename_i hv
    obtain rfl := Option.some.inj h
    exact ok_bin ho (fun w => by simp [binOp, Op.intDiv, hv]) ⟨rfl, rfl⟩

theorem entsDown1 {k : Nat} {e : Ent} (hk : es[k]? = some e) : entsDown [.ent k] es [e] := by
  intro i s hs
  match i with
  | 0 => simp at hs; subst hs; exact hk.symm
  | i + 1 => simp at hs
theorem entsDownN (e s : Nat) : entsDown [.nil s] es [.arr e s []] := by
  intro i sr hs
  match i with
  | 0 => simp at hs; subst hs; exact ⟨e, rfl⟩
  | i + 1 => simp at hs
/-- A call that is handed a row of one's own. -/
theorem ok_callS {f : FuncId} {ops : Array Operand} {ats : Array TypeId} (sr : Sr) {avs avs' : List AV} {e0 : Ent} {E' : List Ent} {res res' : AV} (hr : Runs P f avs' [e0] res E') (hf : entersB P f = true) (hb : srcsB [sr] es [e0] E' = true) (hE : entsDown [sr] es [e0]) (ha : argsOk [sr] avs avs') (hl : ops.toList.length = avs.length) (hu : res' = res.up [sr] es.length)
    (ho : o.op = .call { callee := .value (.func f), args := ops, argTypes := ats }) : OpOk P o (argNeeds ops.toList avs) es res' (entsUp [sr] es E') := hu ▸ ok_call [sr] hr hf hb hE ha hl ho
end
end Go.Proofs.Ytdhhcmdofnjhiaa
