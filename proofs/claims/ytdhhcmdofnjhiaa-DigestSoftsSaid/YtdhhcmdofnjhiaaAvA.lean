/- Rows over abstract states: append, literals, make; struct values; slicing; giving up an own row. No program's code. No condition. -/
import Derived.Test.YtdhhcmdofnjhiaaAvE
namespace Go.Proofs.Ytdhhcmdofnjhiaa
open Go.RowKit

theorem flat_cons (x : D) (es : List D) : flat (x :: es) = x.cells.map .d ++ flat es := by simp [flat]
theorem flat_append (xs ys : List D) : flat (xs ++ ys) = flat xs ++ flat ys := by simp [flat]
theorem flat_len {size : Nat} : ∀ {es : List D}, (∀ x ∈ es, x.cells.length = size) → (flat es).length = es.length * size
  | [], _ => by simp [flat]
  | x :: es, h => by
    rw [flat_cons, List.length_append, List.length_map, h x (by simp), flat_len (fun y hy => h y (List.mem_cons_of_mem _ hy)), List.length_cons, Nat.succ_mul, Nat.add_comm]
theorem flat_get {size : Nat} : ∀ {es : List D}, (∀ x ∈ es, x.cells.length = size) → ∀ i j, i < es.length → j < size → (flat es).getD (i * size + j) .junk = .d ((es.getD i dz).cells.getD j dz)
  | [], _, i, j, hi, _ => by simp at hi
  | x :: es, h, 0, j, _, hj => by
    have hx := h x (by simp)
    rw [flat_cons, Nat.zero_mul, Nat.zero_add]
    simp only [List.getD]
    rw [List.getElem?_append_left (by simp [hx, hj])]
    have hj' : j < x.cells.length := by omega
    simp [hj']
  | x :: es, h, i + 1, j, hi, hj => by
    have hx := h x (by simp)
    have ih := flat_get (fun y hy => h y (List.mem_cons_of_mem _ hy)) i j (by simpa using hi) hj
    rw [flat_cons]
    simp only [List.getD] at ih ⊢
    rw [List.getElem?_append_right (by simp [hx, Nat.succ_mul]; omega)]
    have e : (i + 1) * size + j - (x.cells.map AV.d).length = i * size + j := by simp [hx, Nat.succ_mul]; omega
    rw [e, ih]
    simp

theorem mem_getD {es : List D} {x : D} (hx : x ∈ es) : ∃ i, i < es.length ∧ es.getD i dz = x := by
  obtain ⟨i, hi, rfl⟩ := List.getElem_of_mem hx
  exact ⟨i, hi, by simp [List.getD, hi]⟩

section
variable {P : Program} {o : Oper} {es : List Ent}

/-- What is read of a row that is appended: its cells lie at an address, or there are none. -/
structure Src (w : World) (v : Value) (m size : Nat) (news : List Value) : Prop where
  len : news.length = m * size
  one : ∀ u ∈ news, u.oneCell' = true
  at_ : (∃ ad c, v = .slice (some ad) m c ∧ ∀ (j : Nat) (u : Value), news[j]? = some u → w.cell? (ad.add j) = some u) ∨ (∃ c, v = .slice none 0 c ∧ m = 0)

theorem src_view {ok : Nat → Prop} {w : World} (H : List Hd) {ys : List D} {v : Value} {size : Nat} (h : RD ok w (.sl ys) v) (hs : ∀ x ∈ ys, x.cells.length = size) :
    ∃ news, Src w v ys.length size news ∧ Rs ok w H (flat ys) news := by
  cases h with
  | sl0 ad cap =>
    refine ⟨[], ⟨by simp, by simp, ?_⟩, by simp [flat], fun i hi => by simp [flat] at hi⟩
    cases ad with
    | none => exact .inr ⟨cap, rfl, rfl⟩
    | some ad => exact .inl ⟨ad, cap, rfl, fun j u h => by simp at h⟩
  | sl _ b off cap size' hcap hok hs' hf hx hc =>
    by_cases hy : ys = []
    · subst hy
      refine ⟨[], ⟨by simp, by simp, .inl ⟨⟨b, off, none⟩, cap, rfl, fun j u h => by simp at h⟩⟩, by simp [flat], fun i hi => by simp [flat] at hi⟩
    · have hpos : 0 < ys.length := List.length_pos_iff.2 hy
      have hsz : size' = size := by rw [← hs' 0 hpos]; exact hs _ (by simp [List.getD, hpos])
      subst hsz
      have hl := flat_len hs
      have key : ∀ k, k < ys.length * size' → ∃ i j, k = i * size' + j ∧ i < ys.length ∧ j < size' := by
        intro k hk
        have hp : 0 < size' := by
          rcases Nat.eq_zero_or_pos size' with h0 | h0
          · rw [h0, Nat.mul_zero] at hk; omega
          · exact h0
        exact ⟨k / size', k % size', by rw [Nat.mul_comm]; exact (Nat.div_add_mod k size').symm, Nat.div_lt_of_lt_mul (by rwa [Nat.mul_comm] at hk), Nat.mod_lt _ hp⟩
      let news : List Value := (List.range (ys.length * size')).map fun k => cellAt w b (off + k)
      have hnl : news.length = ys.length * size' := by simp [news]
      have hng : ∀ k, k < ys.length * size' → news.getD k undef = cellAt w b (off + k) := by
        intro k hk; simp [news, List.getD, hk]
      have hrs : Rs ok w H (flat ys) news := by
        refine ⟨by rw [hnl, hl], fun k hk => ?_⟩
        rw [hl] at hk
        obtain ⟨i, j, rfl, hi, hj⟩ := key k hk
        rw [flat_get hs i j hi hj, hng _ hk]
        exact ⟨hf i hi j hj, .d _ _ (hc i hi j hj)⟩
      refine ⟨news, ⟨hnl, fun u hu => ?_, .inl ⟨⟨b, off, none⟩, cap, rfl, fun k u hk => ?_⟩⟩, hrs⟩
      · obtain ⟨k, hk, rfl⟩ := List.getElem_of_mem hu
        have h5 := hrs.2 k (by rw [← hrs.1]; exact hk)
        have := h5.2.leaf h5.1
        rwa [getD_of_lt hk] at this
      · obtain ⟨hk', rfl⟩ := List.getElem?_eq_some_iff.1 hk
        rw [addr_add]
        have hk2 : k < ys.length * size' := by rw [← hnl]; exact hk'
        obtain ⟨i, j, e, hi, hj⟩ := key k hk2
        have hxx := hx i hi j hj
        rw [← e] at hxx
        obtain ⟨u', hu'⟩ := Option.isSome_iff_exists.1 hxx
        have := hng k hk2
        rw [getD_of_lt hk'] at this
        rw [this]
        simp [cellAt, hu']

theorem src_own {ok : Nat → Prop} {w : World} {H : List Hd} {h : Hd} {e : TypeId} {size : Nat} {ys : List D} (he : EntOk ok w H h (.arr e size ys)) : ∃ news, Src w h.v ys.length size news ∧ Rs ok w H (flat ys) news := by
  obtain ⟨h1, h2, xs, ⟨h3, h4⟩, h5⟩ := he
  refine ⟨xs, ⟨h3, fun u hu => ?_, ?_⟩, h5⟩
  · obtain ⟨k, hk, rfl⟩ := List.getElem_of_mem hu
    have h6 := h5.2 k (by rw [← h5.1]; exact hk)
    have := h6.2.leaf h6.1
    rwa [getD_of_lt hk] at this
  · rcases h4 with ⟨h6, h7⟩ | ⟨g, cap, cur, h6, h7, h8, h9, h10, h11, h12⟩
    · exact .inr ⟨0, h6, h7⟩
    · refine .inl ⟨⟨g, 0, none⟩, cap, h6, fun j u hj => ?_⟩
      have hown : w.ownsRow 0 e size h.v ys.length xs := ⟨h3, .inr ⟨g, cap, cur, h6, h7, h8, h9, h10, h11, h12⟩⟩
      exact hown.cells (g := g) (by rw [h6]; rfl) j u hj

/-- The element type of a row, as append asks it. -/
structure El (P : Program) (t e : TypeId) (size bytes : Nat) : Prop where
  und : P.underlying t = some (.slice e)
  info : ∃ i z, P.info? e = some i ∧ i.zero = some z ∧ i.size = size ∧ i.bytes = bytes ∧ z.cells.size = size
  pos : 0 < size
def elB (P : Program) (t e size bytes : Nat) : Bool :=
  (match P.underlying t with | some (.slice e') => decide (e' = e) | _ => false) && (match P.info? e with | some i => decide (i.size = size) && decide (i.bytes = bytes) && (match i.zero with | some z => decide (z.cells.size = size) | none => false) | none => false) && decide (0 < size)
theorem el_of {P : Program} {t e size bytes : Nat} (h : elB P t e size bytes = true) : El P t e size bytes := by
  unfold elB at h
  simp only [Bool.and_eq_true, decide_eq_true_eq] at h
  obtain ⟨⟨h1, h2⟩, h3⟩ := h
  refine ⟨?_, ?_, h3⟩
  · split at h1
    · rename_i e' he; rw [he]; simp at h1; rw [h1]
    · cases h1
  · split at h2
    · rename_i i hi
      simp only [Bool.and_eq_true, decide_eq_true_eq] at h2
      obtain ⟨⟨h4, h5⟩, h6⟩ := h2
      split at h6
      · rename_i z hz; exact ⟨i, z, hi, hz, h4, h5, by simpa using h6⟩
      · cases h6
    · cases h2

theorem ownBlock_eq (v : Value) (h : v = .slice none 0 0 ∨ ∃ g n c, v = .slice (some ⟨g, 0, none⟩) n c) : v.ownBlock = blkOf v := by
  rcases h with rfl | ⟨g, n, c, rfl⟩ <;> rfl

/-- What an append to an own row gives. -/
theorem append_run {w : World} {t e : TypeId} {ty : TypeId} {size bytes : Nat} (hE : El P t e size bytes) {v : Value} {n : Nat} {xs : List Value} (hown : w.ownsRow 0 e size v n xs) {x : Value} {m : Nat} {news : List Value} (hsrc : Src w x m size news)
    (hb : (n + m) * bytes ≤ 140737488355328) (hn : n + m ≤ maxLen) :
    ∃ v' w', (Builtin.append_ #[t, t] ty #[v, x]).run P w = .ok v' w' ∧ w'.ownsRow 0 e size v' (n + m) (xs ++ news) ∧ w.grownBy w' v.ownBlock ∧ (∀ g, blkOf v' = some g → blkOf v = some g ∨ w.heap.size ≤ g) := by
  obtain ⟨i, z, hi, hz, hs, hby, hzs⟩ := hE.info
  rcases hsrc.at_ with ⟨ad, c, rfl, hcells⟩ | ⟨c, rfl, rfl⟩
  · obtain ⟨v', w', hr, ho', hg, hnil⟩ := run_append_own (P := P) w 0 t ty e i z size bytes hE.und hi hz hs hby hzs hE.pos v n xs hown ad m c news hsrc.len hcells hsrc.one hn hb (Nat.zero_le _)
    refine ⟨v', w', hr, ho', hg, fun g hgv => ?_⟩
    rcases hown.2 with ⟨rfl, rfl⟩ | ⟨g0, cap, cur, rfl, hbg, hg0, hnc, hcm, hcs, htake⟩
    · have hx : xs = [] := List.eq_nil_of_length_eq_zero (by simpa using hown.1)
      subst hx
      obtain ⟨v2, w2, hr2, ho2, _, _⟩ := run_append_own (P := P) w w.heap.size t ty e i z size bytes hE.und hi hz hs hby hzs hE.pos _ 0 [] (World.ownsRow_nil w w.heap.size e size) ad m c news hsrc.len hcells hsrc.one hn hb (Nat.le_refl _)
      rw [hr] at hr2
      simp only [Result.ok.injEq] at hr2
      obtain ⟨rfl, rfl⟩ := hr2
      rcases ho2.2 with ⟨rfl, _⟩ | ⟨g', _, _, rfl, hle, _⟩
      · simp [blkOf] at hgv
      · simp [blkOf] at hgv; subst hgv; exact .inr hle
    · by_cases hroom : n + m ≤ cap
      · have hfit : n * i.size + news.length ≤ cur.size := by rw [hsrc.len, hcs, hs, ← Nat.add_mul]; exact Nat.mul_le_mul_right _ hroom
        have hr2 := run_append_room (P := P) w t ty e i hE.und hi g0 n cap cur hg0 ad m c news (by rw [hs]; exact hsrc.len) hcells hsrc.one hroom hfit
        rw [hr] at hr2
        simp only [Result.ok.injEq] at hr2
        obtain ⟨rfl, rfl⟩ := hr2
        exact .inl hgv
      · have holds : ∀ (j : Nat) (u : Value), xs[j]? = some u → w.cell? ((⟨g0, 0, none⟩ : Addr).add j) = some u := hown.cells (g := g0) rfl
        have hr2 := run_append_grow (P := P) w t ty e i z hE.und hi hz ⟨g0, 0, none⟩ n cap xs (by rw [hs]; exact hown.1) holds ad m c news (by rw [hs]; exact hsrc.len) hcells (by omega) (by unfold maxLen at hn; omega) (growslice_fits (by omega) (by rw [hby]; exact hb))
        rw [hr] at hr2
        simp only [Result.ok.injEq] at hr2
        obtain ⟨rfl, rfl⟩ := hr2
        simp [blkOf] at hgv
        subst hgv
        exact .inr (Nat.le_refl _)
  · have hnews : news = [] := List.eq_nil_of_length_eq_zero (by simpa using hsrc.len)
    subst hnews
    refine ⟨v, w, ?_, by simpa using hown, ⟨rfl, rfl, rfl, Nat.le_refl _, fun _ _ _ => rfl⟩, fun g hg => .inl hg⟩
    rcases hown.2 with ⟨rfl, rfl⟩ | ⟨g, cap, cur, rfl, _, _, hnc, _⟩
    · simp [Builtin.append_, run_underlying hE.und, sizeOf, typeInfo, hi, Builtin.lenOf, Builtin.firstCells]
    · simp [Builtin.append_, run_underlying hE.und, sizeOf, typeInfo, hi, Builtin.lenOf, Builtin.firstCells, hnc, storeCells]

/-- Entity k is given up for a new one, whose block is the old one's or a new one. -/
theorem Mem.turn {C : Cx} {ok : Nat → Prop} {H : List Hd} {w w' : World} (hm : Mem C ok H es w) {k : Nat} {e0 e : Ent} {h h' : Hd} (hk : es[k]? = some e0) (hl0 : e0.live = true) (hh : H[k]? = some h)
    (hos : w'.os = w.os) (htape : w'.tape = w.tape) (hout : w'.output = w.output) (hsize : w.heap.size ≤ w'.heap.size)
    (hblk : ∀ c, c < w.heap.size → blkOf h.v ≠ some c → w'.heap[c]? = w.heap[c]?) (hb' : ∀ g, blkOf h'.v = some g → g < w'.heap.size ∧ (blkOf h.v = some g ∨ w.heap.size ≤ g))
    (he : Grow ok w ok w' → EntOk ok w' (H ++ [h']) h' e) : Mem C ok (H ++ [h']) (es.set k .dead ++ [e]) w' ∧ Grow ok w ok w' := by
  have h0 := fun b hb => hm.blk k e0 h b hk hl0 hh hb
  have hkl : k < es.length := (List.getElem?_eq_some_iff.1 hk).1
  have hg : Grow ok w ok w' := fun c hc => ⟨hc, hblk c (hm.okLt c hc) (fun e => (h0 c e).1 hc)⟩
  refine hm.change (fun c => blkOf h.v = some c) hos htape hout hsize hblk (fun c hc _ => ⟨(h0 c hc).1, (h0 c hc).2.2⟩) (fun _ h => h) (fun _ h => .inl h) (Names.push _ _) (by simp [hm.hlen]) ?_
  intro j e' hj' hj hh'
  rcases push_get hj with h1 | ⟨h1, h2⟩
  · have hjl : j < H.length := by rw [hm.hlen]; simpa using (List.getElem?_eq_some_iff.1 h1).1
    rw [List.getElem?_append_left hjl] at hh'
    rcases set_get hkl h1 with ⟨rfl, rfl⟩ | ⟨hne, h3⟩
    · exact .inr ⟨trivial, fun h => by cases h⟩
    · refine .inl ⟨h3, hh', fun hl c hc hcb => hne ?_⟩
      exact hm.dis j k e' e0 hj' h c h3 hk hl hl0 hh' hh hc hcb
  · subst h2
    have hk2 : j = H.length := by rw [hm.hlen]; simpa using h1
    subst hk2
    simp at hh'
    subst hh'
    refine .inr ⟨he hg, fun _ c hc => ?_⟩
    obtain ⟨h3, h4⟩ := hb' c hc
    refine ⟨fun hok => ?_, h3, ?_, fun k' e'' h'' hne hk' hl' hh'' hb'' => ?_⟩
    · rcases h4 with h4 | h4
      · exact (h0 c h4).1 hok
      · have := hm.okLt c hok; omega
    · rcases h4 with h4 | h4
      · exact (h0 c h4).2.2
      · exact .inl (Nat.le_trans hm.fr.size h4)
    · rcases push_get hk' with h5 | ⟨h5, _⟩
      · have hkl' : k' < H.length := by rw [hm.hlen]; simpa using (List.getElem?_eq_some_iff.1 h5).1
        rw [List.getElem?_append_left hkl'] at hh''
        rcases set_get hkl h5 with ⟨rfl, rfl⟩ | ⟨hne', h6⟩
        · cases hl'
        · rcases h4 with h4 | h4
          · exact hne' (hm.dis k' k e'' e0 h'' h c h6 hk hl' hl0 hh'' hh hb'' h4)
          · have := (hm.blk k' e'' h'' c h6 hl' hh'' hb'').2.1; omega
      · simp at h5; exact hne (by rw [h5, hm.hlen])

theorem own_blk_lt {w : World} {e size n : Nat} {v : Value} {xs : List Value} (h : w.ownsRow 0 e size v n xs) {g : Nat} (hg : blkOf v = some g) : g < w.heap.size := by
  rcases h.2 with ⟨rfl, _⟩ | ⟨g', _, _, rfl, _, hh, _⟩
  · simp [blkOf] at hg
  · simp [blkOf] at hg; subst hg; exact (Array.getElem?_eq_some_iff.1 hh).1
theorem own_blk_eq {w : World} {e size n : Nat} {v : Value} {xs : List Value} (h : w.ownsRow 0 e size v n xs) : v.ownBlock = blkOf v := by
  rcases h.2 with ⟨rfl, _⟩ | ⟨g', _, _, rfl, _⟩ <;> rfl

theorem R_own_val {ok : Nat → Prop} {w : World} {H : List Hd} {k : Nat} {v : Value} {h : Hd} (hr : R ok w H (.osl k) v) (hh : H[k]? = some h) : v = h.v := by
  cases hr with
  | osl _ ad n cap s hH => rw [hh] at hH; rw [Option.some.inj hH]

theorem append_core {C : Cx} {ok : Nat → Prop} {H : List Hd} {w : World} (hm : Mem C ok H es w) {t ty e : TypeId} {size bytes k : Nat} {xs ys : List D} (hE : El P t e size bytes) (hk : es[k]? = some (.arr e size xs))
    {v x : Value} (hv : R ok w H (.osl k) v) {news : List Value} (hsrc : Src w x ys.length size news) (hnews : Rs ok w H (flat ys) news) (hys : ∀ y ∈ ys, y.cells.length = size) (hb : (xs.length + ys.length) * bytes ≤ 140737488355328) (hn : xs.length + ys.length ≤ maxLen) :
    ∃ v' w' H', (Builtin.append_ #[t, t] ty #[v, x]).run P w = .ok v' w' ∧ Grow ok w ok w' ∧ Names H H' ∧ Mem C ok H' (es.set k .dead ++ [.arr e size (xs ++ ys)]) w' ∧ R ok w' H' (.osl es.length) v' := by
  obtain ⟨h, hh, hok⟩ := ent_at hm.ent hm.hlen hk
  obtain rfl := R_own_val hv hh
  obtain ⟨h1, h2, zs, hown, hrs⟩ := hok
  obtain ⟨v', w', hr, ho', hg, hblk⟩ := append_run (P := P) (ty := ty) hE hown hsrc hb hn
  obtain ⟨h3, h4⟩ := hm.turn (h' := ⟨v', size⟩) (e := .arr e size (xs ++ ys)) hk rfl hh hg.os hg.tape hg.output hg.size (fun c hc hne => hg.block c hc (by rw [own_blk_eq hown]; exact fun e => hne e.symm)) (fun g hg' => ⟨own_blk_lt ho' hg', hblk g hg'⟩) (fun hgr => by
    refine ⟨rfl, fun y hy => ?_, zs ++ news, by simpa using ho', ?_⟩
    · rcases List.mem_append.1 hy with h | h
      · exact h2 y h
      · exact hys y h
    · have a1 := hrs.mono hgr (Names.push H [⟨v', size⟩])
      have a2 := hnews.mono hgr (Names.push H [⟨v', size⟩])
      rw [flat_append]
      refine ⟨by rw [List.length_append, List.length_append, a1.1, a2.1], fun i hi => ?_⟩
      by_cases hi2 : i < (flat xs).length
      · have e1 : (flat xs ++ flat ys).getD i .junk = (flat xs).getD i .junk := by simp [List.getD, List.getElem?_append_left hi2]
        have e2 : (zs ++ news).getD i undef = zs.getD i undef := by simp [List.getD, List.getElem?_append_left (by rw [a1.1]; exact hi2 : i < zs.length)]
        rw [e1, e2]; exact a1.2 i hi2
      · have hi3 : i - (flat xs).length < (flat ys).length := by rw [List.length_append] at hi; omega
        have e1 : (flat xs ++ flat ys).getD i .junk = (flat ys).getD (i - (flat xs).length) .junk := by simp [List.getD, List.getElem?_append_right (Nat.le_of_not_lt hi2)]
        have e2 : (zs ++ news).getD i undef = news.getD (i - (flat xs).length) undef := by simp [List.getD, List.getElem?_append_right (by rw [a1.1]; omega : zs.length ≤ i), a1.1]
        rw [e1, e2]; exact a2.2 _ hi3)
  refine ⟨v', w', _, hr, h4, Names.push _ _, h3, ?_⟩
  have hH : (H ++ [(⟨v', size⟩ : Hd)])[es.length]? = some ⟨v', size⟩ := by rw [← hm.hlen]; simp
  rcases ho'.2 with ⟨rfl, _⟩ | ⟨g', c', _, rfl, _⟩
  · exact .osl _ _ _ _ size hH
  · exact .osl _ _ _ _ size hH

/-- 'append(s, xs...)', s an own row, xs a row that is read. -/
theorem ok_append {s x : Operand} {t e : TypeId} {size bytes k : Nat} {xs ys : List D} (hE : El P t e size bytes) (hk : es[k]? = some (.arr e size xs)) (hys : ∀ y ∈ ys, y.cells.length = size)
    (hb : (xs.length + ys.length) * bytes ≤ 140737488355328) (hn : xs.length + ys.length ≤ maxLen) (ho : o.op = .call { callee := .builtin .append, args := #[s, x], argTypes := #[t, t] }) :
    OpOk P o [(s, .osl k), (x, .d (.sl ys))] es (.osl es.length) (es.set k .dead ++ [.arr e size (xs ++ ys)]) :=
  .eff fun C ok H a w hm hn' => by
    have h1 := (mem2 hn').1
    have h2 := (mem2 hn').2
    simp only at h1 h2
    have h2' : RD ok w (.sl ys) (a.eval x) := by cases h2 with | d _ _ h => exact h
    obtain ⟨news, hsrc, hrs⟩ := src_view H h2' hys
    obtain ⟨v', w', H', hr, r1, r2, r3, r4⟩ := append_core (ty := o.type) hm hE hk h1 hsrc hrs hys hb hn
    refine ⟨v', w', ok, H', .inl ?_, r1, r2, r3, r4⟩
    simp [execOp, ho, resolve, invoke, builtin, hr]
/-- 'append(s, xs...)', both own rows. -/
theorem ok_append_own {s x : Operand} {t e : TypeId} {size bytes k j : Nat} {xs ys : List D} (hE : El P t e size bytes) (hk : es[k]? = some (.arr e size xs)) (hj : es[j]? = some (.arr e size ys))
    (hb : (xs.length + ys.length) * bytes ≤ 140737488355328) (hn : xs.length + ys.length ≤ maxLen) (ho : o.op = .call { callee := .builtin .append, args := #[s, x], argTypes := #[t, t] }) :
    OpOk P o [(s, .osl k), (x, .osl j)] es (.osl es.length) (es.set k .dead ++ [.arr e size (xs ++ ys)]) :=
  .eff fun C ok H a w hm hn' => by
    have h1 := (mem2 hn').1
    have h2 := (mem2 hn').2
    simp only at h1 h2
    obtain ⟨h, hh, hok⟩ := ent_at hm.ent hm.hlen hj
    have he := R_own_val h2 hh
    obtain ⟨news, hsrc, hrs⟩ := src_own hok
    rw [← he] at hsrc
    obtain ⟨v', w', H', hr, r1, r2, r3, r4⟩ := append_core (ty := o.type) hm hE hk h1 hsrc hrs hok.2.1 hb hn
    refine ⟨v', w', ok, H', .inl ?_, r1, r2, r3, r4⟩
    simp [execOp, ho, resolve, invoke, builtin, hr]

/-- An own row begins: nil. -/
theorem own_nil {C : Cx} {ok : Nat → Prop} {H : List Hd} {w : World} (hm : Mem C ok H es w) (e : TypeId) (size : Nat) :
    Mem C ok (H ++ [⟨.slice none 0 0, size⟩]) (es ++ [.arr e size []]) w ∧ R ok w (H ++ [⟨.slice none 0 0, size⟩]) (.osl es.length) (.slice none 0 0) := by
  obtain ⟨h, _⟩ := hm.change (ok' := ok) (w' := w) (H' := H ++ [⟨.slice none 0 0, size⟩]) (es' := es ++ [.arr e size []]) (fun _ => False) rfl rfl rfl (Nat.le_refl _) (fun _ _ _ => rfl) (fun _ h => h.elim) (fun _ h => h) (fun _ h => .inl h) (Names.push _ _) (by simp [hm.hlen]) (by
    intro k e' h' he' hh'
    rcases push_get he' with h1 | ⟨h1, h2⟩
    · have hk : k < H.length := by rw [hm.hlen]; exact (List.getElem?_eq_some_iff.1 h1).1
      rw [List.getElem?_append_left hk] at hh'
      exact .inl ⟨h1, hh', fun _ _ _ h => h⟩
    · subst h2
      have hk : k = H.length := by rw [hm.hlen]; exact h1
      subst hk
      simp at hh'
      subst hh'
      exact .inr ⟨⟨rfl, by simp, [], ⟨by simp, .inl ⟨rfl, rfl⟩⟩, by simp [flat], fun i hi => by simp [flat] at hi⟩, fun _ b hb => by simp [blkOf] at hb⟩)
  exact ⟨h, .osl _ _ _ _ size (by rw [← hm.hlen]; simp)⟩
theorem ok_assign_own (e : TypeId) (size : Nat) (ho : o.op = .assign (.const (.slice none 0 0))) : OpOk P o [] es (.osl es.length) (es ++ [.arr e size []]) :=
  .eff fun C ok H a w hm _ => by
    obtain ⟨h1, h2⟩ := own_nil hm e size
    exact ⟨.slice none 0 0, w, ok, _, .inl (by simp [execOp, ho]; rfl), .refl _ _, Names.push _ _, h1, h2⟩
theorem ok_move_own (e : TypeId) (size : Nat) (ho : o.op = .move (.const (.slice none 0 0))) : OpOk P o [] es (.osl es.length) (es ++ [.arr e size []]) :=
  .eff fun C ok H a w hm _ => by
    obtain ⟨h1, h2⟩ := own_nil hm e size
    exact ⟨.slice none 0 0, w, ok, _, .inl (by simp [execOp, ho]; rfl), .refl _ _, Names.push _ _, h1, h2⟩
theorem ok_assign_nil (ho : o.op = .assign (.const (.slice none 0 0))) : OpOk P o [] es (.d (.sl [])) es :=
  .pure fun _ _ a w _ _ _ => ⟨.slice none 0 0, by simp [execOp, ho]; rfl, .d _ _ (.sl0 none 0)⟩
theorem ok_move_nil (ho : o.op = .move (.const (.slice none 0 0))) : OpOk P o [] es (.d (.sl [])) es :=
  .pure fun _ _ a w _ _ _ => ⟨.slice none 0 0, by simp [execOp, ho]; rfl, .d _ _ (.sl0 none 0)⟩
end
end Go.Proofs.Ytdhhcmdofnjhiaa
