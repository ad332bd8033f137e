/- The plain law of DigestSofts over the typed functions. No condition. -/
import Derived.Test.YtdhhcmdofnjhiaaPlDig
import Derived.Test.YtdhhcmdofnjhiaaCodL
import Derived.Test.YtdhhcmdofnjhiaaGx
namespace Go.Proofs.Ytdhhcmdofnjhiaa
open Go.RowKit

theorem dec_lt {i n : Nat} (h : i < n) : decide ((i : Int) < (n : Int)) = true := by simpa using h
theorem dec_nlt (n : Nat) : decide ((n : Int) < (n : Int)) = false := by simp
theorem gBits_bits (op : BinOp) (k : IntKind) (x y : Int) (h : op = .and ∨ op = .or ∨ op = .xor) : gBits op k x y = bits op k x y := by
  rcases h with rfl | rfl | rfl <;> rfl

theorem gApp_cap {α : Type} {b : Nat} {l m : List α} (hb : b ≤ 100) (h : (l ++ m).length ≤ 1099511627776) : gApp b l m = some (l ++ m) := by
  refine gApp_le ?_
  rw [List.length_append] at h
  have : (l.length + m.length) * b ≤ 1099511627776 * 100 := Nat.mul_le_mul h hb
  omega

theorem or128' (u : Nat) : gBits .or .u8 (IntKind.u8.wrap (u : Int)) 128 = ((u % 128 + 128 : Nat) : Int) := by
  rw [gBits_bits _ _ _ _ (.inr (.inl rfl)), show IntKind.u8.wrap (u : Int) = (u : Int) % 256 from by rw [IntKind.wrap_u8], or128]
theorem shr7 (u : Nat) : gSh .shr .u64 (u : Int) 7 = some ((u / 128 : Nat) : Int) := by
  unfold gSh
  rw [if_neg (by omega)]
  show some ((u : Int).fdiv (2 ^ 7)) = _
  rw [Int.fdiv_eq_ediv_of_nonneg _ (by decide)]
  congr 1
theorem div128 {u n : Nat} (h : u < 128 ^ (n + 1 + 1)) : u / 128 < 128 ^ (n + 1) := by
  rw [Nat.div_lt_iff_lt_mul (by omega)]
  rw [Nat.pow_succ] at h; exact h
theorem number_L : ∀ (n u : Nat), u < 128 ^ (n + 1) → ∀ m b, n < m → (b ++ encN u).length ≤ 1099511627776 → loop2 codec_number_B2 m b (u : Int) = some (b ++ encN u) := by
  intro n
  induction n with
  | zero =>
    intro u hu m b hm hc
    obtain ⟨m, rfl⟩ : ∃ m', m = m' + 1 := ⟨m - 1, by omega⟩
    have h : u < 128 := by simpa using hu
    rw [encN_small h] at hc ⊢
    show codec_number_B2 (loop2 codec_number_B2 m) b (u : Int) = _
    simp only [codec_number_B2, show decide ((u : Int) ≥ 128) = false from by simp; omega, cond_false]
    rw [show IntKind.u8.wrap (u : Int) = (u : Int) from by rw [IntKind.wrap_u8]; omega, gApp_cap (by omega) hc]; rfl
  | succ n ih =>
    intro u hu m b hm hc
    obtain ⟨m, rfl⟩ : ∃ m', m = m' + 1 := ⟨m - 1, by omega⟩
    show codec_number_B2 (loop2 codec_number_B2 m) b (u : Int) = _
    by_cases h : u < 128
    · rw [encN_small h] at hc ⊢
      simp only [codec_number_B2, show decide ((u : Int) ≥ 128) = false from by simp; omega, cond_false]
      rw [show IntKind.u8.wrap (u : Int) = (u : Int) from by rw [IntKind.wrap_u8]; omega, gApp_cap (by omega) hc]; rfl
    · rw [encN_great h] at hc ⊢
      have e : (b ++ ((u % 128 + 128 : Nat) : Int) :: encN (u / 128)) = (b ++ [((u % 128 + 128 : Nat) : Int)]) ++ encN (u / 128) := by simp
      have hc1 : (b ++ [((u % 128 + 128 : Nat) : Int)]).length ≤ 1099511627776 := by simp only [List.length_append, List.length_cons, List.length_nil] at hc ⊢; omega
      simp only [codec_number_B2, show decide ((u : Int) ≥ 128) = true from by simp; omega, cond_true, or128', gApp_cap (show 1 ≤ 100 by omega) hc1, shr7, Option.bind_some]
      rw [e]
      exact ih (u / 128) (div128 hu) m _ (by omega) (by rw [← e]; exact hc)
theorem Int_L : ∀ (n u : Nat), u < 128 ^ (n + 1) → u < 18446744073709551616 → ∀ m b, n < m → (b ++ encN u).length ≤ 1099511627776 → loop2 R05_Int_B2 m (u : Int) b = some (b ++ encN u) := by
  intro n
  induction n with
  | zero =>
    intro u hu _ m b hm hc
    obtain ⟨m, rfl⟩ : ∃ m', m = m' + 1 := ⟨m - 1, by omega⟩
    have h : u < 128 := by simpa using hu
    rw [encN_small h] at hc ⊢
    show R05_Int_B2 (loop2 R05_Int_B2 m) (u : Int) b = _
    simp only [R05_Int_B2, show decide ((u : Int) ≥ 128) = false from by simp; omega, cond_false]
    rw [show IntKind.u8.wrap (u : Int) = (u : Int) from by rw [IntKind.wrap_u8]; omega, gApp_cap (by omega) hc]; rfl
  | succ n ih =>
    intro u hu h64 m b hm hc
    obtain ⟨m, rfl⟩ : ∃ m', m = m' + 1 := ⟨m - 1, by omega⟩
    show R05_Int_B2 (loop2 R05_Int_B2 m) (u : Int) b = _
    by_cases h : u < 128
    · rw [encN_small h] at hc ⊢
      simp only [R05_Int_B2, show decide ((u : Int) ≥ 128) = false from by simp; omega, cond_false]
      rw [show IntKind.u8.wrap (u : Int) = (u : Int) from by rw [IntKind.wrap_u8]; omega, gApp_cap (by omega) hc]; rfl
    · rw [encN_great h] at hc ⊢
      have e : (b ++ ((u % 128 + 128 : Nat) : Int) :: encN (u / 128)) = (b ++ [((u % 128 + 128 : Nat) : Int)]) ++ encN (u / 128) := by simp
      have hc1 : (b ++ [((u % 128 + 128 : Nat) : Int)]).length ≤ 1099511627776 := by simp only [List.length_append, List.length_cons, List.length_nil] at hc ⊢; omega
      have hr : gRemK (u : Int) 128 = some ((u % 128 : Nat) : Int) := by unfold gRemK; rw [if_neg (by omega), Int.tmod_eq_emod_of_nonneg (by omega)]; congr 1
      have hq : gQuoK .u64 (u : Int) 128 = some ((u / 128 : Nat) : Int) := by
        unfold gQuoK; rw [if_neg (by omega), Int.tdiv_eq_ediv_of_nonneg (by omega)]
        congr 1; rw [IntKind.wrap_u64]; omega
      have hw : IntKind.u8.wrap (IntKind.u64.wrap (((u % 128 : Nat) : Int) + 128)) = ((u % 128 + 128 : Nat) : Int) := by rw [IntKind.wrap_u64, IntKind.wrap_u8]; omega
      simp only [R05_Int_B2, show decide ((u : Int) ≥ 128) = true from by simp; omega, cond_true, hr, hw, hq, gApp_cap (show 1 ≤ 100 by omega) hc1, Option.bind_some]
      rw [e]
      exact ih (u / 128) (div128 hu) (by omega) m _ (by omega) (by rw [← e]; exact hc)

theorem shl1 (x : Int) : gSh .shl .u64 x 1 = some (IntKind.u64.wrap (x * 2)) := rfl
theorem not64 (x : Int) : gNot .u64 x = bits .xor .u64 IntKind.u64.max x := rfl
theorem zig_pow (n : Int) : (zig n).toNat < 128 ^ (9 + 1) := by
  have hz := zig_bd n
  have : (128 : Nat) ^ (9 + 1) = 1180591620717411303424 := by decide
  rw [this]; omega
theorem nine_fuel : 9 < fuel := by have : fuel = 4611686018427387904 := rfl; omega
theorem number_eq {b : List Int} {n : Int} (h : (b ++ enc n).length ≤ 1099511627776) : codec_number b n = some (b ++ enc n) := by
  have hz := zig_bd n
  have hL : codec_number_L2 b (zig n) = some (b ++ enc n) := by
    have := number_L 9 (zig n).toNat (zig_pow n) fuel b nine_fuel h
    rwa [Int.toNat_of_nonneg hz.1] at this
  unfold codec_number
  rw [shl1, Option.bind_some]
  unfold codec_number_j1
  unfold zig at hL
  by_cases hn : n < 0
  · rw [if_pos hn] at hL
    rw [show decide (n < 0) = true by simpa using hn, cond_true, not64]; exact hL
  · rw [if_neg hn] at hL
    rw [show decide (n < 0) = false by simpa using hn, cond_false]; exact hL
theorem enc_cap (n : Int) : ([] ++ enc n).length ≤ 1099511627776 := by have := enc_length n; simp only [List.nil_append]; omega
theorem Int_eq (n : Int) : R05_Int n = some (enc n) := by
  have hz := zig_bd n
  have hL : R05_Int_L2 (zig n) [] = some (enc n) := by
    have := Int_L 9 (zig n).toNat (zig_pow n) (by omega) fuel [] nine_fuel (enc_cap n)
    rwa [Int.toNat_of_nonneg hz.1] at this
  unfold R05_Int
  rw [shl1, Option.bind_some]
  unfold R05_Int_j1
  unfold zig at hL
  by_cases hn : n < 0
  · rw [if_pos hn] at hL
    rw [show decide (n < 0) = true by simpa using hn, cond_true, not64]; exact hL
  · rw [if_neg hn] at hL
    rw [show decide (n < 0) = false by simpa using hn, cond_false]; exact hL

theorem room_eq {b : List Int} {m : Nat} (h : b.length + m ≤ 1099511627776) : codec_room b (m : Int) = some b := by
  unfold codec_room
  rw [wrap_id (by omega) (by omega)]
  unfold gMake
  rw [if_pos ⟨by omega, by omega, by omega⟩]
  simp [gCopy]
theorem cap_l {a b : List Int} (h : (a ++ b).length ≤ 1099511627776) : a.length ≤ 1099511627776 := by rw [List.length_append] at h; omega
/-- The bytes of a text. -/
def encS (s : ByteArray) : List Int := enc s.size ++ sBytes s
theorem text_eq {b : List Int} {s : ByteArray} (h : (b ++ encS s).length ≤ 1099511627776) : codec_text b s = some (b ++ encS s) := by
  unfold encS at h ⊢
  rw [← List.append_assoc] at h ⊢
  unfold codec_text
  rw [number_eq (cap_l h), Option.bind_some, gApp_cap (by omega) h]; rfl
theorem PutInt_eq {b : List Int} {n : Int} (h : b.length + 10 ≤ 1099511627776) : codec_PutInt b n = some (b ++ enc n) := by
  have := enc_length n
  unfold codec_PutInt
  rw [show (10 : Int) = ((10 : Nat) : Int) from rfl, room_eq (by omega), Option.bind_some, number_eq (by rw [List.length_append]; omega)]; rfl
theorem PutInt_eq' {b : List Int} {n : Int} (h : b.length + 10 ≤ 1099511627776) : R05_PutInt b n = some (b ++ enc n) := by
  have := enc_length n
  unfold R05_PutInt
  rw [gApp_cap (by omega) (by rw [List.nil_append]; omega), Option.bind_some, Int_eq, Option.bind_some, List.nil_append, gApp_cap (by omega) (by rw [List.length_append]; omega)]; rfl
theorem encS_length (s : ByteArray) : (encS s).length ≤ s.size + 10 := by
  have := enc_length s.size
  unfold encS; rw [List.length_append, sBytes_length]; omega
theorem PutText_eq {b : List Int} {s : ByteArray} (h : b.length + s.size + 10 ≤ 1099511627776) : codec_PutText b s = some (b ++ encS s) := by
  have := encS_length s
  unfold codec_PutText
  rw [wrap_id (by omega) (by omega), show (s.size : Int) + 10 = ((s.size + 10 : Nat) : Int) by omega, room_eq (by omega), Option.bind_some, text_eq (by rw [List.length_append]; omega)]; rfl
theorem PutText_eq' {b : List Int} {s : ByteArray} (h : b.length + s.size + 10 ≤ 1099511627776) : R05_PutText b s = some (b ++ encS s) := by
  have := encS_length s
  unfold R05_PutText
  rw [PutInt_eq' (by omega), Option.bind_some, gApp_cap (by omega) (by unfold encS at this; rw [List.length_append] at this; rw [List.length_append, List.length_append]; omega)]
  simp [encS]
section
variable {S R A α : Type}
/-- A loop over a list by its places, that changes what it carries by each element. -/
theorem loopF {body : (Int → S → Option R) → Int → S → Option R} (l : List α) (hl : l.length < fuel) (step : S → α → S) (I : Nat → S → Prop) (rest : S → Option R)
    (hb : ∀ k (i : Nat) (h : i < l.length) s, I i s → body k (i : Int) s = k (IntKind.i64.wrap ((i : Int) + 1)) (step s l[i]) ∧ I (i + 1) (step s l[i])) (he : ∀ k s, I l.length s → body k (l.length : Int) s = rest s) (s0 : S) (h0 : I 0 s0) :
    loop2 body fuel 0 s0 = rest (l.foldl step s0) ∧ I l.length (l.foldl step s0) := by
  have hf : fuel = 4611686018427387904 := rfl
  have key : ∀ n (i : Nat) s, i + n = l.length → I i s → ∀ m, n < m → loop2 body m (i : Int) s = rest ((l.drop i).foldl step s) ∧ I l.length ((l.drop i).foldl step s) := by
    intro n
    induction n with
    | zero =>
      intro i s hi hI m hm
      obtain ⟨m, rfl⟩ : ∃ m', m = m' + 1 := ⟨m - 1, by omega⟩
      have : i = l.length := by omega
      subst this
      rw [List.drop_length]
      exact ⟨he _ _ hI, hI⟩
    | succ n ih =>
      intro i s hi hI m hm
      obtain ⟨m, rfl⟩ : ∃ m', m = m' + 1 := ⟨m - 1, by omega⟩
      have hlt : i < l.length := by omega
      obtain ⟨h1, h2⟩ := hb (loop2 body m) i hlt s hI
      rw [List.drop_eq_getElem_cons hlt, List.foldl_cons]
      show body (loop2 body m) _ _ = _ ∧ _
      rw [h1, wrap_succ i (by omega)]
      exact ih (i + 1) _ (by omega) h2 m (by omega)
  exact key l.length 0 s0 (by omega) h0 fuel hl
theorem loop2_flip (body : (A → S → Option R) → A → S → Option R) : ∀ n a s, loop2 body n a s = loop2 (fun k s a => body (fun a s => k s a) a s) n s a
  | 0, _, _ => rfl
  | n + 1, a, s => by
    show body (loop2 body n) a s = body (fun a s => loop2 (fun k s a => body (fun a s => k s a) a s) n s a) a s
    congr 1; funext a s; exact loop2_flip body n a s
end
def sumI (l : List Int) : Int := IntKind.i64.wrap (l.foldl foldStep ((IntKind.u64.wrap 860922984064492325).tmod 4611686018427387904))
theorem sums_Sum_eq {l : List Int} (hl : l.length ≤ 1000000) : sums_Sum l = some (sumI l) := by
  have hf : fuel = 4611686018427387904 := rfl
  unfold sums_Sum sums_Start
  rw [Option.bind_some]
  unfold sums_Fold sums_Fold_L1
  rw [loop2_flip, gBits_bits _ _ _ _ (.inl rfl), mask62]
  have := loopF (R := Int) (body := fun k s a => sums_Fold_B1 l (fun a s => k s a) a s) l (by omega) foldStep (fun _ _ => True) (fun s => some (IntKind.i64.wrap s)) (fun k i h s _ => by
    refine ⟨?_, trivial⟩
    show sums_Fold_B1 l (fun a s => k s a) s (i : Int) = _
    simp only [sums_Fold_B1, dec_lt h, cond_true, gIdx_lt h, Option.bind_some, gBits_bits _ _ _ _ (.inl rfl), gBits_bits _ _ _ _ (.inr (.inr rfl)), foldStep_mask]) (fun k s _ => by
    show sums_Fold_B1 l (fun a s => k s a) s (l.length : Int) = _
    simp only [sums_Fold_B1, dec_nlt, cond_false]) ((IntKind.u64.wrap 860922984064492325).tmod 4611686018427387904) trivial
  rw [this.1]; rfl

section
variable {A B C D R : Type} {Q : R → Prop}
theorem loop3_tri {body : (A → B → C → Option R) → A → B → C → Option R} (I : Nat → A → B → C → Prop) (hs : ∀ m a b c k, I m a b c → (∀ m' a' b' c', m' < m → I m' a' b' c' → Tri (k a' b' c') Q) → Tri (body k a b c) Q) :
    ∀ n m a b c, m < n → I m a b c → Tri (loop3 body n a b c) Q
  | 0, m, a, b, c, h, _ => by omega
  | n + 1, m, a, b, c, h, hi => hs m a b c _ hi fun m' a' b' c' h' hi' => loop3_tri I hs n m' a' b' c' (by omega) hi'
theorem loop4_tri {body : (A → B → C → D → Option R) → A → B → C → D → Option R} (I : Nat → A → B → C → D → Prop) (hs : ∀ m a b c d k, I m a b c d → (∀ m' a' b' c' d', m' < m → I m' a' b' c' d' → Tri (k a' b' c' d') Q) → Tri (body k a b c d) Q) :
    ∀ n m a b c d, m < n → I m a b c d → Tri (loop4 body n a b c d) Q
  | 0, m, a, b, c, d, h, _ => by omega
  | n + 1, m, a, b, c, d, h, hi => hs m a b c d _ hi fun m' a' b' c' d' h' hi' => loop4_tri I hs n m' a' b' c' d' (by omega) hi'
end

/-- What counts of a row. -/
def keyR (x : ApiRow) : Int × Int := (x.Id, if x.Status = 3 ∨ x.Status = 4 then 4 else x.Status)
def vdK : List (Int × Int) → Int → Int
  | [], _ => 0
  | p :: l, id => if p.1 = id then p.2 else vdK l id

theorem room_Row_tri (r : ApiRoom) (id : Int) (hr : r.Rows.length ≤ 1000000) : Tri (room_Row r id) (fun p => (bif p.2 then (keyR p.1).2 else 0) = vdK (r.Rows.map keyR) id) := by
  have hf : fuel = 4611686018427387904 := rfl
  unfold room_Row room_Row_L1
  refine loop2_tri (body := room_Row_B1 r id) (Q := fun p : ApiRow × Bool => (bif p.2 then (keyR p.1).2 else 0) = vdK (r.Rows.map keyR) id) (fun m a _ => ∃ i : Nat, a = (i : Int) ∧ i + m = r.Rows.length ∧ vdK ((r.Rows.drop i).map keyR) id = vdK (r.Rows.map keyR) id) ?_ fuel r.Rows.length 0 zApiRow (by omega) ⟨0, rfl, by omega, rfl⟩
  rintro m a b k ⟨i, rfl, hm, hi⟩ hk
  unfold room_Row_B1
  by_cases e : i < r.Rows.length
  · rw [step_at e]
    rw [List.drop_eq_getElem_cons e, List.map_cons] at hi
    refine Tri.bif (fun h => .ret ?_) fun h => hk (m - 1) _ _ (by omega) ⟨i + 1, wrap_succ i (by omega), by omega, ?_⟩
    · have h : r.Rows[i].Id = id := by simpa using h
      rw [← hi]; unfold vdK
      rw [if_pos (show (keyR r.Rows[i]).1 = id from h)]; rfl
    · have h : ¬ r.Rows[i].Id = id := by simpa using h
      rw [← hi]
      conv => rhs; unfold vdK
      rw [if_neg (show ¬ (keyR r.Rows[i]).1 = id from h)]
  · have : i = r.Rows.length := by omega
    subst this
    rw [end_at]
    refine .ret ?_
    rw [← hi, List.drop_length]; rfl

theorem verdict_eq (r : ApiRoom) (id : Int) (hr : r.Rows.length ≤ 1000000) : digest_verdict r id = some (vdK (r.Rows.map keyR) id) := by
  refine Tri.eq ?_
  unfold digest_verdict
  refine (room_Row_tri r id hr).bind fun p hp => ?_
  rw [← hp]
  obtain ⟨x, b⟩ := p
  cases b with
  | false => exact .ret rfl
  | true =>
    refine Tri.bif (fun h => by cases h) fun _ => Tri.bif (fun h => .ret ?_) fun h => Tri.bif (fun h2 => .ret ?_) fun h2 => .ret ?_
    · have h : x.Status = 3 := by simpa using h
      simp [keyR, h]
    · have h : x.Status = 4 := by simpa using h2
      simp [keyR, h]
    · have h : ¬ x.Status = 3 := by simpa using h
      have h2 : ¬ x.Status = 4 := by simpa using h2
      simp [keyR, h, h2]

def evK (ks : List (Int × Int)) (e : ApiEvent) : List Int := enc e.Id ++ enc (vdK ks e.Id)
def stK (s : ApiEntry) : List Int := enc s.Kind ++ encS s.Key ++ enc s.Id
def roomH (id : ByteArray) (evs : List ApiEvent) (ks : List (Int × Int)) (st : List ApiEntry) : Int :=
  sumI (encS id ++ enc evs.length ++ evs.flatMap (evK ks) ++ enc st.length ++ st.flatMap stK)

theorem flat_step {α : Type} (g : α → List Int) {l : List α} {i : Nat} (h : i < l.length) : (l.take (i + 1)).flatMap g = (l.take i).flatMap g ++ g l[i] := by
  rw [List.take_succ_eq_append_getElem h, List.flatMap_append]; simp

theorem digest_Room_eq (r : ApiRoom) (he : r.Events.length ≤ 1000) (hr : r.Rows.length ≤ 1000000) (hs : r.State.length ≤ 60) (hid : r.Id.size ≤ 2000) (hk : ∀ x ∈ r.State, x.Key.size ≤ 2000) :
    digest_Room r = some (roomH r.Id r.Events (r.Rows.map keyR) r.State) := by
  have hf : fuel = 4611686018427387904 := rfl
  refine Tri.eq ?_
  have l0 := encS_length r.Id
  have l1 := enc_length (r.Events.length : Int)
  unfold digest_Room
  rw [PutText_eq (by simp; omega), List.nil_append, Option.bind_some, PutInt_eq (by omega), Option.bind_some]
  unfold digest_Room_L1
  refine loop3_tri (body := digest_Room_B1 r) (Q := fun v => v = roomH r.Id r.Events (r.Rows.map keyR) r.State) (fun m a b c => ∃ i : Nat, b = (i : Int) ∧ i + m = r.Events.length ∧ c = r ∧ a = encS r.Id ++ enc r.Events.length ++ (r.Events.take i).flatMap (evK (r.Rows.map keyR)) ∧ a.length ≤ 2020 + i * 20) ?_ fuel r.Events.length (encS r.Id ++ enc r.Events.length) 0 r (by omega) ⟨0, rfl, by omega, rfl, by simp, by rw [List.length_append]; omega⟩
  rintro m a b c k ⟨i, rfl, hm, rfl, ha, hl⟩ hk2
  unfold digest_Room_B1
  by_cases e : i < c.Events.length
  · rw [step_at e, PutInt_eq (by omega), Option.bind_some, verdict_eq _ _ hr, Option.bind_some]
    have l2 := enc_length c.Events[i].Id
    have l3 := enc_length (vdK (c.Rows.map keyR) c.Events[i].Id)
    rw [PutInt_eq (by simp only [List.length_append]; omega), Option.bind_some]
    refine hk2 (m - 1) _ _ _ (by omega) ⟨i + 1, wrap_succ i (by omega), by omega, rfl, ?_, ?_⟩
    · rw [flat_step _ e, ha]; simp [evK]
    · simp only [List.length_append]; omega
  · have : i = c.Events.length := by omega
    subst this
    rw [end_at, PutInt_eq (by omega), Option.bind_some]
    have l2 := enc_length (c.State.length : Int)
    rw [List.take_length] at ha
    unfold digest_Room_L2
    refine loop2_at (body := digest_Room_B2 c) (Q := fun v => v = roomH c.Id c.Events (c.Rows.map keyR) c.State) c.State.length (by omega) (fun i b => b = a ++ enc c.State.length ++ (c.State.take i).flatMap stK ∧ b.length ≤ 30000 + i * 3000) ⟨by simp, by simp only [List.length_append]; omega⟩ ?_ ?_
    · rintro i b k hi ⟨hb, hbl⟩ hk3
      unfold digest_Room_B2
      have l3 := enc_length c.State[i].Kind
      have l4 := encS_length c.State[i].Key
      have l5 := enc_length c.State[i].Id
      have l6 := hk c.State[i] (List.getElem_mem hi)
      rw [step_at hi, wrap_succ i (by omega), PutInt_eq (by omega), Option.bind_some, PutText_eq (by simp only [List.length_append]; omega), Option.bind_some, PutInt_eq (by simp only [List.length_append]; omega), Option.bind_some]
      refine hk3 _ ⟨?_, ?_⟩
      · rw [flat_step _ hi, hb]; simp [stK]
      · simp only [List.length_append]; omega
    · rintro b k ⟨hb, hbl⟩
      unfold digest_Room_B2
      rw [end_at, sums_Sum_eq (by omega), hb, List.take_length, ha]
      exact .ret rfl

theorem key_set {l : List ApiRow} {i : Nat} (h : i < l.length) {y : ApiRow} (hy : keyR y = keyR l[i]) : (l.set i y).map keyR = l.map keyR := by
  rw [List.map_set, hy]
  refine List.ext_getElem (by simp) fun j h1 h2 => ?_
  rw [List.getElem_set]
  split
  · rename_i e; subst e; simp
  · rfl

theorem softs_law (r : ApiRoom) : L54_DigestSofts r = some true := by
  have hf : fuel = 4611686018427387904 := rfl
  refine Tri.eq ?_
  unfold L54_DigestSofts
  refine (R27_Great_tri r 14 (by omega)).bind fun g1 h1 => Tri.bif (fun _ => .ret rfl) fun a1 => ?_
  obtain ⟨he, hr, hs, hid, _, hk⟩ := h1 a1
  rw [gApp_le (by simp; omega), List.nil_append, Option.bind_some]
  unfold L54_DigestSofts_L1
  refine loop4_tri (body := L54_DigestSofts_B1) (Q := fun v => v = true) (fun m a b c d => ∃ i : Nat, b = (i : Int) ∧ i + m = r.Rows.length ∧ c = r ∧ d = r ∧ a.length = r.Rows.length ∧ a.map keyR = r.Rows.map keyR) ?_ fuel r.Rows.length r.Rows 0 r r (by omega) ⟨0, rfl, by omega, rfl, rfl, rfl, rfl⟩
  rintro m a b c d k ⟨i, rfl, hm, rfl, rfl, hl, hK⟩ hk2
  have j2 : ∀ v : List ApiRow, i < d.Rows.length → v.length = d.Rows.length → v.map keyR = d.Rows.map keyR → Tri (L54_DigestSofts_j2 (i : Int) k v d d) (fun v => v = true) := by
    intro v hi hv hvK
    have hiv : i < v.length := by omega
    unfold L54_DigestSofts_j2
    rw [gIdx_lt hiv, Option.bind_some, Option.bind_some, Int.toNat_natCast]
    have hi2 : i < (v.set i { v[i] with Pos := IntKind.i64.wrap ((v.length : Int) - i) }).length := by rw [List.length_set]; exact hiv
    rw [gIdx_lt hi2, Option.bind_some]
    refine hk2 (m - 1) _ _ _ _ (by omega) ⟨i + 1, wrap_succ i (by omega), by omega, rfl, rfl, by simp [hv], ?_⟩
    rw [key_set hi2, key_set hiv, hvK]
    · rfl
    · rfl
  unfold L54_DigestSofts_B1
  by_cases e : i < d.Rows.length
  · have hia : i < a.length := by omega
    rw [step_at hia, gIdx_lt hia]
    simp only [Option.bind_some, Int.toNat_natCast]
    refine Tri.bif (fun h => j2 _ e (by simp [hl]) ?_) fun h => Tri.bif (fun h2 => j2 _ e (by simp [hl]) ?_) fun h2 => j2 _ e hl hK
    · rw [key_set hia, hK]
      have h : a[i].Status = 3 := by simpa using h
      simp [keyR, h]
    · rw [key_set hia, hK]
      have h : a[i].Status = 4 := by simpa using h2
      simp [keyR, h]
  · have hi : i = a.length := by omega
    subst hi
    rw [end_at]
    refine (Tri.of (digest_Room_eq ⟨d.Id, d.Events, a, [], [], d.State, 0, d.Receipts, d.Typing⟩ (by show d.Events.length ≤ 1000; omega) (by show a.length ≤ 1000000; omega) hs hid hk)).bind fun x hx => ?_
    rw [digest_Room_eq d (by omega) (by omega) hs hid hk, hx]
    simp only [Option.bind_some, hK]
    rw [beq_self_eq_true, cond_true, L54_live_val, Option.bind_some]
    exact .ret rfl
end Go.Proofs.Ytdhhcmdofnjhiaa
