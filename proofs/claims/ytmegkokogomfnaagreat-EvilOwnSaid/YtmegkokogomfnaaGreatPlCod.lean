/- Bytes of numbers, texts and lists: the program's and the reference's are one and the same, for lists smaller than the memory. -/
import Derived.Test.YtmegkokogomfnaaGreatPlIds
import Derived.Test.YtmegkokogomfnaaGreatCodL
import Derived.Test.YtmegkokogomfnaaGreatGx
namespace Go.Proofs.YtmegkokogomfnaaGreat
open Go.RowKit

theorem gBits_bits (op : BinOp) (k : IntKind) (x y : Int) (h : op = .and ∨ op = .or ∨ op = .xor) : gBits op k x y = bits op k x y := by
  rcases h with rfl | rfl | rfl <;> rfl

theorem gApp_cap {α : Type} {b : Nat} {l m : List α} (hb : b ≤ 100) (h : (l ++ m).length ≤ 1099511627776) : gApp b l m = some (l ++ m) := by
  refine gApp_le ?_
  rw [List.length_append] at h
  have : (l.length + m.length) * b ≤ 1099511627776 * 100 := Nat.mul_le_mul h hb
  omega

theorem or128' (u : Nat) : gBits .or .u8 (IntKind.u8.wrap (u : Int)) 128 = ((u % 128 + 128 : Nat) : Int) := by
  rw [gBits_bits _ _ _ _ (.inr (.inl rfl)), show IntKind.u8.wrap (u : Int) = (u : Int) % 256 from by rw [IntKind.wrap_u8], or128]
theorem shr7 (u : Nat) : gSh .shr .u64 (u : Int) 7 = some ((u / 128 : Nat) : Int) := by
  unfold gSh
  rw [if_neg (by omega)]
  show some ((u : Int).fdiv (2 ^ 7)) = _
  rw [Int.fdiv_eq_ediv_of_nonneg _ (by decide)]
  congr 1
theorem div128 {u n : Nat} (h : u < 128 ^ (n + 1 + 1)) : u / 128 < 128 ^ (n + 1) := by
  rw [Nat.div_lt_iff_lt_mul (by omega)]
  rw [Nat.pow_succ] at h; exact h
theorem number_L : ∀ (n u : Nat), u < 128 ^ (n + 1) → ∀ m b, n < m → (b ++ encN u).length ≤ 1099511627776 → loop2 codec_number_B2 m b (u : Int) = some (b ++ encN u) := by
  intro n
  induction n with
  | zero =>
    intro u hu m b hm hc
    obtain ⟨m, rfl⟩ : ∃ m', m = m' + 1 := ⟨m - 1, by omega⟩
    have h : u < 128 := by simpa using hu
    rw [encN_small h] at hc ⊢
    show codec_number_B2 (loop2 codec_number_B2 m) b (u : Int) = _
    simp only [codec_number_B2, show decide ((u : Int) ≥ 128) = false from by simp; omega, cond_false]
    rw [show IntKind.u8.wrap (u : Int) = (u : Int) from by rw [IntKind.wrap_u8]; omega, gApp_cap (by omega) hc]; rfl
  | succ n ih =>
    intro u hu m b hm hc
    obtain ⟨m, rfl⟩ : ∃ m', m = m' + 1 := ⟨m - 1, by omega⟩
    show codec_number_B2 (loop2 codec_number_B2 m) b (u : Int) = _
    by_cases h : u < 128
    · rw [encN_small h] at hc ⊢
      simp only [codec_number_B2, show decide ((u : Int) ≥ 128) = false from by simp; omega, cond_false]
      rw [show IntKind.u8.wrap (u : Int) = (u : Int) from by rw [IntKind.wrap_u8]; omega, gApp_cap (by omega) hc]; rfl
    · rw [encN_great h] at hc ⊢
      have e : (b ++ ((u % 128 + 128 : Nat) : Int) :: encN (u / 128)) = (b ++ [((u % 128 + 128 : Nat) : Int)]) ++ encN (u / 128) := by simp
      have hc1 : (b ++ [((u % 128 + 128 : Nat) : Int)]).length ≤ 1099511627776 := by simp only [List.length_append, List.length_cons, List.length_nil] at hc ⊢; omega
      simp only [codec_number_B2, show decide ((u : Int) ≥ 128) = true from by simp; omega, cond_true, or128', gApp_cap (show 1 ≤ 100 by omega) hc1, shr7, Option.bind_some]
      rw [e]
      exact ih (u / 128) (div128 hu) m _ (by omega) (by rw [← e]; exact hc)
theorem Int_L : ∀ (n u : Nat), u < 128 ^ (n + 1) → u < 18446744073709551616 → ∀ m b, n < m → (b ++ encN u).length ≤ 1099511627776 → loop2 R05_Int_B2 m (u : Int) b = some (b ++ encN u) := by
  intro n
  induction n with
  | zero =>
    intro u hu _ m b hm hc
    obtain ⟨m, rfl⟩ : ∃ m', m = m' + 1 := ⟨m - 1, by omega⟩
    have h : u < 128 := by simpa using hu
    rw [encN_small h] at hc ⊢
    show R05_Int_B2 (loop2 R05_Int_B2 m) (u : Int) b = _
    simp only [R05_Int_B2, show decide ((u : Int) ≥ 128) = false from by simp; omega, cond_false]
    rw [show IntKind.u8.wrap (u : Int) = (u : Int) from by rw [IntKind.wrap_u8]; omega, gApp_cap (by omega) hc]; rfl
  | succ n ih =>
    intro u hu h64 m b hm hc
    obtain ⟨m, rfl⟩ : ∃ m', m = m' + 1 := ⟨m - 1, by omega⟩
    show R05_Int_B2 (loop2 R05_Int_B2 m) (u : Int) b = _
    by_cases h : u < 128
    · rw [encN_small h] at hc ⊢
      simp only [R05_Int_B2, show decide ((u : Int) ≥ 128) = false from by simp; omega, cond_false]
      rw [show IntKind.u8.wrap (u : Int) = (u : Int) from by rw [IntKind.wrap_u8]; omega, gApp_cap (by omega) hc]; rfl
    · rw [encN_great h] at hc ⊢
      have e : (b ++ ((u % 128 + 128 : Nat) : Int) :: encN (u / 128)) = (b ++ [((u % 128 + 128 : Nat) : Int)]) ++ encN (u / 128) := by simp
      have hc1 : (b ++ [((u % 128 + 128 : Nat) : Int)]).length ≤ 1099511627776 := by simp only [List.length_append, List.length_cons, List.length_nil] at hc ⊢; omega
      have hr : gRemK (u : Int) 128 = some ((u % 128 : Nat) : Int) := by unfold gRemK; rw [if_neg (by omega), Int.tmod_eq_emod_of_nonneg (by omega)]; congr 1
      have hq : gQuoK .u64 (u : Int) 128 = some ((u / 128 : Nat) : Int) := by
        unfold gQuoK; rw [if_neg (by omega), Int.tdiv_eq_ediv_of_nonneg (by omega)]
        congr 1; rw [IntKind.wrap_u64]; omega
      have hw : IntKind.u8.wrap (IntKind.u64.wrap (((u % 128 : Nat) : Int) + 128)) = ((u % 128 + 128 : Nat) : Int) := by rw [IntKind.wrap_u64, IntKind.wrap_u8]; omega
      simp only [R05_Int_B2, show decide ((u : Int) ≥ 128) = true from by simp; omega, cond_true, hr, hw, hq, gApp_cap (show 1 ≤ 100 by omega) hc1, Option.bind_some]
      rw [e]
      exact ih (u / 128) (div128 hu) (by omega) m _ (by omega) (by rw [← e]; exact hc)

theorem shl1 (x : Int) : gSh .shl .u64 x 1 = some (IntKind.u64.wrap (x * 2)) := rfl
theorem not64 (x : Int) : gNot .u64 x = bits .xor .u64 IntKind.u64.max x := rfl
theorem zig_pow (n : Int) : (zig n).toNat < 128 ^ (9 + 1) := by
  have hz := zig_bd n
  have : (128 : Nat) ^ (9 + 1) = 1180591620717411303424 := by decide
  rw [this]; omega
theorem nine_fuel : 9 < fuel := by have : fuel = 4611686018427387904 := rfl; omega
theorem number_eq {b : List Int} {n : Int} (h : (b ++ enc n).length ≤ 1099511627776) : codec_number b n = some (b ++ enc n) := by
  have hz := zig_bd n
  have hL : codec_number_L2 b (zig n) = some (b ++ enc n) := by
    have := number_L 9 (zig n).toNat (zig_pow n) fuel b nine_fuel h
    rwa [Int.toNat_of_nonneg hz.1] at this
  unfold codec_number
  rw [shl1, Option.bind_some]
  unfold codec_number_j1
  unfold zig at hL
  by_cases hn : n < 0
  · rw [if_pos hn] at hL
    rw [show decide (n < 0) = true by simpa using hn, cond_true, not64]; exact hL
  · rw [if_neg hn] at hL
    rw [show decide (n < 0) = false by simpa using hn, cond_false]; exact hL
theorem enc_cap (n : Int) : ([] ++ enc n).length ≤ 1099511627776 := by have := enc_length n; simp only [List.nil_append]; omega
theorem Int_eq (n : Int) : R05_Int n = some (enc n) := by
  have hz := zig_bd n
  have hL : R05_Int_L2 (zig n) [] = some (enc n) := by
    have := Int_L 9 (zig n).toNat (zig_pow n) (by omega) fuel [] nine_fuel (enc_cap n)
    rwa [Int.toNat_of_nonneg hz.1] at this
  unfold R05_Int
  rw [shl1, Option.bind_some]
  unfold R05_Int_j1
  unfold zig at hL
  by_cases hn : n < 0
  · rw [if_pos hn] at hL
    rw [show decide (n < 0) = true by simpa using hn, cond_true, not64]; exact hL
  · rw [if_neg hn] at hL
    rw [show decide (n < 0) = false by simpa using hn, cond_false]; exact hL

theorem room_eq {b : List Int} {m : Nat} (h : b.length + m ≤ 1099511627776) : codec_room b (m : Int) = some b := by
  unfold codec_room
  rw [wrap_id (by omega) (by omega)]
  unfold gMake
  rw [if_pos ⟨by omega, by omega, by omega⟩]
  simp [gCopy]
theorem cap_l {a b : List Int} (h : (a ++ b).length ≤ 1099511627776) : a.length ≤ 1099511627776 := by rw [List.length_append] at h; omega
/-- The bytes of a text. -/
def encS (s : ByteArray) : List Int := enc s.size ++ sBytes s
theorem text_eq {b : List Int} {s : ByteArray} (h : (b ++ encS s).length ≤ 1099511627776) : codec_text b s = some (b ++ encS s) := by
  unfold encS at h ⊢
  rw [← List.append_assoc] at h ⊢
  unfold codec_text
  rw [number_eq (cap_l h), Option.bind_some, gApp_cap (by omega) h]; rfl
theorem PutInt_eq {b : List Int} {n : Int} (h : b.length + 10 ≤ 1099511627776) : codec_PutInt b n = some (b ++ enc n) := by
  have := enc_length n
  unfold codec_PutInt
  rw [show (10 : Int) = ((10 : Nat) : Int) from rfl, room_eq (by omega), Option.bind_some, number_eq (by rw [List.length_append]; omega)]; rfl
theorem PutInt_eq' {b : List Int} {n : Int} (h : b.length + 10 ≤ 1099511627776) : R05_PutInt b n = some (b ++ enc n) := by
  have := enc_length n
  unfold R05_PutInt
  rw [gApp_cap (by omega) (by rw [List.nil_append]; omega), Option.bind_some, Int_eq, Option.bind_some, List.nil_append, gApp_cap (by omega) (by rw [List.length_append]; omega)]; rfl
theorem encS_length (s : ByteArray) : (encS s).length ≤ s.size + 10 := by
  have := enc_length s.size
  unfold encS; rw [List.length_append, sBytes_length]; omega
theorem PutText_eq {b : List Int} {s : ByteArray} (h : b.length + s.size + 10 ≤ 1099511627776) : codec_PutText b s = some (b ++ encS s) := by
  have := encS_length s
  unfold codec_PutText
  rw [wrap_id (by omega) (by omega), show (s.size : Int) + 10 = ((s.size + 10 : Nat) : Int) by omega, room_eq (by omega), Option.bind_some, text_eq (by rw [List.length_append]; omega)]; rfl
theorem PutText_eq' {b : List Int} {s : ByteArray} (h : b.length + s.size + 10 ≤ 1099511627776) : R05_PutText b s = some (b ++ encS s) := by
  have := encS_length s
  unfold R05_PutText
  rw [PutInt_eq' (by omega), Option.bind_some, gApp_cap (by omega) (by unfold encS at this; rw [List.length_append] at this; rw [List.length_append, List.length_append]; omega)]
  simp [encS]
theorem PutBool_eq {b : List Int} {is : Bool} (h : b.length + 10 ≤ 1099511627776) : codec_PutBool b is = some (b ++ [bif is then 1 else 0]) := by
  unfold codec_PutBool
  rw [show (1 : Int) = ((1 : Nat) : Int) from rfl, room_eq (by omega), Option.bind_some]
  cases is <;> simp only [cond_true, cond_false] <;> rw [gApp_cap (by omega) (by rw [List.length_append]; simp; omega)] <;> rfl
theorem PutBool_eq' {b : List Int} {is : Bool} (h : b.length + 10 ≤ 1099511627776) : R05_PutBool b is = some (b ++ [bif is then 1 else 0]) := by
  unfold R05_PutBool
  rw [gApp_cap (by omega) (by rw [List.nil_append]; omega), Option.bind_some, List.nil_append]
  cases is <;> simp only [cond_true, cond_false] <;> rw [gApp_cap (by omega) (by rw [List.length_append]; simp; omega)] <;> rfl

/-- A loop that appends, for each element of a list, what it is told by. -/
theorem loop_put {α : Type} {body : (List Int → Int → Option (List Int)) → List Int → Int → Option (List Int)} (l : List α) (hl : l.length < fuel) (g : α → List Int)
    (hb : ∀ k b (i : Nat) (h : i < l.length), (b ++ g l[i]).length ≤ 1099511627776 → body k b (i : Int) = k (b ++ g l[i]) (IntKind.i64.wrap ((i : Int) + 1))) (he : ∀ k b, body k b (l.length : Int) = some b) (b : List Int) (hc : (b ++ l.flatMap g).length ≤ 1099511627776) :
    loop2 body fuel b 0 = some (b ++ l.flatMap g) := by
  have hf : fuel = 4611686018427387904 := rfl
  have key : ∀ n (i : Nat) b, i + n = l.length → (b ++ (l.drop i).flatMap g).length ≤ 1099511627776 → ∀ m, n < m → loop2 body m b (i : Int) = some (b ++ (l.drop i).flatMap g) := by
    intro n
    induction n with
    | zero =>
      intro i b hi hc m hm
      obtain ⟨m, rfl⟩ : ∃ m', m = m' + 1 := ⟨m - 1, by omega⟩
      have : i = l.length := by omega
      subst this
      show body (loop2 body m) _ _ = _
      rw [he, List.drop_length]; simp
    | succ n ih =>
      intro i b hi hc m hm
      obtain ⟨m, rfl⟩ : ∃ m', m = m' + 1 := ⟨m - 1, by omega⟩
      have hlt : i < l.length := by omega
      rw [List.drop_eq_getElem_cons hlt, List.flatMap_cons, ← List.append_assoc] at hc ⊢
      show body (loop2 body m) _ _ = _
      rw [hb _ _ i hlt (cap_l hc), wrap_succ i (by omega)]
      exact ih (i + 1) _ (by omega) hc m (by omega)
  exact key l.length 0 b (by omega) hc fuel hl
def encIs (l : List Int) : List Int := enc l.length ++ l.flatMap enc
def encSs (l : List ByteArray) : List Int := enc l.length ++ l.flatMap encS
theorem list_int_eq {b : List Int} {l : List Int} (h : (b ++ encIs l).length ≤ 1099511627776) (hl : l.length ≤ 1000) : codec_list_int_codec_number b l = some (b ++ encIs l) := by
  have hf : fuel = 4611686018427387904 := rfl
  unfold encIs at h ⊢
  rw [← List.append_assoc] at h ⊢
  unfold codec_list_int_codec_number
  rw [number_eq (cap_l h), Option.bind_some]
  unfold codec_list_int_codec_number_L1
  refine loop_put l (by omega) enc (fun k b i hi hc => ?_) (fun k b => ?_) _ h
  · simp only [codec_list_int_codec_number_B1, dec_lt hi, cond_true, gIdx_lt hi, number_eq hc, Option.bind_some]
  · simp only [codec_list_int_codec_number_B1, dec_nlt, cond_false]
theorem list_string_eq {b : List Int} {l : List ByteArray} (h : (b ++ encSs l).length ≤ 1099511627776) (hl : l.length ≤ 1000) : codec_list_string_codec_text b l = some (b ++ encSs l) := by
  have hf : fuel = 4611686018427387904 := rfl
  unfold encSs at h ⊢
  rw [← List.append_assoc] at h ⊢
  unfold codec_list_string_codec_text
  rw [number_eq (cap_l h), Option.bind_some]
  unfold codec_list_string_codec_text_L1
  refine loop_put l (by omega) encS (fun k b i hi hc => ?_) (fun k b => ?_) _ h
  · simp only [codec_list_string_codec_text_B1, dec_lt hi, cond_true, gIdx_lt hi, text_eq hc, Option.bind_some]
  · simp only [codec_list_string_codec_text_B1, dec_nlt, cond_false]
theorem flatMap_le {α : Type} {g : α → List Int} {m : Nat} : ∀ {l : List α}, (∀ x ∈ l, (g x).length ≤ m) → (l.flatMap g).length ≤ l.length * m
  | [], _ => by simp
  | x :: l, h => by
    rw [List.flatMap_cons, List.length_append, List.length_cons, Nat.succ_mul]
    have := h x List.mem_cons_self
    have := flatMap_le (l := l) (fun y hy => h y (List.mem_cons_of_mem _ hy))
    omega
theorem encIs_length (l : List Int) : (encIs l).length ≤ l.length * 10 + 10 := by
  have h1 := enc_length l.length
  have h2 := flatMap_le (g := enc) (m := 10) (l := l) (fun x _ => enc_length x)
  unfold encIs; rw [List.length_append]; omega
theorem encSs_length {l : List ByteArray} {m : Nat} (h : ∀ s ∈ l, s.size ≤ m) : (encSs l).length ≤ l.length * (m + 10) + 10 := by
  have h1 := enc_length l.length
  have h2 := flatMap_le (g := encS) (m := m + 10) (l := l) (fun s hs => by have := encS_length s; have := h s hs; omega)
  unfold encSs; rw [List.length_append]; omega

theorem PutInts_eq {b : List Int} {l : List Int} (hb : b.length + 20000 ≤ 1099511627776) (hl : l.length ≤ 1000) : codec_PutInts b l = some (b ++ encIs l) := by
  have h1 := encIs_length l
  unfold codec_PutInts
  rw [wrap_id (x := 2 * (l.length : Int)) (by omega) (by omega), wrap_id (by omega) (by omega), show 2 * (l.length : Int) + 10 = ((2 * l.length + 10 : Nat) : Int) by omega, room_eq (by omega), Option.bind_some, list_int_eq (by rw [List.length_append]; omega) hl]; rfl
theorem PutInts_eq' {b : List Int} {l : List Int} (hb : b.length + 20000 ≤ 1099511627776) (hl : l.length ≤ 1000) : R05_PutInts b l = some (b ++ encIs l) := by
  have hf : fuel = 4611686018427387904 := rfl
  have h1 := encIs_length l
  have h : (b ++ encIs l).length ≤ 1099511627776 := by rw [List.length_append]; omega
  unfold encIs at h ⊢
  rw [← List.append_assoc] at h ⊢
  unfold R05_PutInts
  rw [PutInt_eq' (by omega), Option.bind_some]
  unfold R05_PutInts_L1
  refine loop_put l (by omega) enc (fun k b i hi hc => ?_) (fun k b => ?_) _ h
  · simp only [R05_PutInts_B1, dec_lt hi, cond_true, gIdx_lt hi, Int_eq, gApp_cap (show 1 ≤ 100 by omega) hc, Option.bind_some]
  · simp only [R05_PutInts_B1, dec_nlt, cond_false]
theorem PutTexts_eq {b : List Int} {l : List ByteArray} (hb : b.length + 3000000 ≤ 1099511627776) (hl : l.length ≤ 1000) (hs : ∀ s ∈ l, s.size ≤ 2000) : codec_PutTexts b l = some (b ++ encSs l) := by
  have h1 := encSs_length hs
  unfold codec_PutTexts
  rw [wrap_id (x := 8 * (l.length : Int)) (by omega) (by omega), wrap_id (by omega) (by omega), show 8 * (l.length : Int) + 10 = ((8 * l.length + 10 : Nat) : Int) by omega, room_eq (by omega), Option.bind_some, list_string_eq (by rw [List.length_append]; omega) hl]; rfl
theorem PutTexts_eq' {b : List Int} {l : List ByteArray} (hb : b.length + 3000000 ≤ 1099511627776) (hl : l.length ≤ 1000) (hs : ∀ s ∈ l, s.size ≤ 2000) : R05_PutTexts b l = some (b ++ encSs l) := by
  have hf : fuel = 4611686018427387904 := rfl
  have h1 := encSs_length hs
  have h : (b ++ encSs l).length ≤ 1099511627776 := by rw [List.length_append]; omega
  -- a round asks for ten signs more than it writes: the bound is told with them
  have key : ∀ n (i : Nat) b, i + n = l.length → b.length + (n * 2020) ≤ 1099511620000 → ∀ m, n < m → loop2 (R05_PutTexts_B1 l) m b (i : Int) = some (b ++ (l.drop i).flatMap encS) := by
    intro n
    induction n with
    | zero =>
      intro i b hi hc m hm
      obtain ⟨m, rfl⟩ : ∃ m', m = m' + 1 := ⟨m - 1, by omega⟩
      have : i = l.length := by omega
      subst this
      show R05_PutTexts_B1 l (loop2 (R05_PutTexts_B1 l) m) _ _ = _
      simp only [R05_PutTexts_B1, dec_nlt, cond_false, List.drop_length]; simp
    | succ n ih =>
      intro i b hi hc m hm
      obtain ⟨m, rfl⟩ : ∃ m', m = m' + 1 := ⟨m - 1, by omega⟩
      have hlt : i < l.length := by omega
      have hx := hs l[i] (List.getElem_mem hlt)
      have hy := encS_length l[i]
      rw [List.drop_eq_getElem_cons hlt, List.flatMap_cons, ← List.append_assoc]
      show R05_PutTexts_B1 l (loop2 (R05_PutTexts_B1 l) m) _ _ = _
      simp only [R05_PutTexts_B1, dec_lt hlt, cond_true, gIdx_lt hlt, Option.bind_some]
      rw [PutText_eq' (by omega), Option.bind_some, wrap_succ i (by omega)]
      exact ih (i + 1) _ (by omega) (by rw [List.length_append]; omega) m (by omega)
  unfold encSs
  rw [← List.append_assoc]
  unfold R05_PutTexts
  rw [PutInt_eq' (by omega), Option.bind_some]
  unfold R05_PutTexts_L1
  have := key l.length 0 (b ++ enc l.length) (by omega) (by have := enc_length l.length; rw [List.length_append]; omega) fuel (by omega)
  exact this
end Go.Proofs.YtmegkokogomfnaaGreat
