/- Plain laws on texts and loops over texts. No program. No condition. -/
import Derived.Test.YtmegkokogomfnaaGreatPlL
import Derived.Lib.Bytealg
namespace Go.Proofs.YtmegkokogomfnaaGreat
open Go.RowKit
variable {α : Type}

theorem bif_some {R : Type} (c : Bool) (x y : R) : (bif c then some x else some y) = some (bif c then x else y) := by cases c <;> rfl
theorem bif_bind {A R : Type} (c : Bool) (x y : Option A) (f : A → Option R) : (bif c then x else y).bind f = bif c then x.bind f else y.bind f := by cases c <;> rfl
theorem bif_or (a b : Bool) : (bif a then true else b) = (a || b) := by cases a <;> rfl
theorem bif_and (a b : Bool) : (bif a then b else false) = (a && b) := by cases a <;> rfl


theorem gByte_at {s : ByteArray} {i : Nat} (h : i < (sBytes s).length) : gByte s (i : Int) = some (sBytes s)[i] := by
  unfold gByte
  rw [if_pos (Int.natCast_nonneg i)]
  have h' : i < s.size := by rw [sBytes_length] at h; exact h
  have e : s[i]? = some s[i] := by simp [h']
  simp only [Int.toNat_natCast, e, Option.map_some, sBytes, List.getElem_map]
  rfl
theorem gByte_zero {s : ByteArray} (h : 0 < (sBytes s).length) : gByte s 0 = some (sBytes s)[0] := gByte_at (i := 0) h

/-- A loop over a list by its places, that ends at the first element with p. -/
theorem scan {R α : Type} {body : (Int → Option R) → Int → Option R} (l : List α) (hl : l.length < fuel) (p : α → Bool) (bad : R) (rest : Option R)
    (hb : ∀ k (i : Nat) (h : i < l.length), body k (i : Int) = bif p l[i] then some bad else k (IntKind.i64.wrap ((i : Int) + 1))) (he : ∀ k, body k (l.length : Int) = rest) :
    loop1 body fuel 0 = bif l.any p then some bad else rest := by
  have hf : fuel = 4611686018427387904 := rfl
  have key : ∀ n (i : Nat), i + n = l.length → ∀ m, n < m → loop1 body m (i : Int) = bif (l.drop i).any p then some bad else rest := by
    intro n
    induction n with
    | zero =>
      intro i hi m hm
      obtain ⟨m, rfl⟩ : ∃ m', m = m' + 1 := ⟨m - 1, by omega⟩
      have : i = l.length := by omega
      subst this
      show body (loop1 body m) _ = _
      rw [he, List.drop_length]; rfl
    | succ n ih =>
      intro i hi m hm
      obtain ⟨m, rfl⟩ : ∃ m', m = m' + 1 := ⟨m - 1, by omega⟩
      have hlt : i < l.length := by omega
      show body (loop1 body m) _ = _
      rw [hb _ i hlt, wrap_succ i (by omega), ih (i + 1) (by omega) m (by omega), List.drop_eq_getElem_cons hlt, List.any_cons]
      cases p l[i] <;> rfl
  have := key l.length 0 (by omega) fuel hl
  simpa using this

theorem str_step {R : Type} {s : ByteArray} {i : Nat} (h : i < (sBytes s).length) (f : Int → Option R) (z : Option R) : (bif decide ((i : Int) < (s.size : Int)) then (gByte s (i : Int)).bind f else z) = f (sBytes s)[i] := by
  rw [show decide ((i : Int) < (s.size : Int)) = true by rw [sBytes_length] at h; simpa using h, gByte_at h]; rfl
theorem str_end {R : Type} {s : ByteArray} (y z : Option R) : (bif decide (((sBytes s).length : Int) < (s.size : Int)) then y else z) = z := by
  rw [show decide (((sBytes s).length : Int) < (s.size : Int)) = false by rw [sBytes_length]; simp]; rfl
theorem str_end' {R : Type} {s : ByteArray} (y z : Option R) : (bif decide ((s.size : Int) < (s.size : Int)) then y else z) = z := by
  rw [show decide ((s.size : Int) < (s.size : Int)) = false by simp]; rfl

/-- Two texts are equal if their bytes are. -/
theorem bytes_inj {s t : ByteArray} (h : sBytes s = sBytes t) : s = t := by
  have hd : s.data.toList = t.data.toList := by
    unfold sBytes at h
    refine List.map_inj_right (f := fun c : UInt8 => (c.toNat : Int)) (fun a b hab => ?_) |>.1 h
    exact UInt8.toNat_inj.1 (by omega)
  obtain ⟨⟨a⟩⟩ := s; obtain ⟨⟨b⟩⟩ := t; simp only at hd; rw [hd]
theorem toList_inj {s t : ByteArray} (h : s.toList = t.toList) : s = t := by
  rw [ByteArray.toList_eq, ByteArray.toList_eq] at h
  obtain ⟨⟨a⟩⟩ := s; obtain ⟨⟨b⟩⟩ := t; simp only at h; rw [h]
theorem eqS_iff {s t : ByteArray} : (s.toList == t.toList) = decide (s = t) := by
  by_cases h : s = t
  · subst h; simp
  · have : s.toList ≠ t.toList := fun e => h (toList_inj e)
    simp [h, this]
/-- A loop over a list by its places, that ends at the first element with q. -/
theorem seek {R α : Type} {body : (Int → Option R) → Int → Option R} (l : List α) (hl : l.length < fuel) (q : α → Bool) (g : Nat → Option R) (rest : Option R)
    (hb : ∀ k (i : Nat) (h : i < l.length), body k (i : Int) = bif q l[i] then g i else k (IntKind.i64.wrap ((i : Int) + 1))) (he : ∀ k, body k (l.length : Int) = rest) :
    loop1 body fuel 0 = if l.findIdx q < l.length then g (l.findIdx q) else rest := by
  have hf : fuel = 4611686018427387904 := rfl
  have key : ∀ n (i : Nat), i + n = l.length → ∀ m, n < m → loop1 body m (i : Int) = if (l.drop i).findIdx q + i < l.length then g ((l.drop i).findIdx q + i) else rest := by
    intro n
    induction n with
    | zero =>
      intro i hi m hm
      obtain ⟨m, rfl⟩ : ∃ m', m = m' + 1 := ⟨m - 1, by omega⟩
      have : i = l.length := by omega
      subst this
      show body (loop1 body m) _ = _
      rw [he, List.drop_length, if_neg (by omega)]
    | succ n ih =>
      intro i hi m hm
      obtain ⟨m, rfl⟩ : ∃ m', m = m' + 1 := ⟨m - 1, by omega⟩
      have hlt : i < l.length := by omega
      show body (loop1 body m) _ = _
      rw [hb _ i hlt, wrap_succ i (by omega), ih (i + 1) (by omega) m (by omega), List.drop_eq_getElem_cons hlt, List.findIdx_cons]
      cases q l[i] with
      | true => simp [hlt]
      | false => simp only [cond_false]; rw [show (l.drop (i + 1)).findIdx q + (i + 1) = (l.drop (i + 1)).findIdx q + 1 + i by omega]
  have := key l.length 0 (by omega) fuel hl
  simpa using this

theorem gStr_at {s : ByteArray} {lo hi : Nat} (h1 : lo ≤ hi) (h2 : hi ≤ s.size) : gStr s (lo : Int) (hi : Int) = some (s.extract lo hi) := by
  unfold gStr; rw [if_pos ⟨by omega, by omega, by omega⟩]; simp
theorem sBytes_extract (s : ByteArray) (a b : Nat) : sBytes (s.extract a b) = ((sBytes s).take b).drop a := by
  simp [sBytes, ByteArray.data_extract, List.map_drop, List.map_take, List.extract_eq_drop_take']
theorem all_of_any (l : List α) (q : α → Bool) : (bif l.any (fun c => !q c) then false else true) = l.all q := by
  have : l.any (fun c => !q c) = !l.all q := by simp [List.not_all_eq_any_not]
  rw [this]; cases l.all q <;> rfl
theorem indexByte_find : ∀ (l : List UInt8) (c : UInt8), Lib.indexByte l c = if l.findIdx (· == c) < l.length then ((l.findIdx (· == c) : Nat) : Int) else -1
  | [], c => rfl
  | b :: l, c => by
    unfold Lib.indexByte
    rw [List.findIdx_cons]
    cases h : b == c with
    | true => simp
    | false =>
      rw [indexByte_find l c]
      simp only [Bool.false_eq_true, if_false, cond_false, List.length_cons]
      by_cases hl : l.findIdx (· == c) < l.length
      · simp only [hl, if_true, show l.findIdx (· == c) + 1 < l.length + 1 by omega]
        have : (((l.findIdx (· == c) : Nat) : Int) == -1) = false := by simp
        simp [this]
      · simp [hl, show ¬ l.findIdx (· == c) + 1 < l.length + 1 by omega]
end Go.Proofs.YtmegkokogomfnaaGreat
