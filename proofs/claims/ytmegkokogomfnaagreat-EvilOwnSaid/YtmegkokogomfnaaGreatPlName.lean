/- Names taken apart and put together: the program's functions and the reference's are one and the same, for texts smaller than the memory. -/
import Derived.Test.YtmegkokogomfnaaGreatPlIds
namespace Go.Proofs.YtmegkokogomfnaaGreat
open Go.RowKit

theorem R02_Local_eq {s : ByteArray} (hs : s.size ≤ 9223372036854) : R02_Local s = some (localL (sBytes s)) := by
  unfold R02_Local R02_Local_L1
  rw [scan (sBytes s) (by rw [sBytes_length]; exact lt_fuel hs) (fun c => !(isLetter c || isLocal c)) false (some (decide ((s.size : Int) ≥ 1) && decide ((s.size : Int) ≤ 32))) ?_ ?_]
  · unfold localL nameL
    rw [← all_of_any, sBytes_length]
    cases ((sBytes s).any fun c => !(isLetter c || isLocal c)) <;> cases decide ((s.size : Int) ≥ 1) <;> cases decide ((s.size : Int) ≤ 32) <;> rfl
  · intro k i h
    have h' : i < s.size := by rw [sBytes_length] at h; exact h
    simp only [R02_Local_B1, dec_lt h', cond_true, gByte_at h, R02_letter_eq, Option.bind_some, isLocal, bne]
    cases isLetter (sBytes s)[i] <;> cases (sBytes s)[i] == 95 <;> cases (sBytes s)[i] == 46 <;> cases (sBytes s)[i] == 45 <;> cases (sBytes s)[i] == 61 <;> rfl
  · intro k
    simp only [R02_Local_B1, sBytes_length, dec_nlt, cond_false]
    cases decide ((s.size : Int) ≥ 1) <;> cases decide ((s.size : Int) ≤ 32) <;> rfl

theorem sBytes_dlength (s : ByteArray) : (sBytes s).length = s.data.toList.length := by simp [sBytes]
/-- Where the first colon is, or the text's end. -/
def colP (s : ByteArray) : Nat := (sBytes s).findIdx (· == 58)
theorem colP_le (s : ByteArray) : colP s ≤ s.size := by unfold colP; rw [← sBytes_length]; exact List.findIdx_le_length
theorem R02_colon_eq {s : ByteArray} (hs : s.size ≤ 9223372036854) : R02_colon s = some (colP s : Int) := by
  unfold R02_colon R02_colon_L1
  rw [seek (sBytes s) (by rw [sBytes_length]; exact lt_fuel hs) (· == 58) (fun i => some (i : Int)) (some (s.size : Int)) ?_ ?_]
  · have := colP_le s
    by_cases h : (sBytes s).findIdx (· == 58) < (sBytes s).length
    · rw [if_pos h]; rfl
    · rw [if_neg h]
      congr 2
      unfold colP at this ⊢
      rw [sBytes_length] at h
      omega
  · intro k i h
    have h' : i < s.size := by rw [sBytes_length] at h; exact h
    simp only [R02_colon_B1, dec_lt h', cond_true, gByte_at h, Option.bind_some, bne]
    cases (sBytes s)[i] == 58 <;> rfl
  · intro k
    simp only [R02_colon_B1, sBytes_length, dec_nlt, cond_false, Option.bind_some]

def locB (s : ByteArray) : ByteArray := s.extract 1 (colP s)
def hostB (s : ByteArray) : ByteArray := s.extract (colP s + 1) s.size
/-- What behind the mark is asked of a name. -/
def restB (s : ByteArray) : Bool := decide (colP s < s.size) && localL (sBytes (locB s)) && serverL (sBytes (hostB s))
def markedB (s : ByteArray) (m : Int) : Bool := decide (0 < s.size) && (sBytes s).getD 0 0 == m && restB s

theorem extract_size (s : ByteArray) (a b : Nat) : (s.extract a b).size ≤ s.size := by rw [ByteArray.size_extract]; omega
theorem colP_pos {s : ByteArray} (h : 0 < s.size) (hm : (sBytes s).getD 0 0 ≠ 58) : 1 ≤ colP s := by
  unfold colP
  have hl : 0 < (sBytes s).length := by rw [sBytes_length]; exact h
  match he : sBytes s with
  | [] => rw [he] at hl; simp at hl
  | c :: l =>
    rw [he] at hm
    simp only [List.getD_cons_zero] at hm
    rw [List.findIdx_cons, show (c == 58) = false from by simpa using hm]
    simp
theorem R02_marked_eq {s : ByteArray} (hs : s.size ≤ 9223372036854) {m : Int} (hm : m ≠ 58) : R02_marked s m = some (markedB s m) := by
  unfold R02_marked markedB
  by_cases h0 : 0 < s.size
  · rw [show decide ((s.size : Int) < 1) = false from by simp; omega, show decide (0 < s.size) = true by simpa using h0]
    simp only [cond_false, getD_zero h0, Option.bind_some, bne]
    cases hh : (sBytes s).getD 0 0 == m with
    | false => rfl
    | true =>
      have hh' : (sBytes s).getD 0 0 = m := by simpa using hh
      have h1 := colP_pos h0 (by rw [hh']; exact hm)
      have h2 := colP_le s
      simp only [Bool.not_true, cond_false, R02_colon_eq hs, Option.bind_some, Bool.true_and]
      unfold restB
      by_cases h3 : colP s < s.size
      · have e1 : gStr s 1 (colP s : Int) = some (locB s) := gStr_at (lo := 1) h1 h2
        have e2 : gStr s (IntKind.i64.wrap ((colP s : Int) + 1)) (s.size : Int) = some (hostB s) := by
          rw [wrap_id (by omega) (by omega), show (colP s : Int) + 1 = ((colP s + 1 : Nat) : Int) by omega]
          exact gStr_at (by omega) (Nat.le_refl _)
        rw [show decide ((colP s : Int) < (s.size : Int)) = true from by simpa using h3, show decide (colP s < s.size) = true by simpa using h3]
        have g1 : (locB s).size ≤ 9223372036854 := Nat.le_trans (extract_size _ _ _) hs
        have g2 : (hostB s).size ≤ 9223372036854 := Nat.le_trans (extract_size _ _ _) hs
        simp only [cond_true, e1, e2, R02_Local_eq g1, R02_Server_eq g2, Option.bind_some]
        cases localL (sBytes (locB s)) <;> cases serverL (sBytes (hostB s)) <;> rfl
      · rw [show decide ((colP s : Int) < (s.size : Int)) = false from by simpa using h3, show decide (colP s < s.size) = false by simpa using h3]
        rfl
  · rw [show decide ((s.size : Int) < 1) = true from by simp; omega, show decide (0 < s.size) = false by simpa using h0]
    rfl

def splitB (s : ByteArray) (b : Bool) : ByteArray × ByteArray × Bool := bif b then (locB s, hostB s, true) else (s0, s0, false)

theorem byte_eq (b c : UInt8) : (b == c) = (((b.toNat : Nat) : Int) == ((c.toNat : Nat) : Int)) := by
  by_cases h : b = c
  · subst h; simp
  · have : ¬ b.toNat = c.toNat := fun e => h (UInt8.toNat_inj.1 e)
    have h1 : (b == c) = false := by simpa using h
    rw [h1]; symm; simp; omega
theorem findIdx_bytes (s : ByteArray) (c : UInt8) : s.data.toList.findIdx (· == c) = (sBytes s).findIdx (· == ((c.toNat : Nat) : Int)) := by
  unfold sBytes
  rw [List.findIdx_map]
  congr 1
  funext b
  exact byte_eq b c
theorem sBytes_ge (s : ByteArray) : ∀ x ∈ sBytes s, 0 ≤ x ∧ x < 256 := by
  intro x hx
  unfold sBytes at hx
  rw [List.mem_map] at hx
  obtain ⟨c, _, rfl⟩ := hx
  have := c.toNat_lt
  omega
theorem getD_mem {s : ByteArray} (h : 0 < s.size) : (sBytes s).getD 0 0 ∈ sBytes s := by
  have hl : 0 < (sBytes s).length := by rw [sBytes_length]; exact h
  have e : (sBytes s).getD 0 0 = (sBytes s)[0] := by simp [List.getD, hl]
  rw [e]; exact List.getElem_mem hl
theorem index_neg (marks : ByteArray) {c : Int} (h0 : 0 ≤ c) (h1 : c < 256) : decide (Lib.indexByte marks.data.toList c.toNat.toUInt8 < 0) = !(sBytes marks).contains c := by
  have e : (((c.toNat.toUInt8).toNat : Nat) : Int) = c := by
    rw [Nat.toUInt8, UInt8.toNat_ofNat']; omega
  rw [indexByte_find, findIdx_bytes, e, ← sBytes_dlength marks]
  by_cases hm : c ∈ sBytes marks
  · have hlt : (sBytes marks).findIdx (· == c) < (sBytes marks).length := List.findIdx_lt_length_of_exists ⟨c, hm, by simp⟩
    rw [if_pos hlt, show (sBytes marks).contains c = true by simpa using hm]
    simp
  · have hnl : ¬ (sBytes marks).findIdx (· == c) < (sBytes marks).length := fun h => by
      have := List.findIdx_getElem (w := h)
      simp only [beq_iff_eq] at this
      exact hm (this ▸ List.getElem_mem h)
    rw [if_neg hnl, show (sBytes marks).contains c = false by simpa using hm]
    rfl
theorem extract_extract1 (s : ByteArray) (a b : Nat) : (s.extract 1 s.size).extract a b = s.extract (1 + a) (min (1 + b) s.size) := by
  refine bytes_inj ?_
  simp only [sBytes_extract]
  have : (sBytes s).take s.size = sBytes s := List.take_of_length_le (by rw [sBytes_length]; omega)
  rw [this, List.take_drop, List.drop_drop]
  congr 1
  have : min (1 + b) s.size = min (1 + b) (sBytes s).length := by rw [sBytes_length]
  rw [this, List.take_eq_take_min]
theorem findIdx_drop1 {s : ByteArray} (h : 0 < s.size) (hm : (sBytes s).getD 0 0 ≠ 58) : (sBytes (s.extract 1 s.size)).findIdx (· == 58) + 1 = colP s := by
  unfold colP
  rw [sBytes_extract]
  have : (sBytes s).take s.size = sBytes s := List.take_of_length_le (by rw [sBytes_length]; omega)
  rw [this]
  have hl : 0 < (sBytes s).length := by rw [sBytes_length]; exact h
  match he : sBytes s with
  | [] => rw [he] at hl; simp at hl
  | c :: l =>
    rw [he] at hm
    simp only [List.getD_cons_zero] at hm
    rw [List.findIdx_cons, show (c == 58) = false from by simpa using hm]
    rfl
theorem Cut_eq {s : ByteArray} (hs : s.size ≤ 9223372036854) (h : 0 < s.size) (hm : (sBytes s).getD 0 0 ≠ 58) : ∃ a b, strings_Cut (s.extract 1 s.size) s__3a = some (a, b, decide (colP s < s.size)) ∧ (colP s < s.size → a = locB s ∧ b = hostB s) := by
  have h1 := colP_pos h hm
  have h2 := colP_le s
  have hj := findIdx_drop1 h hm
  have hsz : (s.extract 1 s.size).size = s.size - 1 := by rw [ByteArray.size_extract]; omega
  have hI : internal_stringslite_Index (s.extract 1 s.size) s__3a = some (if colP s < s.size then ((colP s - 1 : Nat) : Int) else -1) := by
    show some (Lib.indexByte (s.extract 1 s.size).data.toList 58) = _
    rw [indexByte_find, findIdx_bytes, ← sBytes_dlength (s.extract 1 s.size)]
    show some (if (sBytes (s.extract 1 s.size)).findIdx (· == 58) < _ then (((sBytes (s.extract 1 s.size)).findIdx (· == 58) : Nat) : Int) else -1) = _
    rw [sBytes_length, hsz]
    have e : (sBytes (s.extract 1 s.size)).findIdx (· == 58) = colP s - 1 := by omega
    rw [e]
    congr 1
    by_cases h3 : colP s < s.size
    · rw [if_pos h3, if_pos (by omega)]
    · rw [if_neg h3, if_neg (by omega)]
  unfold strings_Cut internal_stringslite_Cut
  rw [hI, Option.bind_some]
  by_cases h3 : colP s < s.size
  · rw [if_pos h3, show decide (((colP s - 1 : Nat) : Int) ≥ 0) = true from by simp, show decide (colP s < s.size) = true by simpa using h3]
    have e1 : gStr (s.extract 1 s.size) 0 ((colP s - 1 : Nat) : Int) = some ((s.extract 1 s.size).extract 0 (colP s - 1)) := gStr_at (lo := 0) (by omega) (by omega)
    have e2 : gStr (s.extract 1 s.size) (IntKind.i64.wrap (((colP s - 1 : Nat) : Int) + (s__3a.size : Int))) ((s.extract 1 s.size).size : Int) = some ((s.extract 1 s.size).extract (colP s) (s.size - 1)) := by
      rw [show (s__3a.size : Int) = 1 from rfl, wrap_id (by omega) (by omega), show ((colP s - 1 : Nat) : Int) + 1 = ((colP s : Nat) : Int) by omega, hsz]
      exact gStr_at (by omega) (by omega)
    simp only [cond_true, e1, e2, Option.bind_some]
    refine ⟨_, _, rfl, fun _ => ⟨?_, ?_⟩⟩
    · rw [extract_extract1]; unfold locB; congr 1; omega
    · rw [extract_extract1]; unfold hostB; rw [Nat.add_comm 1 (colP s)]; congr 1; omega
  · rw [if_neg h3, show decide ((-1 : Int) ≥ 0) = false from rfl, show decide (colP s < s.size) = false by simpa using h3]
    exact ⟨_, _, rfl, fun h => absurd h h3⟩

theorem split_eq {s : ByteArray} (hs : s.size ≤ 9223372036854) {marks : ByteArray} (hmk : ∀ m ∈ sBytes marks, m ≠ 58) : ids_split s marks = some (splitB s ((sBytes marks).any fun m => markedB s m)) := by
  unfold ids_split
  by_cases h0 : 0 < s.size
  · have hne : (s.toList == s0.toList) = false := by
      rw [eqS_iff]
      simp only [decide_eq_false_iff_not]
      intro e; rw [e] at h0; exact absurd h0 (by decide)
    have hc := sBytes_ge s _ (getD_mem h0)
    have hany : ((sBytes marks).any fun m => markedB s m) = ((sBytes marks).contains ((sBytes s).getD 0 0) && restB s) := by
      unfold markedB
      rw [show decide (0 < s.size) = true by simpa using h0]
      induction sBytes marks with
      | nil => rfl
      | cons m l ih => rw [List.any_cons, ih, List.contains_cons]; cases (sBytes s).getD 0 0 == m <;> cases restB s <;> simp
    rw [hne, hany]
    simp only [cond_false, getD_zero h0, Option.bind_some, strings_IndexByte, index_neg marks hc.1 hc.2]
    cases hk : (sBytes marks).contains ((sBytes s).getD 0 0) with
    | false => rfl
    | true =>
      have hm : (sBytes s).getD 0 0 ≠ 58 := hmk _ (by simpa using hk)
      obtain ⟨a, b, e1, e2⟩ := Cut_eq hs h0 hm
      have eg : gStr s 1 (s.size : Int) = some (s.extract 1 s.size) := gStr_at (lo := 1) (by omega) (Nat.le_refl _)
      simp only [Bool.not_true, cond_false, eg, e1, Option.bind_some, Bool.true_and]
      unfold restB
      cases h3 : decide (colP s < s.size) with
      | false => rfl
      | true =>
        obtain ⟨rfl, rfl⟩ := e2 (of_decide_eq_true h3)
        have g1 : (locB s).size ≤ 9223372036854 := Nat.le_trans (extract_size _ _ _) hs
        have g2 : (hostB s).size ≤ 9223372036854 := Nat.le_trans (extract_size _ _ _) hs
        simp only [Bool.not_true, cond_false, ids_local_eq g1, ids_server_eq g2, Option.bind_some]
        cases localL (sBytes (locB s)) <;> cases serverL (sBytes (hostB s)) <;> rfl
  · have hz : s.size = 0 := by omega
    have he : s = s0 := bytes_inj (by
      have h1 : sBytes s = [] := List.eq_nil_of_length_eq_zero (by rw [sBytes_length]; exact hz)
      rw [h1]; rfl)
    have hany : ((sBytes marks).any fun m => markedB s m) = false := by
      rw [List.any_eq_false]
      intro m _
      unfold markedB
      rw [show decide (0 < s.size) = false by simpa using h0]
      simp
    rw [hany, he, show (s0.toList == s0.toList) = true from by simp]
    rfl
end Go.Proofs.YtmegkokogomfnaaGreat
