/- Names of users, rooms and servers: the program's functions and the reference's are one and the same. No condition but that texts are smaller than the memory. -/
import Derived.Test.YtmegkokogomfnaaGreatPlStr
import Derived.Test.YtmegkokogomfnaaGreatGx
namespace Go.Proofs.YtmegkokogomfnaaGreat
open Go.RowKit

def isLetter (c : Int) : Bool := (decide (c ≥ 97) && decide (c ≤ 122)) || (decide (c ≥ 48) && decide (c ≤ 57))
theorem ids_letter_eq (c : Int) : ids_letter c = some (isLetter c) := by
  unfold ids_letter isLetter
  cases decide (c ≥ 97) <;> cases decide (c ≤ 122) <;> cases decide (c ≥ 48) <;> cases decide (c ≤ 57) <;> rfl
theorem R02_letter_eq (c : Int) : R02_letter c = some (isLetter c) := by
  unfold R02_letter isLetter
  cases decide (c ≥ 97) <;> cases decide (c ≤ 122) <;> cases decide (c ≥ 48) <;> cases decide (c ≤ 57) <;> rfl

/-- The length of a name, and its signs. -/
def nameL (l : List Int) (p : Int → Bool) : Bool := decide ((l.length : Int) ≥ 1) && decide ((l.length : Int) ≤ 32) && l.all fun c => isLetter c || p c
def isLocal (c : Int) : Bool := c == 95 || c == 46 || c == 45 || c == 61
def isServer (c : Int) : Bool := c == 46 || c == 45
def localL (l : List Int) : Bool := nameL l isLocal
def serverL (l : List Int) : Bool := nameL l isServer && isLetter (l.getD 0 0) && isLetter (l.getD (l.length - 1) 0)

theorem lt_fuel {n : Nat} (h : n ≤ 9223372036854) : n < fuel := by have : fuel = 4611686018427387904 := rfl; omega
theorem dec_lt {i n : Nat} (h : i < n) : decide ((i : Int) < (n : Int)) = true := by simpa using h
theorem dec_nlt (n : Nat) : decide ((n : Int) < (n : Int)) = false := by simp

theorem ids_valid_eq {s : ByteArray} (hs : s.size ≤ 9223372036854) (f : Int → Option Bool) (p : Int → Bool) (hf : ∀ c, f c = some (p c)) : ids_valid s f = some (nameL (sBytes s) p) := by
  have hl : ids_valid_L1 s f 0 = some ((sBytes s).all fun c => isLetter c || p c) := by
    unfold ids_valid_L1
    rw [scan (sBytes s) (by rw [sBytes_length]; exact lt_fuel hs) (fun c => !(isLetter c || p c)) false (some true) ?_ ?_, bif_some, all_of_any]
    · intro k i h
      have h' : i < s.size := by rw [sBytes_length] at h; exact h
      simp only [ids_valid_B1, dec_lt h', cond_true, gByte_at h, ids_letter_eq, hf, Option.bind_some]
      cases isLetter (sBytes s)[i] <;> cases p (sBytes s)[i] <;> rfl
    · intro k
      simp only [ids_valid_B1, sBytes_length, dec_nlt, cond_false]
  unfold ids_valid nameL
  rw [hl, sBytes_length]
  have e1 : decide ((s.size : Int) ≥ 1) = !decide ((s.size : Int) < 1) := by by_cases h : (s.size : Int) < 1 <;> simp [h] <;> omega
  have e2 : decide ((s.size : Int) ≤ 32) = !decide ((s.size : Int) > 32) := by by_cases h : (s.size : Int) > 32 <;> simp [h] <;> omega
  rw [e1, e2]
  cases decide ((s.size : Int) < 1) <;> cases decide ((s.size : Int) > 32) <;> rfl
theorem ids_local_eq {s : ByteArray} (hs : s.size ≤ 9223372036854) : ids_local s = some (localL (sBytes s)) := by
  unfold ids_local localL
  rw [ids_valid_eq hs _ isLocal (fun c => by unfold ids_local_1 isLocal; cases c == 95 <;> cases c == 46 <;> cases c == 45 <;> cases c == 61 <;> rfl)]
  rfl
theorem getD_zero {s : ByteArray} (h : 0 < s.size) : gByte s 0 = some ((sBytes s).getD 0 0) := by
  have h' : 0 < (sBytes s).length := by rw [sBytes_length]; exact h
  rw [gByte_zero h']; simp [List.getD, h']
theorem getD_last {s : ByteArray} (h : 0 < s.size) (hs : s.size ≤ 9223372036854) : gByte s (IntKind.i64.wrap ((s.size : Int) - 1)) = some ((sBytes s).getD ((sBytes s).length - 1) 0) := by
  have h' : s.size - 1 < (sBytes s).length := by rw [sBytes_length]; omega
  rw [wrap_id (by omega) (by omega), show (s.size : Int) - 1 = ((s.size - 1 : Nat) : Int) by omega, gByte_at h']
  have h2 : (sBytes s).length - 1 = s.size - 1 := by rw [sBytes_length]
  rw [h2]; simp [List.getD, h']
theorem nameL_pos {l : List Int} {p : Int → Bool} (h : nameL l p = true) : 0 < l.length ∧ l.length ≤ 32 := by
  unfold nameL at h
  simp only [Bool.and_eq_true, decide_eq_true_eq] at h
  omega
theorem ids_server_eq {s : ByteArray} (hs : s.size ≤ 9223372036854) : ids_server s = some (serverL (sBytes s)) := by
  unfold ids_server serverL
  rw [ids_valid_eq hs _ isServer (fun c => by unfold ids_server_1 isServer; cases c == 46 <;> cases c == 45 <;> rfl)]
  simp only [Option.bind_some]
  cases hn : nameL (sBytes s) isServer with
  | false => rfl
  | true =>
    have hp : 0 < s.size := by have := (nameL_pos hn).1; rwa [sBytes_length] at this
    simp only [cond_true, getD_zero hp, getD_last hp hs, ids_letter_eq, Option.bind_some]
    cases isLetter ((sBytes s).getD 0 0) <;> simp
theorem ids_Server_eq {s : ByteArray} (hs : s.size ≤ 9223372036854) : ids_Server s = some (bif serverL (sBytes s) then 0 else 3) := by
  unfold ids_Server
  rw [ids_server_eq hs]
  cases serverL (sBytes s) <;> rfl

theorem R02_Server_eq {s : ByteArray} (hs : s.size ≤ 9223372036854) : R02_Server s = some (bif serverL (sBytes s) then 0 else 3) := by
  have hl : R02_Server_L1 s 0 = some (bif (sBytes s).all fun c => isLetter c || isServer c then 0 else 3) := by
    unfold R02_Server_L1
    rw [scan (sBytes s) (by rw [sBytes_length]; exact lt_fuel hs) (fun c => !(isLetter c || isServer c)) 3 (some 0) ?_ ?_, bif_some, ← all_of_any]
    · cases ((sBytes s).any fun c => !(isLetter c || isServer c)) <;> rfl
    · intro k i h
      have h' : i < s.size := by rw [sBytes_length] at h; exact h
      simp only [R02_Server_B1, dec_lt h', cond_true, gByte_at h, R02_letter_eq, Option.bind_some, isServer, bne]
      cases isLetter (sBytes s)[i] <;> cases (sBytes s)[i] == 46 <;> cases (sBytes s)[i] == 45 <;> rfl
    · intro k
      simp only [R02_Server_B1, sBytes_length, dec_nlt, cond_false]
  have e1 : decide ((s.size : Int) ≥ 1) = !decide ((s.size : Int) < 1) := by by_cases h : (s.size : Int) < 1 <;> simp [h] <;> omega
  have e2 : decide ((s.size : Int) ≤ 32) = !decide ((s.size : Int) > 32) := by by_cases h : (s.size : Int) > 32 <;> simp [h] <;> omega
  unfold R02_Server serverL nameL
  rw [hl]
  rw [show ((sBytes s).length : Int) = (s.size : Int) by rw [sBytes_length], e1, e2]
  by_cases h1 : (s.size : Int) < 1
  · simp [h1]
  · have hp : 0 < s.size := by omega
    simp only [getD_zero hp, getD_last hp hs, R02_letter_eq, Option.bind_some]
    cases decide ((s.size : Int) < 1) <;> cases decide ((s.size : Int) > 32) <;> cases isLetter ((sBytes s).getD 0 0) <;> cases isLetter ((sBytes s).getD ((sBytes s).length - 1) 0) <;> cases ((sBytes s).all fun c => isLetter c || isServer c) <;> rfl

/-- Right is right: which deeds are possible. -/
theorem Right_eq (s : ApiServer) (d : ApiDeed) (h : d.To.size ≤ 9223372036854) : ∃ n, evil_Right s d = some n ∧ R33_Right s d = some n := by
  unfold evil_Right R33_Right
  rw [ids_Server_eq h, R02_Server_eq h]
  cases decide (d.Kind < 1) <;> cases decide (d.Kind > 6) <;> cases serverL (sBytes d.To) <;> cases (d.To.toList == s.Name.toList) <;> exact ⟨_, rfl, rfl⟩
end Go.Proofs.YtmegkokogomfnaaGreat
