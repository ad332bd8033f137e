/- What sums.Sum and its reference compute. No condition. -/
import Derived.Test.YtdhhcmdofnjhiaaCodec
namespace Go.Proofs.Ytdhhcmdofnjhiaa
open Go.RowKit

/-- The call gives back a number; it has made nothing. -/
def GivesInt (n : Int) (w : World) (e : Ending) (w' : World) : Prop := e = .returned (.int .i64 n) ∧ w = w'

set_option maxRecDepth 100000 in
set_option maxHeartbeats 400000 in
theorem sums_Fold (h : Int) (v : Value) (l : List Int) (w : World) (hv : Bytes w v l) :
    Calls Try.prog 43 #[.int .i64 h, v] w (GivesInt (foldB h l) w) := by
  have h0 := hv
  obtain ⟨a, c, rfl, h1, h2, -, -⟩ := hv
  unfold maxLen at h2
  have hl : l.length ≤ 9223372036854775807 := by omega
  clear h1 h2
  have HM := Lib.hid (mask62 h)
  go_enter Try.func43, Try.ntmps43
  go_wp2
  go_loop [5, 13] (fun u i => ∃ k : Nat, k ≤ l.length ∧ i = .int .i64 k ∧ u = .int .u64 (foldTo ((IntKind.u64.wrap h).tmod 4611686018427387904) l k)) (fun _ i => l.length - (intOf i).toNat)
  case atStart => exact ⟨0, Nat.zero_le _, rfl, by rw [HM.out]; rfl⟩
  case round =>
    obtain ⟨k, hk, rfl, rfl⟩ := hrel
    by_cases hlt : k < l.length
    · obtain ⟨b, o, rfl, hcell⟩ := h0.ielem hlt
      have HS := Lib.hid (foldTo_succ ((IntKind.u64.wrap h).tmod 4611686018427387904) l k hlt)
      have HF := Lib.hid (foldStep_mask (foldTo ((IntKind.u64.wrap h).tmod 4611686018427387904) l k) l[k])
      generalize foldTo ((IntKind.u64.wrap h).tmod 4611686018427387904) l k = u0 at *
      go_wp2
      go_round
      case rel => exact ⟨k + 1, by omega, by go_num, by rw [HS.out, ← HF.out]⟩
      case measure => simp [intOf]; omega
    · have hkn : k = l.length := by omega
      subst hkn
      have hf : foldB h l = Go.RowKit.wrap64 (foldTo ((IntKind.u64.wrap h).tmod 4611686018427387904) l l.length) := by unfold foldB foldTo; rw [List.take_length]
      have HF := Lib.hid hf; clear hf
      generalize foldTo ((IntKind.u64.wrap h).tmod 4611686018427387904) l l.length = u0 at *
      go_wp2
      go_ret
      exact ⟨by rw [HF.out]; rfl, rfl⟩

set_option maxRecDepth 100000 in
set_option maxHeartbeats 400000 in
theorem r04_Fold (h : Int) (v : Value) (l : List Int) (w : World) (hv : Bytes w v l) :
    Calls Try.prog 47 #[.int .i64 h, v] w (GivesInt (foldB h l) w) := by
  have h0 := hv
  obtain ⟨a, c, rfl, h1, h2, -, -⟩ := hv
  unfold maxLen at h2
  have hl : l.length ≤ 9223372036854775807 := by omega
  clear h1 h2
  go_enter Try.func47, Try.ntmps47
  go_wp2
  go_loop [5, 6] (fun u i => ∃ k : Nat, k ≤ l.length ∧ i = .int .i64 k ∧ u = .int .u64 (foldTo ((IntKind.u64.wrap h).tmod 4611686018427387904) l k)) (fun _ i => l.length - (intOf i).toNat)
  case atStart => exact ⟨0, Nat.zero_le _, rfl, rfl⟩
  case round =>
    obtain ⟨k, hk, rfl, rfl⟩ := hrel
    by_cases hlt : k < l.length
    · obtain ⟨b, o, rfl, hcell⟩ := h0.ielem hlt
      have HS := Lib.hid (foldTo_succ ((IntKind.u64.wrap h).tmod 4611686018427387904) l k hlt)
      generalize foldTo ((IntKind.u64.wrap h).tmod 4611686018427387904) l k = u0 at *
      go_wp2
      go_round
      case rel => exact ⟨k + 1, by omega, by go_num, by rw [HS.out]; rfl⟩
      case measure => simp [intOf]; omega
    · have hkn : k = l.length := by omega
      subst hkn
      have hf : foldB h l = Go.RowKit.wrap64 (foldTo ((IntKind.u64.wrap h).tmod 4611686018427387904) l l.length) := by unfold foldB foldTo; rw [List.take_length]
      have HF := Lib.hid hf; clear hf
      generalize foldTo ((IntKind.u64.wrap h).tmod 4611686018427387904) l l.length = u0 at *
      go_wp2
      go_ret
      exact ⟨by rw [HF.out]; rfl, rfl⟩

theorem sums_Start (w : World) : Calls Try.prog 44 #[] w (GivesInt 860922984064492325 w) := by
  go_enter Try.func44, Try.ntmps44
  go_wp2
  go_ret
  exact ⟨rfl, rfl⟩
theorem r04_Start (w : World) : Calls Try.prog 48 #[] w (GivesInt 860922984064492325 w) := by
  go_enter Try.func48, Try.ntmps48
  go_wp2
  go_ret
  exact ⟨rfl, rfl⟩

theorem sums_Sum (v : Value) (l : List Int) (w : World) (hv : Bytes w v l) :
    Calls Try.prog 26 #[v] w (GivesInt (sumB l) w) := by
  go_enter Try.func26, Try.ntmps26
  go_wp2_with (first
    | (go_at_call 44; refine (sums_Start _).mono ?_; rintro e w' ⟨rfl, rfl⟩)
    | (go_at_call 43; refine (sums_Fold _ v l w hv).mono ?_; rintro e w' ⟨rfl, rfl⟩))
  go_ret
  exact ⟨rfl, rfl⟩
theorem r04_Sum (v : Value) (l : List Int) (w : World) (hv : Bytes w v l) :
    Calls Try.prog 30 #[v] w (GivesInt (sumB l) w) := by
  go_enter Try.func30, Try.ntmps30
  go_wp2_with (first
    | (go_at_call 48; refine (r04_Start _).mono ?_; rintro e w' ⟨rfl, rfl⟩)
    | (go_at_call 47; refine (r04_Fold _ v l w hv).mono ?_; rintro e w' ⟨rfl, rfl⟩))
  go_ret
  exact ⟨rfl, rfl⟩
end Go.Proofs.Ytdhhcmdofnjhiaa
