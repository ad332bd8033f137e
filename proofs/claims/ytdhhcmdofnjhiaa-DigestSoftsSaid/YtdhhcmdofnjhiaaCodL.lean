/- Plain laws: the bytes of a number, and the sum of bytes. No program. No condition. -/
import Derived.Test.YtdhhcmdofnjhiaaBase
namespace Go.Proofs.Ytdhhcmdofnjhiaa

/-- What both programs begin with. -/
def zig (n : Int) : Int := if n < 0 then bits .xor .u64 IntKind.u64.max (IntKind.u64.wrap (IntKind.u64.wrap n * 2)) else IntKind.u64.wrap (IntKind.u64.wrap n * 2)

theorem zig_bd (n : Int) : 0 ≤ zig n ∧ zig n < 18446744073709551616 := by
  unfold zig
  have h2 : ∀ x : Int, 0 ≤ IntKind.u64.wrap x ∧ IntKind.u64.wrap x < 18446744073709551616 := fun x => by rw [IntKind.wrap_u64]; omega
  split
  · obtain ⟨g1, g2⟩ := h2 (IntKind.u64.wrap n * 2)
    generalize IntKind.u64.wrap (IntKind.u64.wrap n * 2) = y at *
    obtain ⟨k, rfl⟩ := Int.eq_ofNat_of_zero_le g1
    have : (IntKind.u64.max : Int) = ((18446744073709551615 : Nat) : Int) := by decide
    rw [this, bits_xor_u64_nat _ _ (by omega) (by omega)]
    have : 18446744073709551615 ^^^ k < 2 ^ 64 := Nat.xor_lt_two_pow (by omega) (by omega)
    constructor
    · exact Int.natCast_nonneg _
    · have h64 : (2 : Nat) ^ 64 = 18446744073709551616 := by decide
      omega
  · exact h2 _

/-- The groups of seven bits, the lowest first. -/
def encN (u : Nat) : List Int := if u < 128 then [(u : Int)] else ((u % 128 + 128 : Nat) : Int) :: encN (u / 128)
termination_by u
decreasing_by omega

theorem encN_small {u : Nat} (h : u < 128) : encN u = [(u : Int)] := by rw [encN, if_pos h]
theorem encN_great {u : Nat} (h : ¬ u < 128) : encN u = ((u % 128 + 128 : Nat) : Int) :: encN (u / 128) := by rw [encN, if_neg h]

theorem encN_length : ∀ (j u : Nat), u < 128 ^ (j + 1) → (encN u).length ≤ j + 1
  | 0, u, h => by rw [encN_small (by simpa using h)]; simp
  | j + 1, u, h => by
    by_cases hu : u < 128
    · rw [encN_small hu]; simp
    · rw [encN_great hu]
      have : u / 128 < 128 ^ (j + 1) := by
        rw [Nat.div_lt_iff_lt_mul (by omega)]
        rw [Nat.pow_succ] at h; exact h
      have := encN_length j (u / 128) this
      simp; omega

/-- The bytes of a number. -/
def enc (n : Int) : List Int := encN (zig n).toNat
theorem enc_length (n : Int) : (enc n).length ≤ 10 := by
  have h := (zig_bd n).2
  refine encN_length 9 _ ?_
  have : (128 : Nat) ^ 10 = 1180591620717411303424 := by decide
  rw [this]
  have := (zig_bd n).1
  omega

def encText (s : ByteArray) : List Int := enc s.size ++ sb s

theorem or128 (k : Nat) : bits .or .u8 ((k : Int) % 256) 128 = ((k % 128 + 128 : Nat) : Int) := by
  have h := u8_or_nat (k % 256) 128 (by omega) (by omega)
  rw [show ((k : Int) % 256) = ((k % 256 : Nat) : Int) from by omega]
  have e128 : (128 : Int) = ((128 : Nat) : Int) := rfl
  rw [e128, h]
  congr 1
  have key : ∀ x, x < 256 → x ||| 128 = x % 128 + 128 := by decide +kernel
  rw [key _ (by omega)]
  omega

/-! ### The sum -/
def prime : Int := 1099511628211
def foldStep (u c : Int) : Int := (IntKind.u64.wrap (bits .xor .u64 u (IntKind.u64.wrap c) * 1099511628211)).tmod 4611686018427387904
def foldTo (u : Int) (l : List Int) (k : Nat) : Int := (l.take k).foldl foldStep u
def foldB (h : Int) (l : List Int) : Int := Go.RowKit.wrap64 (l.foldl foldStep ((IntKind.u64.wrap h).tmod 4611686018427387904))
def sumB (l : List Int) : Int := foldB 860922984064492325 l

theorem foldTo_succ (u : Int) (l : List Int) (k : Nat) (hk : k < l.length) : foldTo u l (k + 1) = foldStep (foldTo u l k) l[k] := by
  unfold foldTo; rw [List.take_succ_eq_append_getElem hk, List.foldl_append]; rfl

theorem mask62 (x : Int) : bits .and .u64 (IntKind.u64.wrap x) 4611686018427387903 = (IntKind.u64.wrap x).tmod 4611686018427387904 := by
  rw [IntKind.wrap_u64]
  have h := bits_mask .u64 64 (by decide) (fun n h0 h1 => by rw [IntKind.wrap_u64]; omega) 62 (by decide) (x % 18446744073709551616) (by omega) (by omega)
  have e : ((2 : Int) ^ 62 - 1) = 4611686018427387903 := by decide
  have e2 : ((2 : Int) ^ 62) = 4611686018427387904 := by decide
  rw [Int.tmod_eq_emod_of_nonneg (by omega)]
  simpa [e, e2] using h
theorem foldStep_mask (u c : Int) : bits .and .u64 (IntKind.u64.wrap (bits .xor .u64 u (IntKind.u64.wrap c) * 1099511628211)) 4611686018427387903 = foldStep u c := mask62 _
theorem foldStep_bd (u c : Int) : 0 ≤ foldStep u c ∧ foldStep u c < 4611686018427387904 := by
  unfold foldStep
  rw [IntKind.wrap_u64, Int.tmod_eq_emod_of_nonneg (by omega)]; omega
end Go.Proofs.Ytdhhcmdofnjhiaa
