/- What the functions of codec, sums and their references compute. Condition of each: the lists and texts have at most 2^40 elements. -/
import Derived.Test.YtdhhcmdofnjhiaaNum
import Derived.Test.YtdhhcmdofnjhiaaCodL
namespace Go.Proofs.Ytdhhcmdofnjhiaa
open Go.RowKit

theorem Try.infoByte : (Try.prog.info? 5).map (fun i => (i.zero, i.size, i.bytes)) = some (some (.int .u8 0), 1, 1) := by kernel_rfl
theorem Try.appBytes : AppInfo Try.prog 52 5 1 1 := appInfo_mk _ Try.underlying52 Try.infoByte rfl (by decide)
theorem Try.mkBytes : MakeInfo Try.prog 52 5 (.int .u8 0) 1 := makeInfo_mk _ Try.underlying52 Try.infoByte rfl
theorem Try.sz1Byte : (Try.prog.info? 5).map (·.size) = some 1 := by kernel_rfl

def OwnBytes (base : Nat) (w : World) (v : Value) (l : List Int) : Prop := w.ownsRow base 5 1 v l.length (l.map (.int .u8))
theorem OwnBytes.snoc {base : Nat} {w : World} {v : Value} {l : List Int} {x : Int} (h : w.ownsRow base 5 1 v (l.length + 1) (l.map (.int .u8) ++ [.int .u8 x])) : OwnBytes base w v (l ++ [x]) := by
  unfold OwnBytes; simpa using h
theorem OwnBytes.app {base : Nat} {w : World} {v : Value} {l l2 : List Int} {n : Nat} (h : w.ownsRow base 5 1 v (l.length + n) (l.map (.int .u8) ++ l2.map (.int .u8))) : OwnBytes base w v (l ++ l2) := by
  unfold OwnBytes
  have : n = l2.length := by have := h.1; simp at this; omega
  subst this
  simpa using h
theorem OwnBytes.read {base : Nat} {w : World} {v : Value} {l : List Int} (h : OwnBytes base w v l) : Bytes w v l := bytes_of_owns h

/-- The call hands on a row of bytes of its own. -/
def GivesOwnBytes (base : Nat) (w : World) (l : List Int) (e : Ending) (w' : World) : Prop :=
  ∃ v, e = .returned v ∧ OwnBytes base w' v l ∧ ∀ B W, B ≤ base → Below B W w → Below B W w'
/-- The call gives back a new slice of bytes. -/
def GivesBytes (w : World) (l : List Int) (e : Ending) (w' : World) : Prop :=
  ∃ v, e = .returned v ∧ OwnBytes w.heap.size w' v l ∧ Below w.heap.size w w'

set_option maxRecDepth 100000 in
set_option maxHeartbeats 400000 in
theorem codec_number (base : Nat) (v : Value) (l : List Int) (n : Int) (w : World) (hv : OwnBytes base w v l) (hb : base ≤ w.heap.size) (hl : l.length ≤ 1099511627776) :
    Calls Try.prog 41 #[v, .int .i64 n] w (GivesOwnBytes base w (l ++ enc n)) := by
  obtain ⟨k0, hk0⟩ : ∃ k0 : Nat, zig n = k0 := ⟨(zig n).toNat, by have := (zig_bd n).1; omega⟩
  have hlen := enc_length n
  have henc : enc n = encN k0 := by unfold enc; rw [hk0]; simp
  have HE := Lib.hid henc; clear henc
  have hkb : k0 < 18446744073709551616 := by have := (zig_bd n).2; omega
  have HK := Lib.hid hkb; clear hkb
  by_cases hn : n < 0
  all_goals
    have hz : zig n = (if n < 0 then bits .xor .u64 IntKind.u64.max (IntKind.u64.wrap (IntKind.u64.wrap n * 2)) else IntKind.u64.wrap (IntKind.u64.wrap n * 2)) := rfl
    first | rw [if_pos hn] at hz | rw [if_neg hn] at hz
    rw [hk0] at hz
    clear hk0
    have HZ := Lib.hid hz; clear hz
    go_enter Try.func41, Try.ntmps41
    go_wp2
    go_loopw [0, 5] (fun v u wr => ∃ (k : Nat) (p : List Int), u = .int .u64 k ∧ k < 18446744073709551616 ∧ OwnBytes base wr v p ∧ p.length + (encN k).length ≤ 1099511627800 ∧ p ++ encN k = l ++ encN k0 ∧ ∀ B W, B ≤ base → Below B W w → Below B W wr)
      (fun _ u _ => (intOf u).toNat)
    case atStart => exact ⟨k0, l, by rw [← HZ.out], HK.out, hv, by rw [← HE.out]; omega, rfl, fun _ _ _ h => h⟩
    case round =>
      obtain ⟨k, p, rfl, hk, hown, hpl, hp, hbel⟩ := hrel
      have HO := Lib.hid hown; have HP := Lib.hid hp; have HB := Lib.hid hbel; clear hown hp hbel
      have hbw : base ≤ wr.heap.size := Nat.le_trans hb (HB.out base w (Nat.le_refl _) (Below.refl _ _)).size
      have h0 : (0 : Int) ≤ (k : Int) := Int.natCast_nonneg _
      by_cases h128 : k < 128
      · have he := encN_small h128
        have hel : (encN k).length = 1 := by rw [he]; rfl
        have HE2 := Lib.hid he; clear he
        have hpl2 : p.length + 1 ≤ 1099511627800 := by omega
        clear hpl hel
        go_wp2_with (first
          | (refine wpList_app1 rfl _ _ 52 rfl base 5 1 Try.appBytes _ _ _ rfl wr (.int .u8 k) rfl HO.out _ rfl rfl rfl (by omega) (by omega) hbw ?_; intro v3 w3 hown3 hbel3 _; have HO3 := Lib.hid (OwnBytes.snoc hown3); have HB3 := Lib.hid hbel3; clear hown3 hbel3))
        go_ret
        refine ⟨_, rfl, ?_, fun B W hB hbl => HB3.out B W hB (HB.out B W hB hbl)⟩
        rw [HE.out, ← HP.out, HE2.out]; exact HO3.out
      · have he := encN_great h128
        have hel : (encN k).length = (encN (k / 128)).length + 1 := by rw [he]; rfl
        have HE2 := Lib.hid he; clear he
        have hor := or128 k
        have HOR := Lib.hid hor; clear hor
        have hpl2 : p.length + 1 + (encN (k / 128)).length ≤ 1099511627800 := by omega
        clear hpl hel
        go_wp2_with (first
          | (refine wpList_app1 rfl _ _ 52 rfl base 5 1 Try.appBytes _ _ _ rfl wr (.int .u8 (bits .or .u8 ((k : Int) % 256) 128)) rfl HO.out _ rfl rfl rfl (by omega) (by omega) hbw ?_; intro v3 w3 hown3 hbel3 _; have HO3 := Lib.hid (OwnBytes.snoc hown3); have HB3 := Lib.hid hbel3; clear hown3 hbel3))
        go_roundw
        case rel =>
          refine ⟨k / 128, p ++ [((k % 128 + 128 : Nat) : Int)], by simp, by omega, by rw [← HOR.out]; exact HO3.out, by simp; omega, ?_, fun B W hB hbl => HB3.out B W hB (HB.out B W hB hbl)⟩
          rw [← HP.out, HE2.out, List.append_assoc]; rfl
        case measure => simp [intOf]; omega

set_option maxHeartbeats 400000 in
theorem codec_room (v : Value) (l : List Int) (m : Int) (w : World) (hv : Bytes w v l) (hl : l.length ≤ 1099511627776) (h0 : 0 ≤ m) (hm : m ≤ 1099511627776) :
    Calls Try.prog 40 #[v, .int .i64 m] w (GivesBytes w l) := by
  have hv0 := hv
  obtain ⟨a, c, rfl, -, -, -, -⟩ := hv
  go_enter Try.func40, Try.ntmps40
  go_wp2_with (first
    | (refine wpList_make_lc rfl _ _ 52 rfl 5 (.int .u8 0) 1 Try.mkBytes l.length (l.length + m) rfl rfl (by omega) (by omega) (by omega) (by omega) w.heap.size (Nat.le_refl _) ?_; intro w1 hown1 hbel1; rw [Int.toNat_natCast] at hown1 ⊢; have HO1 := Lib.hid hown1; have hb1 := hbel1 _ _ (Nat.le_refl _) (Below.refl _ _); clear hown1 hbel1)
    | (refine wpList_copy_whole rfl _ _ 52 rfl w.heap.size 5 Try.underlying52 Try.sz1Byte _ _ _ _ rfl HO1.out _ rfl (l.map (.int .u8)) (hv0.below BytC.mono hb1).isrc ?_; intro w2 hown2 hbel2; have HO2 := Lib.hid hown2; have hb2 := hbel2 _ _ (Nat.le_refl _) hb1; clear hown2 hbel2))
  go_ret
  exact ⟨_, rfl, HO2.out, hb2⟩

set_option maxHeartbeats 400000 in
theorem codec_PutInt (v : Value) (l : List Int) (n : Int) (w : World) (hv : Bytes w v l) (hl : l.length ≤ 549755813888) :
    Calls Try.prog 24 #[v, .int .i64 n] w (GivesBytes w (l ++ enc n)) := by
  go_enter Try.func24, Try.ntmps24
  go_wp2_with fail
  refine (codec_room v l 10 w hv (by omega) (by omega) (by omega)).mono ?_
  rintro e w1 ⟨v1, rfl, h1, hb1⟩
  have HO := Lib.hid h1; clear h1
  go_wp2_with fail
  refine (codec_number _ v1 l n w1 HO.out hb1.size (by omega)).mono ?_
  rintro e w2 ⟨v2, rfl, h2, hb2⟩
  have HO2 := Lib.hid h2; have hb3 := hb2 _ _ (Nat.le_refl _) hb1
  clear h2 hb2
  go_wp2
  go_ret
  exact ⟨_, rfl, HO2.out, hb3⟩

set_option maxRecDepth 100000 in
set_option maxHeartbeats 400000 in
theorem codec_text (base : Nat) (v : Value) (l : List Int) (s : ByteArray) (w : World) (hv : OwnBytes base w v l) (hb : base ≤ w.heap.size) (hl : l.length ≤ 549755813888) (hs : s.size ≤ 549755813888) :
    Calls Try.prog 39 #[v, .string s] w (GivesOwnBytes base w (l ++ encText s)) := by
  have HT : Hid (l ++ encText s = l ++ enc s.size ++ sb s) := by unfold encText; rw [List.append_assoc]; exact rfl
  have hel := enc_length s.size
  go_enter Try.func39, Try.ntmps39
  go_wp2_with fail
  refine (codec_number base v l s.size w hv hb (by omega)).mono ?_
  rintro e w1 ⟨v1, rfl, h1, hb1⟩
  have HO := Lib.hid h1; have HB := Lib.hid hb1; clear h1 hb1
  have hsz : base ≤ w1.heap.size := Nat.le_trans hb (HB.out base w (Nat.le_refl _) (Below.refl _ _)).size
  have hll : (l ++ enc s.size).length ≤ 549755813898 := by rw [List.length_append]; omega
  generalize hL : l ++ enc s.size = L at *
  clear hL
  go_wp2_with (first
    | (refine wpList_app_str rfl _ _ 52 9 rfl base 5 Try.mkBytes Try.underlying9 _ _ _ rfl HO.out s rfl (by omega) hsz ?_; intro v2 w2 hown2 hbel2; have HO2 := Lib.hid (OwnBytes.app hown2); have HB2 := Lib.hid hbel2; clear hown2 hbel2))
  go_ret
  exact ⟨_, rfl, by rw [HT.out]; exact HO2.out, fun B W hB hbl => HB2.out B W hB (HB.out B W hB hbl)⟩

set_option maxHeartbeats 400000 in
theorem codec_PutText (v : Value) (l : List Int) (s : ByteArray) (w : World) (hv : Bytes w v l) (hl : l.length ≤ 549755813888) (hs : s.size ≤ 549755813888) :
    Calls Try.prog 23 #[v, .string s] w (GivesBytes w (l ++ encText s)) := by
  go_enter Try.func23, Try.ntmps23
  go_wp2_with fail
  refine (codec_room v l _ w hv (by omega) (by omega) (by omega)).mono ?_
  rintro e w1 ⟨v1, rfl, h1, hb1⟩
  have HO := Lib.hid h1; clear h1
  go_wp2_with fail
  refine (codec_text _ v1 l s w1 HO.out hb1.size hl hs).mono ?_
  rintro e w2 ⟨v2, rfl, h2, hb2⟩
  have HO2 := Lib.hid h2; have hb3 := hb2 _ _ (Nat.le_refl _) hb1
  clear h2 hb2
  go_wp2
  go_ret
  exact ⟨_, rfl, HO2.out, hb3⟩

/-! ### The reference of layer 5 -/
set_option maxRecDepth 100000 in
set_option maxHeartbeats 400000 in
theorem r05_Int (n : Int) (w : World) :
    Calls Try.prog 45 #[.int .i64 n] w (GivesBytes w (enc n)) := by
  obtain ⟨k0, hk0⟩ : ∃ k0 : Nat, zig n = k0 := ⟨(zig n).toNat, by have := (zig_bd n).1; omega⟩
  have hlen := enc_length n
  have henc : enc n = encN k0 := by unfold enc; rw [hk0]; simp
  have hlen2 : (encN k0).length ≤ 10 := by rw [← henc]; exact hlen
  have HE := Lib.hid henc; clear henc hlen
  have hkb : k0 < 18446744073709551616 := by have := (zig_bd n).2; omega
  have HK := Lib.hid hkb; clear hkb
  by_cases hn : n < 0
  all_goals
    have hz : zig n = (if n < 0 then bits .xor .u64 IntKind.u64.max (IntKind.u64.wrap (IntKind.u64.wrap n * 2)) else IntKind.u64.wrap (IntKind.u64.wrap n * 2)) := rfl
    first | rw [if_pos hn] at hz | rw [if_neg hn] at hz
    rw [hk0] at hz
    clear hk0
    have HZ := Lib.hid hz; clear hz
    go_enter Try.func45, Try.ntmps45
    go_wp2
    go_loopw [4, 3] (fun v u wr => ∃ (k : Nat) (p : List Int), u = .int .u64 k ∧ k < 18446744073709551616 ∧ OwnBytes w.heap.size wr v p ∧ p.length + (encN k).length ≤ 10 ∧ p ++ encN k = encN k0 ∧ Below w.heap.size w wr)
      (fun _ u _ => (intOf u).toNat)
    case atStart => exact ⟨k0, [], by rw [← HZ.out], HK.out, World.ownsRow_nil _ _ _ _, by simpa using hlen2, rfl, Below.refl _ _⟩
    case round =>
      obtain ⟨k, p, rfl, hk, hown, hpl, hp, hbel⟩ := hrel
      have HO := Lib.hid hown; have HP := Lib.hid hp; clear hown hp
      have h0 : (0 : Int) ≤ (k : Int) := Int.natCast_nonneg _
      by_cases h128 : k < 128
      · have he := encN_small h128
        have hel : (encN k).length = 1 := by rw [he]; rfl
        have HE2 := Lib.hid he; clear he
        have hpl2 : p.length + 1 ≤ 10 := by omega
        clear hpl hel hlen2
        go_wp2_with (first
          | (refine wpList_app1 rfl _ _ 52 rfl w.heap.size 5 1 Try.appBytes _ _ _ rfl wr (.int .u8 k) rfl HO.out _ rfl rfl rfl (by omega) (by omega) hbel.size ?_; intro v3 w3 hown3 hbel3 _; have HO3 := Lib.hid (OwnBytes.snoc hown3); have hb3 := hbel3 _ _ (Nat.le_refl _) hbel; clear hown3 hbel3))
        go_ret
        refine ⟨_, rfl, ?_, hb3⟩
        rw [HE.out, ← HP.out, HE2.out]; exact HO3.out
      · have he := encN_great h128
        have hel : (encN k).length = (encN (k / 128)).length + 1 := by rw [he]; rfl
        have HE2 := Lib.hid he; clear he
        have hpl2 : p.length + 1 + (encN (k / 128)).length ≤ 10 := by omega
        clear hpl hel hlen2
        go_wp2_with (first
          | (refine wpList_app1 rfl _ _ 52 rfl w.heap.size 5 1 Try.appBytes _ _ _ rfl wr (.int .u8 ((k : Int) % 128 + 128)) rfl HO.out _ rfl rfl rfl (by omega) (by omega) hbel.size ?_; intro v3 w3 hown3 hbel3 _; have HO3 := Lib.hid (OwnBytes.snoc hown3); have hb3 := hbel3 _ _ (Nat.le_refl _) hbel; clear hown3 hbel3))
        go_roundw
        case rel =>
          refine ⟨k / 128, p ++ [((k % 128 + 128 : Nat) : Int)], by simp, by omega, by rw [show ((k % 128 + 128 : Nat) : Int) = (k : Int) % 128 + 128 from by omega]; exact HO3.out, by simp; omega, ?_, hb3⟩
          rw [← HP.out, HE2.out, List.append_assoc]; rfl
        case measure => simp [intOf]; omega

set_option maxRecDepth 100000 in
set_option maxHeartbeats 400000 in
theorem r05_PutInt (v : Value) (l : List Int) (n : Int) (w : World) (hv : Bytes w v l) (hl : l.length ≤ 549755813888) :
    Calls Try.prog 28 #[v, .int .i64 n] w (GivesBytes w (l ++ enc n)) := by
  have hel := enc_length n
  have hown0 : OwnBytes w.heap.size (w.alloc (.cells #[] 5)) (.slice (some ⟨w.heap.size, 0, none⟩) 0 0) [] := World.ownsRow_made w #[] 0 (Nat.le_refl _) (by simp [maxLen]) rfl
  have hb0 : Below w.heap.size w (w.alloc (.cells #[] 5)) := (Below.refl _ _).alloc (Nat.le_refl _) _
  have HO0 := Lib.hid hown0; clear hown0
  go_enter Try.func28, Try.ntmps28
  go_wp2_with (first
    | (refine wpList_app_src rfl (.tmp 5) (.tmp 6) 52 rfl w.heap.size 5 1 1 Try.appBytes _ _ _ rfl HO0.out v rfl l.length (l.map (.int .u8)) (hv.below BytC.mono hb0).isrc (by simp; omega) (by simp; omega) hb0.size ?_; intro v2 w2 hown2 hbel2 _; have HO2 := Lib.hid (OwnBytes.app hown2); have hb2 := hbel2 _ _ (Nat.le_refl _) hb0; clear hown2 hbel2)
    | (go_at_call 45; refine (r05_Int n w2).mono ?_; rintro e w3 ⟨v3, rfl, h3, hb3⟩; have HO3 := Lib.hid h3.read; have HO4 := Lib.hid (ownsRow_stay HO2.out hb3); have hb4 := hb2.trans (hb3.mono hb2.size); clear h3)
    | (refine wpList_app_src rfl (.tmp 7) (.tmp 9) 52 rfl w.heap.size 5 1 1 Try.appBytes _ _ _ rfl HO4.out _ rfl (enc n).length ((enc n).map (.int .u8)) HO3.out.isrc (by simp; omega) (by simp; omega) hb4.size ?_; intro v5 w5 hown5 hbel5 _; have HO5 := Lib.hid (OwnBytes.app hown5); have hb5 := hbel5 _ _ (Nat.le_refl _) hb4; clear hown5 hbel5))
  go_ret
  exact ⟨_, rfl, HO5.out, hb5⟩

set_option maxRecDepth 100000 in
set_option maxHeartbeats 400000 in
theorem r05_PutText (v : Value) (l : List Int) (s : ByteArray) (w : World) (hv : Bytes w v l) (hl : l.length ≤ 549755813888) (hs : s.size ≤ 549755813888) :
    Calls Try.prog 27 #[v, .string s] w (GivesBytes w (l ++ encText s)) := by
  have HT : Hid (l ++ encText s = l ++ enc s.size ++ sb s) := by unfold encText; rw [List.append_assoc]; exact rfl
  have hel := enc_length s.size
  go_enter Try.func27, Try.ntmps27
  go_wp2_with fail
  refine (r05_PutInt v l s.size w hv hl).mono ?_
  rintro e w1 ⟨v1, rfl, h1, hb1⟩
  have HO := Lib.hid h1; clear h1
  have hll : (l ++ enc s.size).length ≤ 549755813898 := by rw [List.length_append]; omega
  generalize hL : l ++ enc s.size = L at *
  clear hL
  go_wp2_with (first
    | (refine wpList_bytes_of_str rfl 9 52 _ rfl 5 Try.underlying9 Try.underlying52 Try.underlying5 s rfl ?_; intro v2 w2 hsrc hbel2; have HS := Lib.hid hsrc; have hb2 := hbel2 _ _ (Nat.le_refl _) (Below.refl _ _); have HO2 := Lib.hid (ownsRow_stay HO.out hb2); have hb3 := hb1.trans (hb2.mono hb1.size); clear hsrc hbel2)
    | (refine wpList_app_src rfl _ _ 52 rfl w.heap.size 5 1 1 Try.appBytes _ _ _ rfl HO2.out v2 rfl s.size _ HS.out (by omega) (by omega) hb3.size ?_; intro v4 w4 hown4 hbel4 _; have HO4 := Lib.hid (OwnBytes.app hown4); have hb4 := hbel4 _ _ (Nat.le_refl _) hb3; clear hown4 hbel4))
  go_ret
  exact ⟨_, rfl, by rw [HT.out]; exact HO4.out, hb4⟩
end Go.Proofs.Ytdhhcmdofnjhiaa
