/- DigestRooms answers true. No condition. Lines of this text were written by gen_laws.py. -/
import Derived.Test.YtdhhcmdofnjhiaaLive
import Derived.Test.YtdhhcmdofnjhiaaGreat3
namespace Go.Proofs.Ytdhhcmdofnjhiaa
open Go.RowKit

open Classical in
theorem small_of_near {r : Rm} (h : greatRm r 14 = false) : SmallRm r := by
  unfold greatRm at h
  have h' := of_decide_eq_false h
  simp only [not_or] at h'
  obtain ⟨h1, h2⟩ := h'
  unfold farRm at h1
  simp only [not_or] at h1
  obtain ⟨q1, q2, q3, q4, q5, q6, q7, q8⟩ := h1
  unfold farRm2 at h2
  simp only [not_or, not_exists, not_and] at h2
  unfold greatEvs at q1
  simp only [Bool.or_eq_true, not_or, decide_eq_true_eq] at q1
  exact ⟨by have := q1.1; omega, by omega, by omega, fun x hx => by have := h2.1 x hx; omega⟩

set_option maxRecDepth 100000 in
set_option maxHeartbeats 2000000 in
theorem law_DigestRooms (cs : Array Value) (r : Rm) (w : World) (hr : RmC w cs r) : Calls Try.prog 3 #[.agg cs] w (GivesBoolB true w) := by
  obtain ⟨ev, rw, wt, hd, st, rc, ty, L⟩ := hr.at
  have hsz : cs.size = 9 := L.size
  clear L
  have HSZ := Lib.hid hsz
  have hb0 : Below w.heap.size w (w.alloc (.cells cs 30)) := (Below.refl _ _).alloc (Nat.le_refl _) _
  have hk0 := box_all w cs 30
  have hsz1 : (w.alloc (.cells cs 30)).heap.size = w.heap.size + 1 := by simp
  have HSZ1 := Lib.hid hsz1
  have hr0 := hr.below' hb0
  have HG := Lib.hid (r27_Great cs r 14 _ hr0)
  have HAG := Lib.hid (agg_of_keep hk0 hsz)
  cases hg : greatRm r 14 with
  | true =>
    have HT := Lib.hid hg; clear hg hsz hsz1
    go_enter Try.func3, Try.ntmps3
    go_wp2_with (first
      | ((with_reducible show wpList _ _ _ (⟨some 3, _, _, _, _, _⟩ :: _) _ _); refine wpList_load_agg rfl _ _ rfl w.heap.size 0 rfl cs 9 Try.isAgg30 Try.sizeOf30 HSZ.out HAG.out ?_)
      | (go_at_call 7; refine (HG.out true HT.out).mono ?_; rintro e w1 ⟨rfl, hb1⟩))
    go_ret
    exact ⟨rfl, hb0.trans (hb1.mono (by rw [HSZ1.out]; omega))⟩
  | false =>
    have hsm := small_of_near hg
    have HT := Lib.hid hg; clear hg hsz1
    go_enter Try.func3, Try.ntmps3
    go_wp2_with (first
      | ((with_reducible show wpList _ _ _ (⟨some 3, _, _, _, _, _⟩ :: _) _ _); refine wpList_load_agg rfl _ _ rfl w.heap.size 0 rfl cs 9 Try.isAgg30 Try.sizeOf30 HSZ.out HAG.out ?_)
      | (go_at_call 7; refine (HG.out false HT.out).mono ?_; rintro e w1 ⟨rfl, hb1⟩))
    rw [HSZ1.out] at hb1
    have hk1 := box_keep hk0 hb1 (Nat.lt_succ_self _)
    have hs1 : w.heap.size + 1 ≤ w1.heap.size := by have := hb1.size; rw [HSZ1.out] at this; exact this
    have HK := fun w' (hb : Below w1.heap.size w1 w') => box_keep hk1 hb (show w.heap.size < w1.heap.size by omega)
    have hbw := hb0.trans (hb1.mono (Nat.le_succ _))
    have hr1 := hr.below' hbw
    refine wp_region_stable (φ := kds [.rm r, .val (.int .i64 (sumB (roomBytes r))), .rm r, .val (.int .i64 (sumB (roomBytes r))), .val (.bool true), .val (.bool true), .val (.bool true), .val (.bool true), .val (.bool true)]) (by kernel_rfl) (by kernel_rfl) (by kernel_rfl) (by kernel_rfl) (kds_mono _) (upTo_spec 9 ?_) ?_
    · refine ⟨⟨⟨⟨⟨⟨⟨⟨⟨trivial, ?_⟩, ?_⟩, ?_⟩, ?_⟩, ?_⟩, ?_⟩, ?_⟩, ?_⟩, ?_⟩
      · exact does_room _ 1 r cs (w.heap.size) rfl (.inl rfl) (by kernel_rfl) rfl _ Try.isAgg30 Try.sizeOf30 hsz HK hr1 (fun _ _ h => h)
      · exact does_call1 _ 5 0 _ rfl (.inl rfl) (enters_of_b (by kernel_rfl)) (by kernel_rfl) (by rintro _ w2 hb ⟨cs, rfl, h1⟩; exact (digest_Room cs r w2 h1 hsm).mono fun e w3 h => ⟨_, h.1, congrArg (Value.int .i64) (rfl), h.2⟩)
      · exact does_room _ 1 r cs (w.heap.size) rfl (.inl rfl) (by kernel_rfl) rfl _ Try.isAgg30 Try.sizeOf30 hsz HK hr1 (fun _ _ h => h)
      · exact does_call1 _ 7 2 _ rfl (.inl rfl) (enters_of_b (by kernel_rfl)) (by kernel_rfl) (by rintro _ w2 hb ⟨cs, rfl, h1⟩; exact (r54_Room cs r w2 h1 hsm).mono fun e w3 h => ⟨_, h.1, congrArg (Value.int .i64) (rfl), h.2⟩)
      · exact does_eql _ _ 6 1 8 3 (sumB (roomBytes r)) (sumB (roomBytes r)) rfl (.inl rfl) (by kernel_rfl) (by kernel_rfl) (fun _ _ h => h) (fun _ _ h => h) (fun _ => congrArg Value.bool (beq_self_eq_true _))
      · exact does_move 9 4 rfl (.inl rfl) (by kernel_rfl) (fun _ _ h => h)
      · exact does_call0 _  _ rfl (.inr ⟨5, 10, rfl, by kernel_rfl, fun _ _ h => h⟩) (enters_of_b (by kernel_rfl))  (fun w2 _ => (live_ok w2).mono fun e w3 h => ⟨_, h.1, congrArg Value.bool (rfl), h.2⟩)
      · exact does_pick 10 11 5 6 _ rfl (.inl rfl) (by kernel_rfl) (fun _ _ h => h) (by kernel_rfl) (fun _ _ h => h)
      · exact does_assign 12 7 rfl (.inl rfl) (by kernel_rfl) (fun _ _ h => h)
    · intro a w2 hb hsize hdef hold hall
      have h0 : a.tmps.getD 2 undef = .bool true := hall 8 _ 2 rfl rfl
      have hR : GivesBoolB true w (.returned (.bool true)) w2 := ⟨rfl, hbw.trans (hb.mono (by omega))⟩
      rename_i KK hK
      first
        | exact hK _ _ (ret_slot 2 rfl h0 hdef hR)
        | exact ret_slot 2 rfl h0 hdef hR
end Go.Proofs.Ytdhhcmdofnjhiaa
