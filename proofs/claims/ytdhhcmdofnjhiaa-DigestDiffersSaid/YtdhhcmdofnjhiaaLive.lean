/- The chapter's examples hold: live answers true. No condition. Lines of this text were written by gen_live2.py. -/
import Derived.Test.YtdhhcmdofnjhiaaLiveW
import Derived.Test.YtdhhcmdofnjhiaaStabD
import Derived.Great.BuildSlice
namespace Go.Proofs.Ytdhhcmdofnjhiaa
open Go.RowKit

theorem run13 (w : World) : (Instr.buildSlice 24 2 #[(0, .int .i64 1), (1, .int .i64 3)]).run Try.prog w = .ok (.slice (some ⟨w.heap.size, 0, none⟩) 2 2) (w.alloc (.cells #[.int .i64 1, .int .i64 3] 3)) := by
  obtain ⟨ie, h1, h2⟩ := Option.map_eq_some_iff.1 Try.infoInt
  simp only [Prod.mk.injEq] at h2
  obtain ⟨hz, hs, _⟩ := h2
  exact run_buildSlice w _ _ 2 _ _ ie _ Try.underlying24 h1 hz (by rw [hs]; decide) (by rw [hs]; decide) (by rw [hs]; first | kernel_rfl | simp [Instr.fill, Value.cells])
theorem run2 (w : World) : (Instr.buildSlice 24 1 #[(0, .int .i64 2)]).run Try.prog w = .ok (.slice (some ⟨w.heap.size, 0, none⟩) 1 1) (w.alloc (.cells #[.int .i64 2] 3)) := by
  obtain ⟨ie, h1, h2⟩ := Option.map_eq_some_iff.1 Try.infoInt
  simp only [Prod.mk.injEq] at h2
  obtain ⟨hz, hs, _⟩ := h2
  exact run_buildSlice w _ _ 1 _ _ ie _ Try.underlying24 h1 hz (by rw [hs]; decide) (by rw [hs]; decide) (by rw [hs]; first | kernel_rfl | simp [Instr.fill, Value.cells])

set_option maxRecDepth 100000 in
set_option maxHeartbeats 8000000 in
theorem live_ok (w : World) : Calls Try.prog 10 #[] w (GivesBoolB true w) := by
  go_enter Try.func10, Try.ntmps10
  go_wp2
  refine gen_world fun W hW => ?_
  have hL := live_world w W _ _ _ _ _ _ _ hW (by simp [evc]) (by simp [rowCells]) rfl (by simp [evc]) rfl rfl (by simp [rowCells])
  clear hW
  obtain ⟨HA, HB, HC, ka, kb, kc, hsz, hbe⟩ := hL
  have HKA := fun w' (hb : Below W.heap.size W w') => box_keep ka hb (by rw [hsz]; omega)
  have HKB := fun w' (hb : Below W.heap.size W w') => box_keep kb hb (by rw [hsz]; omega)
  have HKC := fun w' (hb : Below W.heap.size W w') => box_keep kc hb (by rw [hsz]; omega)
  refine gen_slots _ _ _ _ _ _ _ _ _ _ _ _ _ _ _ _ _ _ _ _ _ (fun x4 x5 x6 x7 x8 x9 x10 x11 x12 x13 x14 x15 x16 x17 x18 x19 => ?_)
  refine wp_region_stable (φ := kds [.rm roomA, .rm roomB, .ints (differU roomA roomB), .ints [1, 3], .val (.bool true), .val (.bool true), .rm roomA, .rm roomB, .ints (commonU roomA roomB), .ints [2], .val (.bool true), .val (.bool true), .val (.bool true), .rm roomA, .rm roomB, .val (.int .i64 1), .val (.bool true), .val (.bool true), .val (.bool true), .rm roomB, .rm roomA, .val (.int .i64 1), .val (.bool true), .val (.bool true), .val (.bool true), .rm roomA, .rm roomB, .val (.bool false), .val (.bool true), .val (.bool true), .val (.bool true), .rm roomA, .rm roomC, .val (.bool true), .val (.bool true), .val (.bool true), .rm roomA, .val (.int .i64 (sumB (roomBytes roomA))), .rm roomC, .val (.int .i64 (sumB (roomBytes roomA))), .val (.bool true), .val (.bool true), .val (.bool true), .rm roomA, .val (.int .i64 (sumB (roomBytes roomA))), .rm roomA, .val (.int .i64 (sumB (roomBytes roomA))), .val (.bool true), .val (.bool true), .val (.bool true)]) (by kernel_rfl) (by kernel_rfl) (by kernel_rfl) (by kernel_rfl) (kds_mono _) (upTo_spec 50 ?_) ?_
  · refine ⟨⟨⟨⟨⟨⟨⟨⟨⟨⟨⟨⟨⟨⟨⟨⟨⟨⟨⟨⟨⟨⟨⟨⟨⟨⟨⟨⟨⟨⟨⟨⟨⟨⟨⟨⟨⟨⟨⟨⟨⟨⟨⟨⟨⟨⟨⟨⟨⟨⟨trivial, ?_⟩, ?_⟩, ?_⟩, ?_⟩, ?_⟩, ?_⟩, ?_⟩, ?_⟩, ?_⟩, ?_⟩, ?_⟩, ?_⟩, ?_⟩, ?_⟩, ?_⟩, ?_⟩, ?_⟩, ?_⟩, ?_⟩, ?_⟩, ?_⟩, ?_⟩, ?_⟩, ?_⟩, ?_⟩, ?_⟩, ?_⟩, ?_⟩, ?_⟩, ?_⟩, ?_⟩, ?_⟩, ?_⟩, ?_⟩, ?_⟩, ?_⟩, ?_⟩, ?_⟩, ?_⟩, ?_⟩, ?_⟩, ?_⟩, ?_⟩, ?_⟩, ?_⟩, ?_⟩, ?_⟩, ?_⟩, ?_⟩, ?_⟩
    · exact does_room _ 1 roomA #[.string { data := #[33, 114, 58, 97] }, .slice (some ⟨w.heap.size, 0, none⟩) 2 2, .slice (some ⟨w.heap.size + 1, 0, none⟩) 2 2, .slice none 0 0, .slice none 0 0, .slice none 0 0, .int .i64 0, .slice none 0 0, .slice none 0 0] (w.heap.size + 1 + 1) rfl (.inl rfl) (by kernel_rfl) rfl _ Try.isAgg30 Try.sizeOf30 rfl HKA HA (fun _ _ h => h)
    · exact does_room _ 2 roomB #[.string { data := #[33, 114, 58, 97] }, .slice (some ⟨w.heap.size + 1 + 1 + 1, 0, none⟩) 2 2, .slice none 0 0, .slice none 0 0, .slice none 0 0, .slice none 0 0, .int .i64 0, .slice none 0 0, .slice none 0 0] (w.heap.size + 1 + 1 + 1 + 1) rfl (.inl rfl) (by kernel_rfl) rfl _ Try.isAgg30 Try.sizeOf30 rfl HKB HB (fun _ _ h => h)
    · exact does_call2 _ 20 0 21 1 _ rfl (.inl rfl) (enters_of_b (by kernel_rfl)) (by kernel_rfl) (by kernel_rfl) (by rintro _ _ w1 hb ⟨cs, rfl, h1⟩ ⟨ds, rfl, h2⟩; exact (digest_Differ cs ds roomA roomB w1 h1 h2 (by decide) (by decide)).mono fun e w2 h => by obtain ⟨v, rfl, h3, h4⟩ := h; exact ⟨v, rfl, ints_of_owns h3, h4⟩)
    · exact does_list _ 3 _ _ [1, 3] rfl (.inl rfl) rfl (fun _ => by simp [Act.eval]) (by simpa [Act.eval] using run13) (by decide) (fun _ _ h => h)
    · exact does_call2 _ 22 2 23 3 _ rfl (.inl rfl) (enters_of_b (by kernel_rfl)) (by kernel_rfl) (by kernel_rfl) (fun v v2 w1 _ h1 h2 => (r01_SameB v v2 (differU roomA roomB) [1, 3] w1 h1 h2).mono fun e w2 h => ⟨_, h.1, congrArg Value.bool (liveDiffer), h.2⟩)
    · exact does_move 24 4 rfl (.inl rfl) (by kernel_rfl) (fun _ _ h => h)
    · exact does_room _ 1 roomA #[.string { data := #[33, 114, 58, 97] }, .slice (some ⟨w.heap.size, 0, none⟩) 2 2, .slice (some ⟨w.heap.size + 1, 0, none⟩) 2 2, .slice none 0 0, .slice none 0 0, .slice none 0 0, .int .i64 0, .slice none 0 0, .slice none 0 0] (w.heap.size + 1 + 1) rfl (.inr ⟨5, 25, rfl, by kernel_rfl, fun _ _ h => h⟩) (by kernel_rfl) rfl _ Try.isAgg30 Try.sizeOf30 rfl HKA HA (fun _ _ h => h)
    · exact does_room _ 2 roomB #[.string { data := #[33, 114, 58, 97] }, .slice (some ⟨w.heap.size + 1 + 1 + 1, 0, none⟩) 2 2, .slice none 0 0, .slice none 0 0, .slice none 0 0, .slice none 0 0, .int .i64 0, .slice none 0 0, .slice none 0 0] (w.heap.size + 1 + 1 + 1 + 1) rfl (.inr ⟨5, 25, rfl, by kernel_rfl, fun _ _ h => h⟩) (by kernel_rfl) rfl _ Try.isAgg30 Try.sizeOf30 rfl HKB HB (fun _ _ h => h)
    · exact does_call2 _ 26 6 27 7 _ rfl (.inr ⟨5, 25, rfl, by kernel_rfl, fun _ _ h => h⟩) (enters_of_b (by kernel_rfl)) (by kernel_rfl) (by kernel_rfl) (by rintro _ _ w1 hb ⟨cs, rfl, h1⟩ ⟨ds, rfl, h2⟩; exact (digest_Common cs ds roomA roomB w1 h1 h2 (by decide) (by decide)).mono fun e w2 h => by obtain ⟨v, rfl, h3, h4⟩ := h; exact ⟨v, rfl, ints_of_owns h3, h4⟩)
    · exact does_list _ 3 _ _ [2] rfl (.inr ⟨5, 25, rfl, by kernel_rfl, fun _ _ h => h⟩) rfl (fun _ => by simp [Act.eval]) (by simpa [Act.eval] using run2) (by decide) (fun _ _ h => h)
    · exact does_call2 _ 28 8 29 9 _ rfl (.inr ⟨5, 25, rfl, by kernel_rfl, fun _ _ h => h⟩) (enters_of_b (by kernel_rfl)) (by kernel_rfl) (by kernel_rfl) (fun v v2 w1 _ h1 h2 => (r01_SameB v v2 (commonU roomA roomB) [2] w1 h1 h2).mono fun e w2 h => ⟨_, h.1, congrArg Value.bool (liveCommon), h.2⟩)
    · exact does_pick 25 30 5 10 _ rfl (.inl rfl) (by kernel_rfl) (fun _ _ h => h) (by kernel_rfl) (fun _ _ h => h)
    · exact does_move 31 11 rfl (.inl rfl) (by kernel_rfl) (fun _ _ h => h)
    · exact does_room _ 1 roomA #[.string { data := #[33, 114, 58, 97] }, .slice (some ⟨w.heap.size, 0, none⟩) 2 2, .slice (some ⟨w.heap.size + 1, 0, none⟩) 2 2, .slice none 0 0, .slice none 0 0, .slice none 0 0, .int .i64 0, .slice none 0 0, .slice none 0 0] (w.heap.size + 1 + 1) rfl (.inr ⟨12, 32, rfl, by kernel_rfl, fun _ _ h => h⟩) (by kernel_rfl) rfl _ Try.isAgg30 Try.sizeOf30 rfl HKA HA (fun _ _ h => h)
    · exact does_room _ 2 roomB #[.string { data := #[33, 114, 58, 97] }, .slice (some ⟨w.heap.size + 1 + 1 + 1, 0, none⟩) 2 2, .slice none 0 0, .slice none 0 0, .slice none 0 0, .slice none 0 0, .int .i64 0, .slice none 0 0, .slice none 0 0] (w.heap.size + 1 + 1 + 1 + 1) rfl (.inr ⟨12, 32, rfl, by kernel_rfl, fun _ _ h => h⟩) (by kernel_rfl) rfl _ Try.isAgg30 Try.sizeOf30 rfl HKB HB (fun _ _ h => h)
    · exact does_call2 _ 33 13 34 14 _ rfl (.inr ⟨12, 32, rfl, by kernel_rfl, fun _ _ h => h⟩) (enters_of_b (by kernel_rfl)) (by kernel_rfl) (by kernel_rfl) (by rintro _ _ w1 hb ⟨cs, rfl, h1⟩ ⟨ds, rfl, h2⟩; exact (digest_Behind cs ds roomA roomB w1 h1 h2 (by decide) (by decide)).mono fun e w2 h => ⟨_, h.1, congrArg (Value.int .i64) (liveBehind1), h.2⟩)
    · exact does_eqlc _ _ 35 15 1 1 rfl (.inr ⟨12, 32, rfl, by kernel_rfl, fun _ _ h => h⟩) (by kernel_rfl) (fun _ _ h => h) (fun _ => rfl)
    · exact does_pick 32 36 12 16 _ rfl (.inl rfl) (by kernel_rfl) (fun _ _ h => h) (by kernel_rfl) (fun _ _ h => h)
    · exact does_move 37 17 rfl (.inl rfl) (by kernel_rfl) (fun _ _ h => h)
    · exact does_room _ 2 roomB #[.string { data := #[33, 114, 58, 97] }, .slice (some ⟨w.heap.size + 1 + 1 + 1, 0, none⟩) 2 2, .slice none 0 0, .slice none 0 0, .slice none 0 0, .slice none 0 0, .int .i64 0, .slice none 0 0, .slice none 0 0] (w.heap.size + 1 + 1 + 1 + 1) rfl (.inr ⟨18, 38, rfl, by kernel_rfl, fun _ _ h => h⟩) (by kernel_rfl) rfl _ Try.isAgg30 Try.sizeOf30 rfl HKB HB (fun _ _ h => h)
    · exact does_room _ 1 roomA #[.string { data := #[33, 114, 58, 97] }, .slice (some ⟨w.heap.size, 0, none⟩) 2 2, .slice (some ⟨w.heap.size + 1, 0, none⟩) 2 2, .slice none 0 0, .slice none 0 0, .slice none 0 0, .int .i64 0, .slice none 0 0, .slice none 0 0] (w.heap.size + 1 + 1) rfl (.inr ⟨18, 38, rfl, by kernel_rfl, fun _ _ h => h⟩) (by kernel_rfl) rfl _ Try.isAgg30 Try.sizeOf30 rfl HKA HA (fun _ _ h => h)
    · exact does_call2 _ 39 19 40 20 _ rfl (.inr ⟨18, 38, rfl, by kernel_rfl, fun _ _ h => h⟩) (enters_of_b (by kernel_rfl)) (by kernel_rfl) (by kernel_rfl) (by rintro _ _ w1 hb ⟨cs, rfl, h1⟩ ⟨ds, rfl, h2⟩; exact (digest_Behind cs ds roomB roomA w1 h1 h2 (by decide) (by decide)).mono fun e w2 h => ⟨_, h.1, congrArg (Value.int .i64) (liveBehind2), h.2⟩)
    · exact does_eqlc _ _ 41 21 1 1 rfl (.inr ⟨18, 38, rfl, by kernel_rfl, fun _ _ h => h⟩) (by kernel_rfl) (fun _ _ h => h) (fun _ => rfl)
    · exact does_pick 38 42 18 22 _ rfl (.inl rfl) (by kernel_rfl) (fun _ _ h => h) (by kernel_rfl) (fun _ _ h => h)
    · exact does_move 43 23 rfl (.inl rfl) (by kernel_rfl) (fun _ _ h => h)
    · exact does_room _ 1 roomA #[.string { data := #[33, 114, 58, 97] }, .slice (some ⟨w.heap.size, 0, none⟩) 2 2, .slice (some ⟨w.heap.size + 1, 0, none⟩) 2 2, .slice none 0 0, .slice none 0 0, .slice none 0 0, .int .i64 0, .slice none 0 0, .slice none 0 0] (w.heap.size + 1 + 1) rfl (.inr ⟨24, 44, rfl, by kernel_rfl, fun _ _ h => h⟩) (by kernel_rfl) rfl _ Try.isAgg30 Try.sizeOf30 rfl HKA HA (fun _ _ h => h)
    · exact does_room _ 2 roomB #[.string { data := #[33, 114, 58, 97] }, .slice (some ⟨w.heap.size + 1 + 1 + 1, 0, none⟩) 2 2, .slice none 0 0, .slice none 0 0, .slice none 0 0, .slice none 0 0, .int .i64 0, .slice none 0 0, .slice none 0 0] (w.heap.size + 1 + 1 + 1 + 1) rfl (.inr ⟨24, 44, rfl, by kernel_rfl, fun _ _ h => h⟩) (by kernel_rfl) rfl _ Try.isAgg30 Try.sizeOf30 rfl HKB HB (fun _ _ h => h)
    · exact does_call2 _ 45 25 46 26 _ rfl (.inr ⟨24, 44, rfl, by kernel_rfl, fun _ _ h => h⟩) (enters_of_b (by kernel_rfl)) (by kernel_rfl) (by kernel_rfl) (by rintro _ _ w1 hb ⟨cs, rfl, h1⟩ ⟨ds, rfl, h2⟩; exact (digest_Same cs ds roomA roomB w1 h1 h2 (by decide) (by decide)).mono fun e w2 h => ⟨_, h.1, congrArg Value.bool (liveSame1), h.2⟩)
    · exact does_not _ 47 27 false rfl (.inr ⟨24, 44, rfl, by kernel_rfl, fun _ _ h => h⟩) (by kernel_rfl) (fun _ _ h => h) (fun _ => rfl)
    · exact does_pick 44 48 24 28 _ rfl (.inl rfl) (by kernel_rfl) (fun _ _ h => h) (by kernel_rfl) (fun _ _ h => h)
    · exact does_move 49 29 rfl (.inl rfl) (by kernel_rfl) (fun _ _ h => h)
    · exact does_room _ 1 roomA #[.string { data := #[33, 114, 58, 97] }, .slice (some ⟨w.heap.size, 0, none⟩) 2 2, .slice (some ⟨w.heap.size + 1, 0, none⟩) 2 2, .slice none 0 0, .slice none 0 0, .slice none 0 0, .int .i64 0, .slice none 0 0, .slice none 0 0] (w.heap.size + 1 + 1) rfl (.inr ⟨30, 50, rfl, by kernel_rfl, fun _ _ h => h⟩) (by kernel_rfl) rfl _ Try.isAgg30 Try.sizeOf30 rfl HKA HA (fun _ _ h => h)
    · exact does_room _ 3 roomC #[.string { data := #[33, 114, 58, 97] }, .slice (some ⟨w.heap.size, 0, none⟩) 2 2, .slice (some ⟨w.heap.size + 1 + 1 + 1 + 1 + 1 + 1, 0, none⟩) 2 2, .slice none 0 0, .slice none 0 0, .slice none 0 0, .int .i64 0, .slice none 0 0, .slice none 0 0] (w.heap.size + 1 + 1 + 1 + 1 + 1) rfl (.inr ⟨30, 50, rfl, by kernel_rfl, fun _ _ h => h⟩) (by kernel_rfl) rfl _ Try.isAgg30 Try.sizeOf30 rfl HKC HC (fun _ _ h => h)
    · exact does_call2 _ 51 31 52 32 _ rfl (.inr ⟨30, 50, rfl, by kernel_rfl, fun _ _ h => h⟩) (enters_of_b (by kernel_rfl)) (by kernel_rfl) (by kernel_rfl) (by rintro _ _ w1 hb ⟨cs, rfl, h1⟩ ⟨ds, rfl, h2⟩; exact (digest_Same cs ds roomA roomC w1 h1 h2 (by decide) (by decide)).mono fun e w2 h => ⟨_, h.1, congrArg Value.bool (liveSame2), h.2⟩)
    · exact does_pick 50 53 30 33 _ rfl (.inl rfl) (by kernel_rfl) (fun _ _ h => h) (by kernel_rfl) (fun _ _ h => h)
    · exact does_move 54 34 rfl (.inl rfl) (by kernel_rfl) (fun _ _ h => h)
    · exact does_room _ 1 roomA #[.string { data := #[33, 114, 58, 97] }, .slice (some ⟨w.heap.size, 0, none⟩) 2 2, .slice (some ⟨w.heap.size + 1, 0, none⟩) 2 2, .slice none 0 0, .slice none 0 0, .slice none 0 0, .int .i64 0, .slice none 0 0, .slice none 0 0] (w.heap.size + 1 + 1) rfl (.inr ⟨35, 55, rfl, by kernel_rfl, fun _ _ h => h⟩) (by kernel_rfl) rfl _ Try.isAgg30 Try.sizeOf30 rfl HKA HA (fun _ _ h => h)
    · exact does_call1 _ 56 36 _ rfl (.inr ⟨35, 55, rfl, by kernel_rfl, fun _ _ h => h⟩) (enters_of_b (by kernel_rfl)) (by kernel_rfl) (by rintro _ w1 hb ⟨cs, rfl, h1⟩; exact (digest_Room cs roomA w1 h1 smallA).mono fun e w2 h => ⟨_, h.1, congrArg (Value.int .i64) (rfl), h.2⟩)
    · exact does_room _ 3 roomC #[.string { data := #[33, 114, 58, 97] }, .slice (some ⟨w.heap.size, 0, none⟩) 2 2, .slice (some ⟨w.heap.size + 1 + 1 + 1 + 1 + 1 + 1, 0, none⟩) 2 2, .slice none 0 0, .slice none 0 0, .slice none 0 0, .int .i64 0, .slice none 0 0, .slice none 0 0] (w.heap.size + 1 + 1 + 1 + 1 + 1) rfl (.inr ⟨35, 55, rfl, by kernel_rfl, fun _ _ h => h⟩) (by kernel_rfl) rfl _ Try.isAgg30 Try.sizeOf30 rfl HKC HC (fun _ _ h => h)
    · exact does_call1 _ 58 38 _ rfl (.inr ⟨35, 55, rfl, by kernel_rfl, fun _ _ h => h⟩) (enters_of_b (by kernel_rfl)) (by kernel_rfl) (by rintro _ w1 hb ⟨cs, rfl, h1⟩; exact (digest_Room cs roomC w1 h1 smallC).mono fun e w2 h => ⟨_, h.1, congrArg (Value.int .i64) (congrArg sumB bytesAC), h.2⟩)
    · exact does_eql _ _ 57 37 59 39 (sumB (roomBytes roomA)) (sumB (roomBytes roomA)) rfl (.inr ⟨35, 55, rfl, by kernel_rfl, fun _ _ h => h⟩) (by kernel_rfl) (by kernel_rfl) (fun _ _ h => h) (fun _ _ h => h) (fun _ => congrArg Value.bool (beq_self_eq_true _))
    · exact does_pick 55 60 35 40 _ rfl (.inl rfl) (by kernel_rfl) (fun _ _ h => h) (by kernel_rfl) (fun _ _ h => h)
    · exact does_move 61 41 rfl (.inl rfl) (by kernel_rfl) (fun _ _ h => h)
    · exact does_room _ 1 roomA #[.string { data := #[33, 114, 58, 97] }, .slice (some ⟨w.heap.size, 0, none⟩) 2 2, .slice (some ⟨w.heap.size + 1, 0, none⟩) 2 2, .slice none 0 0, .slice none 0 0, .slice none 0 0, .int .i64 0, .slice none 0 0, .slice none 0 0] (w.heap.size + 1 + 1) rfl (.inr ⟨42, 62, rfl, by kernel_rfl, fun _ _ h => h⟩) (by kernel_rfl) rfl _ Try.isAgg30 Try.sizeOf30 rfl HKA HA (fun _ _ h => h)
    · exact does_call1 _ 63 43 _ rfl (.inr ⟨42, 62, rfl, by kernel_rfl, fun _ _ h => h⟩) (enters_of_b (by kernel_rfl)) (by kernel_rfl) (by rintro _ w1 hb ⟨cs, rfl, h1⟩; exact (digest_Room cs roomA w1 h1 smallA).mono fun e w2 h => ⟨_, h.1, congrArg (Value.int .i64) (rfl), h.2⟩)
    · exact does_room _ 1 roomA #[.string { data := #[33, 114, 58, 97] }, .slice (some ⟨w.heap.size, 0, none⟩) 2 2, .slice (some ⟨w.heap.size + 1, 0, none⟩) 2 2, .slice none 0 0, .slice none 0 0, .slice none 0 0, .int .i64 0, .slice none 0 0, .slice none 0 0] (w.heap.size + 1 + 1) rfl (.inr ⟨42, 62, rfl, by kernel_rfl, fun _ _ h => h⟩) (by kernel_rfl) rfl _ Try.isAgg30 Try.sizeOf30 rfl HKA HA (fun _ _ h => h)
    · exact does_call1 _ 65 45 _ rfl (.inr ⟨42, 62, rfl, by kernel_rfl, fun _ _ h => h⟩) (enters_of_b (by kernel_rfl)) (by kernel_rfl) (by rintro _ w1 hb ⟨cs, rfl, h1⟩; exact (r54_Room cs roomA w1 h1 smallA).mono fun e w2 h => ⟨_, h.1, congrArg (Value.int .i64) (rfl), h.2⟩)
    · exact does_eql _ _ 64 44 66 46 (sumB (roomBytes roomA)) (sumB (roomBytes roomA)) rfl (.inr ⟨42, 62, rfl, by kernel_rfl, fun _ _ h => h⟩) (by kernel_rfl) (by kernel_rfl) (fun _ _ h => h) (fun _ _ h => h) (fun _ => congrArg Value.bool (beq_self_eq_true _))
    · exact does_pick 62 67 42 47 _ rfl (.inl rfl) (by kernel_rfl) (fun _ _ h => h) (by kernel_rfl) (fun _ _ h => h)
    · exact does_assign 68 48 rfl (.inl rfl) (by kernel_rfl) (fun _ _ h => h)
  · intro a w1 hb hsize hdef hold hall
    have h0 : a.tmps.getD 0 undef = .bool true := hall 49 _ 0 rfl rfl
    rename_i K hK
    exact hK _ _ (ret_slot 0 rfl h0 hdef ⟨rfl, hbe.trans (hb.mono hbe.size)⟩)
end Go.Proofs.Ytdhhcmdofnjhiaa
