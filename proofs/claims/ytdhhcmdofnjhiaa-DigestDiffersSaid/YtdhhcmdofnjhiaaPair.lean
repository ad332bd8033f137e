/- What Differ, Common and Behind answer, in the program and in the reference. Condition: at most 1000 events each. Lines of this text were written by gen_pair.py. -/
import Derived.Test.YtdhhcmdofnjhiaaPairL
namespace Go.Proofs.Ytdhhcmdofnjhiaa
open Go.RowKit

set_option maxRecDepth 100000 in
set_option maxHeartbeats 4000000 in
theorem digest_Differ (cs ds : Array Value) (a b : Rm) (w : World) (hA : RmC w cs a) (hB : RmC w ds b) (ha : a.events.length ≤ 1000) (hb : b.events.length ≤ 1000) :
    Calls Try.prog 12 #[.agg cs, .agg ds] w (GivesInts w.heap.size w (differU a b)) := by
  have hRA := hA; have hRB := hB
  obtain ⟨ev, rw, wt, hd, st, rc, ty, rfl⟩ := hA.lit
  obtain ⟨ev2, rw2, wt2, hd2, st2, rc2, ty2, rfl⟩ := hB.lit
  have hkA0 := two_a w (rmLit a ev rw wt hd st rc ty) (rmLit b ev2 rw2 wt2 hd2 st2 rc2 ty2) 30
  have hkB0 := two_b w (rmLit a ev rw wt hd st rc ty) (rmLit b ev2 rw2 wt2 hd2 st2 rc2 ty2) 30
  have hb0 := box2_below w (.cells (rmLit a ev rw wt hd st rc ty) 30) (.cells (rmLit b ev2 rw2 wt2 hd2 st2 rc2 ty2) 30)
  have hz0 := Nat.le_of_eq (two_size w (.cells (rmLit a ev rw wt hd st rc ty) 30) (.cells (rmLit b ev2 rw2 wt2 hd2 st2 rc2 ty2) 30)).symm
  have la := idsOf_length a; have lb := idsOf_length b
  have lab := minusU_length (idsOf a) (idsOf b); have lba := minusU_length (idsOf b) (idsOf a)
  clear hA hB
  go_enter Try.func12, Try.ntmps12
  go_wp2_with fail
  generalize hW : (w.alloc (.cells (rmLit a ev rw wt hd st rc ty) 30)).alloc (.cells (rmLit b ev2 rw2 wt2 hd2 st2 rc2 ty2) 30) = W at *
  go_region_held3 (fun w' => (∀ k, w'.cell? ⟨w.heap.size, k, none⟩ = (rmLit a ev rw wt hd st rc ty)[k]?) ∧ (∀ k, w'.cell? ⟨w.heap.size + 1, k, none⟩ = (rmLit b ev2 rw2 wt2 hd2 st2 rc2 ty2)[k]?))
    (first | exact ⟨hkA2, hkB2⟩ | exact ⟨hkA1, hkB1⟩ | exact ⟨hkA0, hkB0⟩)
    (first
      | (go_at_call 31; refine (digest_ids _ b _ (hRB.below' hb1) (by omega)).mono ?_; rintro e w2 ⟨v2, rfl, h2, hs2⟩; have hI2 : Ints w2 v2 (idsOf b) := ints_of_owns h2; have HX2 := Lib.hid hI2; have HOW2 := Lib.hid h2; have ht2 := hs2; have hb2 := hb1.trans (ht2.mono hb1.size); have hq2 : w.heap.size + 2 ≤ w1.heap.size := hz1; have hz2 := Nat.le_trans hq2 ht2.size; have hkA2 := box_keep hkA1 ht2 (Nat.lt_of_lt_of_le (by omega) hq2); have hkB2 := box_keep hkB1 ht2 (Nat.lt_of_lt_of_le (by omega) hq2); have HX1_2 := Lib.hid (HX1.out.below IntC.mono ht2))
      | (go_at_call 31; refine (digest_ids _ a _ (hRA.below' hb0.drew) (by omega)).mono ?_; rintro e w1 ⟨v1, rfl, h1, hs1⟩; have hI1 : Ints w1 v1 (idsOf a) := ints_of_owns h1; have HX1 := Lib.hid hI1; have HOW1 := Lib.hid h1; have ht1 := (Below.refl W.heap.size W).drew.trans hs1; have hb1 := hb0.trans (ht1.mono hb0.size); have hq1 : w.heap.size + 2 ≤ W.heap.size := hz0; have hz1 := Nat.le_trans hq1 ht1.size; have hkA1 := box_keep hkA0 ht1 (Nat.lt_of_lt_of_le (by omega) hq1); have hkB1 := box_keep hkB0 ht1 (Nat.lt_of_lt_of_le (by omega) hq1)))
  go_wp2_with (first
      | (go_at_call 32; refine (num_Union _ _ _ _ _ HX3_4.out HX4.out (by omega) (by omega)).mono ?_; rintro e w5 ⟨v5, rfl, h5, hs5⟩; have hI5 : Ints w5 v5 (unionU (minusU (idsOf a) (idsOf b)) (minusU (idsOf b) (idsOf a))) := ints_of_owns h5; have HX5 := Lib.hid hI5; have HOW5 := Lib.hid h5; have ht5 := hs5; have hb5 := hb4.trans (ht5.mono hb4.size); have hq5 : w.heap.size + 2 ≤ w4.heap.size := hz4; have hz5 := Nat.le_trans hq5 ht5.size; have hkA5 := box_keep hkA4 ht5 (Nat.lt_of_lt_of_le (by omega) hq5); have hkB5 := box_keep hkB4 ht5 (Nat.lt_of_lt_of_le (by omega) hq5); have HX1_5 := Lib.hid (HX1_4.out.below IntC.mono ht5); have HX2_5 := Lib.hid (HX2_4.out.below IntC.mono ht5); have HX3_5 := Lib.hid (HX3_4.out.below IntC.mono ht5); have HX4_5 := Lib.hid (HX4.out.below IntC.mono ht5))
      | (go_at_call 33; refine (num_Minus _ _ _ _ _ HX2_3.out HX1_3.out (by omega) (by omega)).mono ?_; rintro e w4 ⟨v4, rfl, h4, hs4⟩; have hI4 : Ints w4 v4 (minusU (idsOf b) (idsOf a)) := ints_of_owns h4; have HX4 := Lib.hid hI4; have HOW4 := Lib.hid h4; have ht4 := hs4; have hb4 := hb3.trans (ht4.mono hb3.size); have hq4 : w.heap.size + 2 ≤ w3.heap.size := hz3; have hz4 := Nat.le_trans hq4 ht4.size; have hkA4 := box_keep hkA3 ht4 (Nat.lt_of_lt_of_le (by omega) hq4); have hkB4 := box_keep hkB3 ht4 (Nat.lt_of_lt_of_le (by omega) hq4); have HX1_4 := Lib.hid (HX1_3.out.below IntC.mono ht4); have HX2_4 := Lib.hid (HX2_3.out.below IntC.mono ht4); have HX3_4 := Lib.hid (HX3.out.below IntC.mono ht4))
      | (go_at_call 33; refine (num_Minus _ _ _ _ _ HX1_2.out HX2.out (by omega) (by omega)).mono ?_; rintro e w3 ⟨v3, rfl, h3, hs3⟩; have hI3 : Ints w3 v3 (minusU (idsOf a) (idsOf b)) := ints_of_owns h3; have HX3 := Lib.hid hI3; have HOW3 := Lib.hid h3; have ht3 := hs3; have hb3 := hb2.trans (ht3.mono hb2.size); have hq3 : w.heap.size + 2 ≤ w2.heap.size := hz2; have hz3 := Nat.le_trans hq3 ht3.size; have hkA3 := box_keep hkA2 ht3 (Nat.lt_of_lt_of_le (by omega) hq3); have hkB3 := box_keep hkB2 ht3 (Nat.lt_of_lt_of_le (by omega) hq3); have HX1_3 := Lib.hid (HX1_2.out.below IntC.mono ht3); have HX2_3 := Lib.hid (HX2.out.below IntC.mono ht3)))
  go_ret
  exact ⟨_, rfl, ownsRow_lower HOW5.out hb4.size, hb5⟩

set_option maxRecDepth 100000 in
set_option maxHeartbeats 4000000 in
theorem r54_Differ (cs ds : Array Value) (a b : Rm) (w : World) (hA : RmC w cs a) (hB : RmC w ds b) (ha : a.events.length ≤ 1000) (hb : b.events.length ≤ 1000) :
    Calls Try.prog 13 #[.agg cs, .agg ds] w (GivesIntsR w (differU a b)) := by
  have hRA := hA; have hRB := hB
  obtain ⟨ev, rw, wt, hd, st, rc, ty, rfl⟩ := hA.lit
  obtain ⟨ev2, rw2, wt2, hd2, st2, rc2, ty2, rfl⟩ := hB.lit
  have hkA0 := two_a w (rmLit a ev rw wt hd st rc ty) (rmLit b ev2 rw2 wt2 hd2 st2 rc2 ty2) 30
  have hkB0 := two_b w (rmLit a ev rw wt hd st rc ty) (rmLit b ev2 rw2 wt2 hd2 st2 rc2 ty2) 30
  have hb0 := box2_below w (.cells (rmLit a ev rw wt hd st rc ty) 30) (.cells (rmLit b ev2 rw2 wt2 hd2 st2 rc2 ty2) 30)
  have hz0 := Nat.le_of_eq (two_size w (.cells (rmLit a ev rw wt hd st rc ty) 30) (.cells (rmLit b ev2 rw2 wt2 hd2 st2 rc2 ty2) 30)).symm
  have la := idsOf_length a; have lb := idsOf_length b
  have lab := minusU_length (idsOf a) (idsOf b); have lba := minusU_length (idsOf b) (idsOf a)
  clear hA hB
  go_enter Try.func13, Try.ntmps13
  go_wp2_with fail
  generalize hW : (w.alloc (.cells (rmLit a ev rw wt hd st rc ty) 30)).alloc (.cells (rmLit b ev2 rw2 wt2 hd2 st2 rc2 ty2) 30) = W at *
  go_region_held3 (fun w' => (∀ k, w'.cell? ⟨w.heap.size, k, none⟩ = (rmLit a ev rw wt hd st rc ty)[k]?) ∧ (∀ k, w'.cell? ⟨w.heap.size + 1, k, none⟩ = (rmLit b ev2 rw2 wt2 hd2 st2 rc2 ty2)[k]?))
    (first | exact ⟨hkA7, hkB7⟩ | exact ⟨hkA6, hkB6⟩ | exact ⟨hkA5, hkB5⟩ | exact ⟨hkA4, hkB4⟩ | exact ⟨hkA3, hkB3⟩ | exact ⟨hkA2, hkB2⟩ | exact ⟨hkA1, hkB1⟩ | exact ⟨hkA0, hkB0⟩)
    (first
      | (go_at_call 20; refine (r01_Union _ _ _ _ _ HX3_6.out HX6.out (by omega) (by omega)).mono ?_; rintro e w7 ⟨v7, rfl, h7, hs7⟩; have hI7 : Ints w7 v7 (unionU (minusU (idsOf a) (idsOf b)) (minusU (idsOf b) (idsOf a))) := h7; have HX7 := Lib.hid hI7; have ht7 := hs7; have hb7 := hb6.trans (ht7.mono hb6.size); have hq7 : w.heap.size + 2 ≤ w6.heap.size := hz6; have hz7 := Nat.le_trans hq7 ht7.size; have hkA7 := box_keep hkA6 ht7 (Nat.lt_of_lt_of_le (by omega) hq7); have hkB7 := box_keep hkB6 ht7 (Nat.lt_of_lt_of_le (by omega) hq7); have HX1_7 := Lib.hid (HX1_6.out.below IntC.mono ht7); have HX2_7 := Lib.hid (HX2_6.out.below IntC.mono ht7); have HX3_7 := Lib.hid (HX3_6.out.below IntC.mono ht7); have HX4_7 := Lib.hid (HX4_6.out.below IntC.mono ht7); have HX5_7 := Lib.hid (HX5_6.out.below IntC.mono ht7); have HX6_7 := Lib.hid (HX6.out.below IntC.mono ht7))
      | (go_at_call 34; refine (r01_Minus _ _ _ _ _ HX4_5.out HX5.out (by omega)).mono ?_; rintro e w6 ⟨v6, rfl, h6, hs6⟩; have hI6 : Ints w6 v6 (minusU (idsOf b) (idsOf a)) := ints_of_owns h6; have HX6 := Lib.hid hI6; have HOW6 := Lib.hid h6; have ht6 := hs6; have hb6 := hb5.trans (ht6.mono hb5.size); have hq6 : w.heap.size + 2 ≤ w5.heap.size := hz5; have hz6 := Nat.le_trans hq6 ht6.size; have hkA6 := box_keep hkA5 ht6 (Nat.lt_of_lt_of_le (by omega) hq6); have hkB6 := box_keep hkB5 ht6 (Nat.lt_of_lt_of_le (by omega) hq6); have HX1_6 := Lib.hid (HX1_5.out.below IntC.mono ht6); have HX2_6 := Lib.hid (HX2_5.out.below IntC.mono ht6); have HX3_6 := Lib.hid (HX3_5.out.below IntC.mono ht6); have HX4_6 := Lib.hid (HX4_5.out.below IntC.mono ht6); have HX5_6 := Lib.hid (HX5.out.below IntC.mono ht6))
      | (go_at_call 35; refine (r54_ids _ a _ (hRA.below' hb4) (by omega)).mono ?_; rintro e w5 ⟨v5, rfl, h5, hs5⟩; have hI5 : Ints w5 v5 (idsOf a) := h5; have HX5 := Lib.hid hI5; have ht5 := hs5; have hb5 := hb4.trans (ht5.mono hb4.size); have hq5 : w.heap.size + 2 ≤ w4.heap.size := hz4; have hz5 := Nat.le_trans hq5 ht5.size; have hkA5 := box_keep hkA4 ht5 (Nat.lt_of_lt_of_le (by omega) hq5); have hkB5 := box_keep hkB4 ht5 (Nat.lt_of_lt_of_le (by omega) hq5); have HX1_5 := Lib.hid (HX1_4.out.below IntC.mono ht5); have HX2_5 := Lib.hid (HX2_4.out.below IntC.mono ht5); have HX3_5 := Lib.hid (HX3_4.out.below IntC.mono ht5); have HX4_5 := Lib.hid (HX4.out.below IntC.mono ht5))
      | (go_at_call 35; refine (r54_ids _ b _ (hRB.below' hb3) (by omega)).mono ?_; rintro e w4 ⟨v4, rfl, h4, hs4⟩; have hI4 : Ints w4 v4 (idsOf b) := h4; have HX4 := Lib.hid hI4; have ht4 := hs4; have hb4 := hb3.trans (ht4.mono hb3.size); have hq4 : w.heap.size + 2 ≤ w3.heap.size := hz3; have hz4 := Nat.le_trans hq4 ht4.size; have hkA4 := box_keep hkA3 ht4 (Nat.lt_of_lt_of_le (by omega) hq4); have hkB4 := box_keep hkB3 ht4 (Nat.lt_of_lt_of_le (by omega) hq4); have HX1_4 := Lib.hid (HX1_3.out.below IntC.mono ht4); have HX2_4 := Lib.hid (HX2_3.out.below IntC.mono ht4); have HX3_4 := Lib.hid (HX3.out.below IntC.mono ht4))
      | (go_at_call 34; refine (r01_Minus _ _ _ _ _ HX1_2.out HX2.out (by omega)).mono ?_; rintro e w3 ⟨v3, rfl, h3, hs3⟩; have hI3 : Ints w3 v3 (minusU (idsOf a) (idsOf b)) := ints_of_owns h3; have HX3 := Lib.hid hI3; have HOW3 := Lib.hid h3; have ht3 := hs3; have hb3 := hb2.trans (ht3.mono hb2.size); have hq3 : w.heap.size + 2 ≤ w2.heap.size := hz2; have hz3 := Nat.le_trans hq3 ht3.size; have hkA3 := box_keep hkA2 ht3 (Nat.lt_of_lt_of_le (by omega) hq3); have hkB3 := box_keep hkB2 ht3 (Nat.lt_of_lt_of_le (by omega) hq3); have HX1_3 := Lib.hid (HX1_2.out.below IntC.mono ht3); have HX2_3 := Lib.hid (HX2.out.below IntC.mono ht3))
      | (go_at_call 35; refine (r54_ids _ b _ (hRB.below' hb1) (by omega)).mono ?_; rintro e w2 ⟨v2, rfl, h2, hs2⟩; have hI2 : Ints w2 v2 (idsOf b) := h2; have HX2 := Lib.hid hI2; have ht2 := hs2; have hb2 := hb1.trans (ht2.mono hb1.size); have hq2 : w.heap.size + 2 ≤ w1.heap.size := hz1; have hz2 := Nat.le_trans hq2 ht2.size; have hkA2 := box_keep hkA1 ht2 (Nat.lt_of_lt_of_le (by omega) hq2); have hkB2 := box_keep hkB1 ht2 (Nat.lt_of_lt_of_le (by omega) hq2); have HX1_2 := Lib.hid (HX1.out.below IntC.mono ht2))
      | (go_at_call 35; refine (r54_ids _ a _ (hRA.below' hb0.drew) (by omega)).mono ?_; rintro e w1 ⟨v1, rfl, h1, hs1⟩; have hI1 : Ints w1 v1 (idsOf a) := h1; have HX1 := Lib.hid hI1; have ht1 := (Below.refl W.heap.size W).drew.trans hs1; have hb1 := hb0.trans (ht1.mono hb0.size); have hq1 : w.heap.size + 2 ≤ W.heap.size := hz0; have hz1 := Nat.le_trans hq1 ht1.size; have hkA1 := box_keep hkA0 ht1 (Nat.lt_of_lt_of_le (by omega) hq1); have hkB1 := box_keep hkB0 ht1 (Nat.lt_of_lt_of_le (by omega) hq1)))
  go_wp2
  go_ret
  exact ⟨_, rfl, HX7.out, hb7⟩

set_option maxRecDepth 100000 in
set_option maxHeartbeats 4000000 in
theorem digest_Common (cs ds : Array Value) (a b : Rm) (w : World) (hA : RmC w cs a) (hB : RmC w ds b) (ha : a.events.length ≤ 1000) (hb : b.events.length ≤ 1000) :
    Calls Try.prog 14 #[.agg cs, .agg ds] w (GivesInts w.heap.size w (commonU a b)) := by
  have hRA := hA; have hRB := hB
  obtain ⟨ev, rw, wt, hd, st, rc, ty, rfl⟩ := hA.lit
  obtain ⟨ev2, rw2, wt2, hd2, st2, rc2, ty2, rfl⟩ := hB.lit
  have hkA0 := two_a w (rmLit a ev rw wt hd st rc ty) (rmLit b ev2 rw2 wt2 hd2 st2 rc2 ty2) 30
  have hkB0 := two_b w (rmLit a ev rw wt hd st rc ty) (rmLit b ev2 rw2 wt2 hd2 st2 rc2 ty2) 30
  have hb0 := box2_below w (.cells (rmLit a ev rw wt hd st rc ty) 30) (.cells (rmLit b ev2 rw2 wt2 hd2 st2 rc2 ty2) 30)
  have hz0 := Nat.le_of_eq (two_size w (.cells (rmLit a ev rw wt hd st rc ty) 30) (.cells (rmLit b ev2 rw2 wt2 hd2 st2 rc2 ty2) 30)).symm
  have la := idsOf_length a; have lb := idsOf_length b
  have lab := minusU_length (idsOf a) (idsOf b); have lba := minusU_length (idsOf b) (idsOf a)
  clear hA hB
  go_enter Try.func14, Try.ntmps14
  go_wp2_with fail
  generalize hW : (w.alloc (.cells (rmLit a ev rw wt hd st rc ty) 30)).alloc (.cells (rmLit b ev2 rw2 wt2 hd2 st2 rc2 ty2) 30) = W at *
  go_wp2_with (first
      | (go_at_call 33; refine (num_Minus _ _ _ _ _ HX1_3.out HX3.out (by omega) (by omega)).mono ?_; rintro e w4 ⟨v4, rfl, h4, hs4⟩; have hI4 : Ints w4 v4 (minusU (idsOf a) (minusU (idsOf a) (idsOf b))) := ints_of_owns h4; have HX4 := Lib.hid hI4; have HOW4 := Lib.hid h4; have ht4 := hs4; have hb4 := hb3.trans (ht4.mono hb3.size); have hq4 : w.heap.size + 2 ≤ w3.heap.size := hz3; have hz4 := Nat.le_trans hq4 ht4.size; have hkA4 := box_keep hkA3 ht4 (Nat.lt_of_lt_of_le (by omega) hq4); have hkB4 := box_keep hkB3 ht4 (Nat.lt_of_lt_of_le (by omega) hq4); have HX1_4 := Lib.hid (HX1_3.out.below IntC.mono ht4); have HX2_4 := Lib.hid (HX2_3.out.below IntC.mono ht4); have HX3_4 := Lib.hid (HX3.out.below IntC.mono ht4))
      | (go_at_call 33; refine (num_Minus _ _ _ _ _ HX1_2.out HX2.out (by omega) (by omega)).mono ?_; rintro e w3 ⟨v3, rfl, h3, hs3⟩; have hI3 : Ints w3 v3 (minusU (idsOf a) (idsOf b)) := ints_of_owns h3; have HX3 := Lib.hid hI3; have HOW3 := Lib.hid h3; have ht3 := hs3; have hb3 := hb2.trans (ht3.mono hb2.size); have hq3 : w.heap.size + 2 ≤ w2.heap.size := hz2; have hz3 := Nat.le_trans hq3 ht3.size; have hkA3 := box_keep hkA2 ht3 (Nat.lt_of_lt_of_le (by omega) hq3); have hkB3 := box_keep hkB2 ht3 (Nat.lt_of_lt_of_le (by omega) hq3); have HX1_3 := Lib.hid (HX1_2.out.below IntC.mono ht3); have HX2_3 := Lib.hid (HX2.out.below IntC.mono ht3))
      | (go_at_call 31; refine (digest_ids _ b _ (hRB.below' hb1) (by omega)).mono ?_; rintro e w2 ⟨v2, rfl, h2, hs2⟩; have hI2 : Ints w2 v2 (idsOf b) := ints_of_owns h2; have HX2 := Lib.hid hI2; have HOW2 := Lib.hid h2; have ht2 := hs2; have hb2 := hb1.trans (ht2.mono hb1.size); have hq2 : w.heap.size + 2 ≤ w1.heap.size := hz1; have hz2 := Nat.le_trans hq2 ht2.size; have hkA2 := box_keep hkA1 ht2 (Nat.lt_of_lt_of_le (by omega) hq2); have hkB2 := box_keep hkB1 ht2 (Nat.lt_of_lt_of_le (by omega) hq2); have HX1_2 := Lib.hid (HX1.out.below IntC.mono ht2))
      | (go_at_call 31; refine (digest_ids _ a _ (hRA.below' hb0) (by omega)).mono ?_; rintro e w1 ⟨v1, rfl, h1, hs1⟩; have hI1 : Ints w1 v1 (idsOf a) := ints_of_owns h1; have HX1 := Lib.hid hI1; have HOW1 := Lib.hid h1; have ht1 := hs1; have hb1 := hb0.trans (ht1.mono hb0.size); have hq1 : w.heap.size + 2 ≤ W.heap.size := hz0; have hz1 := Nat.le_trans hq1 ht1.size; have hkA1 := box_keep hkA0 ht1 (Nat.lt_of_lt_of_le (by omega) hq1); have hkB1 := box_keep hkB0 ht1 (Nat.lt_of_lt_of_le (by omega) hq1)))
  go_ret
  exact ⟨_, rfl, ownsRow_lower HOW4.out hb3.size, hb4⟩

set_option maxRecDepth 100000 in
set_option maxHeartbeats 4000000 in
theorem r54_Common (cs ds : Array Value) (a b : Rm) (w : World) (hA : RmC w cs a) (hB : RmC w ds b) (ha : a.events.length ≤ 1000) (hb : b.events.length ≤ 1000) :
    Calls Try.prog 15 #[.agg cs, .agg ds] w (GivesInts w.heap.size w (commonU a b)) := by
  have hRA := hA; have hRB := hB
  obtain ⟨ev, rw, wt, hd, st, rc, ty, rfl⟩ := hA.lit
  obtain ⟨ev2, rw2, wt2, hd2, st2, rc2, ty2, rfl⟩ := hB.lit
  have hkA0 := two_a w (rmLit a ev rw wt hd st rc ty) (rmLit b ev2 rw2 wt2 hd2 st2 rc2 ty2) 30
  have hkB0 := two_b w (rmLit a ev rw wt hd st rc ty) (rmLit b ev2 rw2 wt2 hd2 st2 rc2 ty2) 30
  have hb0 := box2_below w (.cells (rmLit a ev rw wt hd st rc ty) 30) (.cells (rmLit b ev2 rw2 wt2 hd2 st2 rc2 ty2) 30)
  have hz0 := Nat.le_of_eq (two_size w (.cells (rmLit a ev rw wt hd st rc ty) 30) (.cells (rmLit b ev2 rw2 wt2 hd2 st2 rc2 ty2) 30)).symm
  have la := idsOf_length a; have lb := idsOf_length b
  have lab := minusU_length (idsOf a) (idsOf b); have lba := minusU_length (idsOf b) (idsOf a)
  clear hA hB
  go_enter Try.func15, Try.ntmps15
  go_wp2_with fail
  generalize hW : (w.alloc (.cells (rmLit a ev rw wt hd st rc ty) 30)).alloc (.cells (rmLit b ev2 rw2 wt2 hd2 st2 rc2 ty2) 30) = W at *
  go_region_held3 (fun w' => (∀ k, w'.cell? ⟨w.heap.size, k, none⟩ = (rmLit a ev rw wt hd st rc ty)[k]?) ∧ (∀ k, w'.cell? ⟨w.heap.size + 1, k, none⟩ = (rmLit b ev2 rw2 wt2 hd2 st2 rc2 ty2)[k]?))
    (first | exact ⟨hkA5, hkB5⟩ | exact ⟨hkA4, hkB4⟩ | exact ⟨hkA3, hkB3⟩ | exact ⟨hkA2, hkB2⟩ | exact ⟨hkA1, hkB1⟩ | exact ⟨hkA0, hkB0⟩)
    (first
      | (go_at_call 34; refine (r01_Minus _ _ _ _ _ HX1_4.out HX4.out (by omega)).mono ?_; rintro e w5 ⟨v5, rfl, h5, hs5⟩; have hI5 : Ints w5 v5 (minusU (idsOf a) (minusU (idsOf a) (idsOf b))) := ints_of_owns h5; have HX5 := Lib.hid hI5; have HOW5 := Lib.hid h5; have ht5 := hs5; have hb5 := hb4.trans (ht5.mono hb4.size); have hq5 : w.heap.size + 2 ≤ w4.heap.size := hz4; have hz5 := Nat.le_trans hq5 ht5.size; have hkA5 := box_keep hkA4 ht5 (Nat.lt_of_lt_of_le (by omega) hq5); have hkB5 := box_keep hkB4 ht5 (Nat.lt_of_lt_of_le (by omega) hq5); have HX1_5 := Lib.hid (HX1_4.out.below IntC.mono ht5); have HX2_5 := Lib.hid (HX2_4.out.below IntC.mono ht5); have HX3_5 := Lib.hid (HX3_4.out.below IntC.mono ht5); have HX4_5 := Lib.hid (HX4.out.below IntC.mono ht5))
      | (go_at_call 34; refine (r01_Minus _ _ _ _ _ HX2_3.out HX3.out (by omega)).mono ?_; rintro e w4 ⟨v4, rfl, h4, hs4⟩; have hI4 : Ints w4 v4 (minusU (idsOf a) (idsOf b)) := ints_of_owns h4; have HX4 := Lib.hid hI4; have HOW4 := Lib.hid h4; have ht4 := hs4; have hb4 := hb3.trans (ht4.mono hb3.size); have hq4 : w.heap.size + 2 ≤ w3.heap.size := hz3; have hz4 := Nat.le_trans hq4 ht4.size; have hkA4 := box_keep hkA3 ht4 (Nat.lt_of_lt_of_le (by omega) hq4); have hkB4 := box_keep hkB3 ht4 (Nat.lt_of_lt_of_le (by omega) hq4); have HX1_4 := Lib.hid (HX1_3.out.below IntC.mono ht4); have HX2_4 := Lib.hid (HX2_3.out.below IntC.mono ht4); have HX3_4 := Lib.hid (HX3.out.below IntC.mono ht4))
      | (go_at_call 35; refine (r54_ids _ b _ (hRB.below' hb2) (by omega)).mono ?_; rintro e w3 ⟨v3, rfl, h3, hs3⟩; have hI3 : Ints w3 v3 (idsOf b) := h3; have HX3 := Lib.hid hI3; have ht3 := hs3; have hb3 := hb2.trans (ht3.mono hb2.size); have hq3 : w.heap.size + 2 ≤ w2.heap.size := hz2; have hz3 := Nat.le_trans hq3 ht3.size; have hkA3 := box_keep hkA2 ht3 (Nat.lt_of_lt_of_le (by omega) hq3); have hkB3 := box_keep hkB2 ht3 (Nat.lt_of_lt_of_le (by omega) hq3); have HX1_3 := Lib.hid (HX1_2.out.below IntC.mono ht3); have HX2_3 := Lib.hid (HX2.out.below IntC.mono ht3))
      | (go_at_call 35; refine (r54_ids _ a _ (hRA.below' hb1) (by omega)).mono ?_; rintro e w2 ⟨v2, rfl, h2, hs2⟩; have hI2 : Ints w2 v2 (idsOf a) := h2; have HX2 := Lib.hid hI2; have ht2 := hs2; have hb2 := hb1.trans (ht2.mono hb1.size); have hq2 : w.heap.size + 2 ≤ w1.heap.size := hz1; have hz2 := Nat.le_trans hq2 ht2.size; have hkA2 := box_keep hkA1 ht2 (Nat.lt_of_lt_of_le (by omega) hq2); have hkB2 := box_keep hkB1 ht2 (Nat.lt_of_lt_of_le (by omega) hq2); have HX1_2 := Lib.hid (HX1.out.below IntC.mono ht2))
      | (go_at_call 35; refine (r54_ids _ a _ (hRA.below' hb0.drew) (by omega)).mono ?_; rintro e w1 ⟨v1, rfl, h1, hs1⟩; have hI1 : Ints w1 v1 (idsOf a) := h1; have HX1 := Lib.hid hI1; have ht1 := (Below.refl W.heap.size W).drew.trans hs1; have hb1 := hb0.trans (ht1.mono hb0.size); have hq1 : w.heap.size + 2 ≤ W.heap.size := hz0; have hz1 := Nat.le_trans hq1 ht1.size; have hkA1 := box_keep hkA0 ht1 (Nat.lt_of_lt_of_le (by omega) hq1); have hkB1 := box_keep hkB0 ht1 (Nat.lt_of_lt_of_le (by omega) hq1)))
  go_wp2
  go_ret
  exact ⟨_, rfl, ownsRow_lower HOW5.out hb4.size, hb5⟩

set_option maxRecDepth 100000 in
set_option maxHeartbeats 4000000 in
theorem digest_Behind (cs ds : Array Value) (a b : Rm) (w : World) (hA : RmC w cs a) (hB : RmC w ds b) (ha : a.events.length ≤ 1000) (hb : b.events.length ≤ 1000) :
    Calls Try.prog 16 #[.agg cs, .agg ds] w (GivesIntB (behindU a b) w) := by
  have hRA := hA; have hRB := hB
  obtain ⟨ev, rw, wt, hd, st, rc, ty, rfl⟩ := hA.lit
  obtain ⟨ev2, rw2, wt2, hd2, st2, rc2, ty2, rfl⟩ := hB.lit
  have hkA0 := two_a w (rmLit a ev rw wt hd st rc ty) (rmLit b ev2 rw2 wt2 hd2 st2 rc2 ty2) 30
  have hkB0 := two_b w (rmLit a ev rw wt hd st rc ty) (rmLit b ev2 rw2 wt2 hd2 st2 rc2 ty2) 30
  have hb0 := box2_below w (.cells (rmLit a ev rw wt hd st rc ty) 30) (.cells (rmLit b ev2 rw2 wt2 hd2 st2 rc2 ty2) 30)
  have hz0 := Nat.le_of_eq (two_size w (.cells (rmLit a ev rw wt hd st rc ty) 30) (.cells (rmLit b ev2 rw2 wt2 hd2 st2 rc2 ty2) 30)).symm
  have la := idsOf_length a; have lb := idsOf_length b
  have lab := minusU_length (idsOf a) (idsOf b); have lba := minusU_length (idsOf b) (idsOf a)
  clear hA hB
  go_enter Try.func16, Try.ntmps16
  go_wp2_with fail
  generalize hW : (w.alloc (.cells (rmLit a ev rw wt hd st rc ty) 30)).alloc (.cells (rmLit b ev2 rw2 wt2 hd2 st2 rc2 ty2) 30) = W at *
  go_region_held3 (fun w' => (∀ k, w'.cell? ⟨w.heap.size, k, none⟩ = (rmLit a ev rw wt hd st rc ty)[k]?) ∧ (∀ k, w'.cell? ⟨w.heap.size + 1, k, none⟩ = (rmLit b ev2 rw2 wt2 hd2 st2 rc2 ty2)[k]?))
    (first | exact ⟨hkA3, hkB3⟩ | exact ⟨hkA2, hkB2⟩ | exact ⟨hkA1, hkB1⟩ | exact ⟨hkA0, hkB0⟩)
    (first
      | (go_at_call 33; refine (num_Minus _ _ _ _ _ HX1_2.out HX2.out (by omega) (by omega)).mono ?_; rintro e w3 ⟨v3, rfl, h3, hs3⟩; have hI3 : Ints w3 v3 (minusU (idsOf b) (idsOf a)) := ints_of_owns h3; have HX3 := Lib.hid hI3; obtain ⟨a3, c3, rfl, -, -, -, -⟩ := hI3; have HOW3 := Lib.hid h3; have ht3 := hs3; have hb3 := hb2.trans (ht3.mono hb2.size); have hq3 : w.heap.size + 2 ≤ w2.heap.size := hz2; have hz3 := Nat.le_trans hq3 ht3.size; have hkA3 := box_keep hkA2 ht3 (Nat.lt_of_lt_of_le (by omega) hq3); have hkB3 := box_keep hkB2 ht3 (Nat.lt_of_lt_of_le (by omega) hq3); have HX1_3 := Lib.hid (HX1_2.out.below IntC.mono ht3); have HX2_3 := Lib.hid (HX2.out.below IntC.mono ht3))
      | (go_at_call 31; refine (digest_ids _ a _ (hRA.below' hb1) (by omega)).mono ?_; rintro e w2 ⟨v2, rfl, h2, hs2⟩; have hI2 : Ints w2 v2 (idsOf a) := ints_of_owns h2; have HX2 := Lib.hid hI2; have HOW2 := Lib.hid h2; have ht2 := hs2; have hb2 := hb1.trans (ht2.mono hb1.size); have hq2 : w.heap.size + 2 ≤ w1.heap.size := hz1; have hz2 := Nat.le_trans hq2 ht2.size; have hkA2 := box_keep hkA1 ht2 (Nat.lt_of_lt_of_le (by omega) hq2); have hkB2 := box_keep hkB1 ht2 (Nat.lt_of_lt_of_le (by omega) hq2); have HX1_2 := Lib.hid (HX1.out.below IntC.mono ht2))
      | (go_at_call 31; refine (digest_ids _ b _ (hRB.below' hb0.drew) (by omega)).mono ?_; rintro e w1 ⟨v1, rfl, h1, hs1⟩; have hI1 : Ints w1 v1 (idsOf b) := ints_of_owns h1; have HX1 := Lib.hid hI1; have HOW1 := Lib.hid h1; have ht1 := (Below.refl W.heap.size W).drew.trans hs1; have hb1 := hb0.trans (ht1.mono hb0.size); have hq1 : w.heap.size + 2 ≤ W.heap.size := hz0; have hz1 := Nat.le_trans hq1 ht1.size; have hkA1 := box_keep hkA0 ht1 (Nat.lt_of_lt_of_le (by omega) hq1); have hkB1 := box_keep hkB0 ht1 (Nat.lt_of_lt_of_le (by omega) hq1)))
  go_wp2
  go_ret
  exact ⟨rfl, hb3⟩

set_option maxRecDepth 100000 in
set_option maxHeartbeats 4000000 in
theorem r54_Behind (cs ds : Array Value) (a b : Rm) (w : World) (hA : RmC w cs a) (hB : RmC w ds b) (ha : a.events.length ≤ 1000) (hb : b.events.length ≤ 1000) :
    Calls Try.prog 17 #[.agg cs, .agg ds] w (GivesIntB (behindU a b) w) := by
  have hRA := hA; have hRB := hB
  obtain ⟨ev, rw, wt, hd, st, rc, ty, rfl⟩ := hA.lit
  obtain ⟨ev2, rw2, wt2, hd2, st2, rc2, ty2, rfl⟩ := hB.lit
  have hkA0 := two_a w (rmLit a ev rw wt hd st rc ty) (rmLit b ev2 rw2 wt2 hd2 st2 rc2 ty2) 30
  have hkB0 := two_b w (rmLit a ev rw wt hd st rc ty) (rmLit b ev2 rw2 wt2 hd2 st2 rc2 ty2) 30
  have hb0 := box2_below w (.cells (rmLit a ev rw wt hd st rc ty) 30) (.cells (rmLit b ev2 rw2 wt2 hd2 st2 rc2 ty2) 30)
  have hz0 := Nat.le_of_eq (two_size w (.cells (rmLit a ev rw wt hd st rc ty) 30) (.cells (rmLit b ev2 rw2 wt2 hd2 st2 rc2 ty2) 30)).symm
  have la := idsOf_length a; have lb := idsOf_length b
  have lab := minusU_length (idsOf a) (idsOf b); have lba := minusU_length (idsOf b) (idsOf a)
  clear hA hB
  go_enter Try.func17, Try.ntmps17
  go_wp2_with fail
  generalize hW : (w.alloc (.cells (rmLit a ev rw wt hd st rc ty) 30)).alloc (.cells (rmLit b ev2 rw2 wt2 hd2 st2 rc2 ty2) 30) = W at *
  go_region_held3 (fun w' => (∀ k, w'.cell? ⟨w.heap.size, k, none⟩ = (rmLit a ev rw wt hd st rc ty)[k]?) ∧ (∀ k, w'.cell? ⟨w.heap.size + 1, k, none⟩ = (rmLit b ev2 rw2 wt2 hd2 st2 rc2 ty2)[k]?))
    (first | exact ⟨hkA3, hkB3⟩ | exact ⟨hkA2, hkB2⟩ | exact ⟨hkA1, hkB1⟩ | exact ⟨hkA0, hkB0⟩)
    (first
      | (go_at_call 34; refine (r01_Minus _ _ _ _ _ HX1_2.out HX2.out (by omega)).mono ?_; rintro e w3 ⟨v3, rfl, h3, hs3⟩; have hI3 : Ints w3 v3 (minusU (idsOf b) (idsOf a)) := ints_of_owns h3; have HX3 := Lib.hid hI3; obtain ⟨a3, c3, rfl, -, -, -, -⟩ := hI3; have HOW3 := Lib.hid h3; have ht3 := hs3; have hb3 := hb2.trans (ht3.mono hb2.size); have hq3 : w.heap.size + 2 ≤ w2.heap.size := hz2; have hz3 := Nat.le_trans hq3 ht3.size; have hkA3 := box_keep hkA2 ht3 (Nat.lt_of_lt_of_le (by omega) hq3); have hkB3 := box_keep hkB2 ht3 (Nat.lt_of_lt_of_le (by omega) hq3); have HX1_3 := Lib.hid (HX1_2.out.below IntC.mono ht3); have HX2_3 := Lib.hid (HX2.out.below IntC.mono ht3))
      | (go_at_call 35; refine (r54_ids _ a _ (hRA.below' hb1) (by omega)).mono ?_; rintro e w2 ⟨v2, rfl, h2, hs2⟩; have hI2 : Ints w2 v2 (idsOf a) := h2; have HX2 := Lib.hid hI2; have ht2 := hs2; have hb2 := hb1.trans (ht2.mono hb1.size); have hq2 : w.heap.size + 2 ≤ w1.heap.size := hz1; have hz2 := Nat.le_trans hq2 ht2.size; have hkA2 := box_keep hkA1 ht2 (Nat.lt_of_lt_of_le (by omega) hq2); have hkB2 := box_keep hkB1 ht2 (Nat.lt_of_lt_of_le (by omega) hq2); have HX1_2 := Lib.hid (HX1.out.below IntC.mono ht2))
      | (go_at_call 35; refine (r54_ids _ b _ (hRB.below' hb0.drew) (by omega)).mono ?_; rintro e w1 ⟨v1, rfl, h1, hs1⟩; have hI1 : Ints w1 v1 (idsOf b) := h1; have HX1 := Lib.hid hI1; have ht1 := (Below.refl W.heap.size W).drew.trans hs1; have hb1 := hb0.trans (ht1.mono hb0.size); have hq1 : w.heap.size + 2 ≤ W.heap.size := hz0; have hz1 := Nat.le_trans hq1 ht1.size; have hkA1 := box_keep hkA0 ht1 (Nat.lt_of_lt_of_le (by omega) hq1); have hkB1 := box_keep hkB0 ht1 (Nat.lt_of_lt_of_le (by omega) hq1)))
  go_wp2
  go_ret
  exact ⟨rfl, hb3⟩

set_option maxRecDepth 100000 in
set_option maxHeartbeats 4000000 in
theorem digest_Same (cs ds : Array Value) (a b : Rm) (w : World) (hA : RmC w cs a) (hB : RmC w ds b) (ha : a.events.length ≤ 1000) (hb : b.events.length ≤ 1000) :
    Calls Try.prog 18 #[.agg cs, .agg ds] w (GivesBoolB (sameU a b) w) := by
  have hRA := hA; have hRB := hB
  obtain ⟨ev, rw, wt, hd, st, rc, ty, rfl⟩ := hA.lit
  obtain ⟨ev2, rw2, wt2, hd2, st2, rc2, ty2, rfl⟩ := hB.lit
  have hkA0 := two_a w (rmLit a ev rw wt hd st rc ty) (rmLit b ev2 rw2 wt2 hd2 st2 rc2 ty2) 30
  have hkB0 := two_b w (rmLit a ev rw wt hd st rc ty) (rmLit b ev2 rw2 wt2 hd2 st2 rc2 ty2) 30
  have hb0 := box2_below w (.cells (rmLit a ev rw wt hd st rc ty) 30) (.cells (rmLit b ev2 rw2 wt2 hd2 st2 rc2 ty2) 30)
  have hz0 := Nat.le_of_eq (two_size w (.cells (rmLit a ev rw wt hd st rc ty) 30) (.cells (rmLit b ev2 rw2 wt2 hd2 st2 rc2 ty2) 30)).symm
  have la := idsOf_length a; have lb := idsOf_length b
  have lab := minusU_length (idsOf a) (idsOf b); have lba := minusU_length (idsOf b) (idsOf a)
  clear hA hB
  have heq : (((differU a b).length : Int) == 0) = sameU a b := by unfold sameU; rw [Bool.eq_iff_iff]; simp
  go_enter Try.func18, Try.ntmps18
  go_wp2_with fail
  generalize hW : (w.alloc (.cells (rmLit a ev rw wt hd st rc ty) 30)).alloc (.cells (rmLit b ev2 rw2 wt2 hd2 st2 rc2 ty2) 30) = W at *
  go_wp2_with (first
      | (go_at_call 12; refine (digest_Differ _ _ a b _ (hRA.below' hb0) (hRB.below' hb0) ha hb).mono ?_; rintro e w1 ⟨v1, rfl, h1, hs1⟩; have hI1 : Ints w1 v1 (differU a b) := ints_of_owns h1; have HX1 := Lib.hid hI1; obtain ⟨a1, c1, rfl, -, -, -, -⟩ := hI1; have HOW1 := Lib.hid h1; have ht1 := hs1; have hb1 := hb0.trans (ht1.mono hb0.size); have hq1 : w.heap.size + 2 ≤ W.heap.size := hz0; have hz1 := Nat.le_trans hq1 ht1.size; have hkA1 := box_keep hkA0 ht1 (Nat.lt_of_lt_of_le (by omega) hq1); have hkB1 := box_keep hkB0 ht1 (Nat.lt_of_lt_of_le (by omega) hq1)))
  go_ret
  exact ⟨rfl, hb1⟩

set_option maxRecDepth 100000 in
set_option maxHeartbeats 4000000 in
theorem r54_Same (cs ds : Array Value) (a b : Rm) (w : World) (hA : RmC w cs a) (hB : RmC w ds b) (ha : a.events.length ≤ 1000) (hb : b.events.length ≤ 1000) :
    Calls Try.prog 19 #[.agg cs, .agg ds] w (GivesBoolB (sameU a b) w) := by
  have hRA := hA; have hRB := hB
  obtain ⟨ev, rw, wt, hd, st, rc, ty, rfl⟩ := hA.lit
  obtain ⟨ev2, rw2, wt2, hd2, st2, rc2, ty2, rfl⟩ := hB.lit
  have hkA0 := two_a w (rmLit a ev rw wt hd st rc ty) (rmLit b ev2 rw2 wt2 hd2 st2 rc2 ty2) 30
  have hkB0 := two_b w (rmLit a ev rw wt hd st rc ty) (rmLit b ev2 rw2 wt2 hd2 st2 rc2 ty2) 30
  have hb0 := box2_below w (.cells (rmLit a ev rw wt hd st rc ty) 30) (.cells (rmLit b ev2 rw2 wt2 hd2 st2 rc2 ty2) 30)
  have hz0 := Nat.le_of_eq (two_size w (.cells (rmLit a ev rw wt hd st rc ty) 30) (.cells (rmLit b ev2 rw2 wt2 hd2 st2 rc2 ty2) 30)).symm
  have la := idsOf_length a; have lb := idsOf_length b
  have lab := minusU_length (idsOf a) (idsOf b); have lba := minusU_length (idsOf b) (idsOf a)
  clear hA hB
  have heq : (((differU a b).length : Int) == 0) = sameU a b := by unfold sameU; rw [Bool.eq_iff_iff]; simp
  go_enter Try.func19, Try.ntmps19
  go_wp2_with fail
  generalize hW : (w.alloc (.cells (rmLit a ev rw wt hd st rc ty) 30)).alloc (.cells (rmLit b ev2 rw2 wt2 hd2 st2 rc2 ty2) 30) = W at *
  go_wp2_with (first
      | (go_at_call 13; refine (r54_Differ _ _ a b _ (hRA.below' hb0) (hRB.below' hb0) ha hb).mono ?_; rintro e w1 ⟨v1, rfl, h1, hs1⟩; have hI1 : Ints w1 v1 (differU a b) := h1; have HX1 := Lib.hid hI1; obtain ⟨a1, c1, rfl, -, -, -, -⟩ := hI1; have ht1 := hs1; have hb1 := hb0.trans (ht1.mono hb0.size); have hq1 : w.heap.size + 2 ≤ W.heap.size := hz0; have hz1 := Nat.le_trans hq1 ht1.size; have hkA1 := box_keep hkA0 ht1 (Nat.lt_of_lt_of_le (by omega) hq1); have hkB1 := box_keep hkB0 ht1 (Nat.lt_of_lt_of_le (by omega) hq1)))
  go_ret
  exact ⟨rfl, hb1⟩

end Go.Proofs.Ytdhhcmdofnjhiaa
