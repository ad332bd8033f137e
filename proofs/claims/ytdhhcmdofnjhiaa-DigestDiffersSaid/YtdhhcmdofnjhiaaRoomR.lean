/- What the digest of a room is, in the reference. Condition: the room is small. -/
import Derived.Test.YtdhhcmdofnjhiaaRoom
import Derived.Deep.RegionHeld3
namespace Go.Proofs.Ytdhhcmdofnjhiaa
open Go.RowKit

set_option maxRecDepth 100000 in
set_option maxHeartbeats 2000000 in
theorem r54_Room (cs : Array Value) (r : Rm) (w : World) (h : RmC w cs r) (hs : SmallRm r) :
    Calls Try.prog 9 #[.agg cs] w (GivesIntB (sumB (roomBytes r)) w) := by
  have hR := h
  obtain ⟨ev, rw, wt, hd, st, rc, ty, L⟩ := h.at
  have c0 := L.c0; have c1 := L.c1; have c2 := L.c2; have c3 := L.c3; have c4 := L.c4; have c5 := L.c5; have c6 := L.c6; have c7 := L.c7; have c8 := L.c8
  have hev := L.ev; have hst := L.st; have hev0 := L.ev; have hst0 := L.st
  have HSZ := Lib.hid L.size
  have hcs : cs = #[.string r.id, ev, rw, wt, hd, st, .int .i64 r.next, rc, ty] := by
    apply Array.ext (by rw [HSZ.out]; rfl)
    intro i h1 h2
    have h1' : i < 9 := by rw [← HSZ.out]; exact h1
    have hk : i = 0 ∨ i = 1 ∨ i = 2 ∨ i = 3 ∨ i = 4 ∨ i = 5 ∨ i = 6 ∨ i = 7 ∨ i = 8 := by omega
    rcases hk with rfl | rfl | rfl | rfl | rfl | rfl | rfl | rfl | rfl <;> (refine Option.some.inj ?_; rw [← Array.getElem?_eq_getElem h1, ← Array.getElem?_eq_getElem h2]; first | exact c0 | exact c1 | exact c2 | exact c3 | exact c4 | exact c5 | exact c6 | exact c7 | exact c8)
  have HCS := Lib.hid hcs
  clear L h hcs
  obtain ⟨a, c, rfl, -, -, -, -⟩ := hev
  obtain ⟨a5, l5, rfl, -, -, -, -⟩ := hst
  have b1 := hs.ev; have b2 := hs.st; have b3 := hs.id
  have hb0 : Below w.heap.size w (w.alloc (.cells cs 30)) := (Below.refl _ _).alloc (Nat.le_refl _) _
  have hk0 := box_all w cs 30
  have hw0 : (w.alloc (.cells cs 30)).heap.size = w.heap.size + 1 := by simp
  have HW := Lib.hid hw0; clear hw0
  go_enter Try.func9, Try.ntmps9
  go_wp2_with fail
  refine (r05_PutText _ [] r.id _ (nilBytes _) (by simp) (by omega)).mono ?_
  rintro e w1 ⟨v1, rfl, h1, hb1⟩
  rw [HW.out] at hb1
  have HV1 := Lib.hid h1.read
  have hk1 := box_keep hk0 hb1 (Nat.lt_succ_self _)
  have hs1 : w.heap.size + 1 ≤ w1.heap.size := by have := hb1.size; rw [HW.out] at this; exact this
  clear h1 hk0
  have hl1 := encText_length r.id
  go_wp2_with fail
  refine (r05_PutInt _ _ r.events.length _ HV1.out (by simp; omega)).mono ?_
  rintro e w2 ⟨v2, rfl, h2, hb2⟩
  have hb2' := hb1.trans (hb2.mono hs1)
  have hv2 : Bytes w2 v2 (evTo r 0) := by rw [evTo_zero]; simpa using h2.read
  have HV2 := Lib.hid hv2
  clear h2 hk1 hv2 hl1
  go_wp2
  have hbW : Below (w.heap.size + 1) (w.alloc (.cells cs 30)) w2 := hb2'
  clear hb1 hb2 hb2'
  go_loopw [3, 4] (fun v i wr => ∃ k : Nat, k ≤ r.events.length ∧ i = .int .i64 k ∧ Bytes wr v (evTo r k) ∧ Below (w.heap.size + 1) (w.alloc (.cells cs 30)) wr) (fun _ i _ => r.events.length - (intOf i).toNat)
  case atStart => exact ⟨0, Nat.zero_le _, rfl, HV2.out, hbW⟩
  case round =>
    obtain ⟨k, hk, rfl, hv, hb⟩ := hrel
    have HV := Lib.hid hv; clear hv
    have hlen := evTo_length r hs k hk
    have hsr : w.heap.size + 1 ≤ wr.heap.size := by have := hb.size; rw [HW.out] at this; exact this
    have hkr := box_keep (box_all w cs 30) hb (Nat.lt_succ_self _)
    by_cases hlt : k < r.events.length
    · obtain ⟨b, o, es, rfl, hsz, hone, hcell, hRe⟩ := (hev0.below EvC.mono (below_box hb)).ev hlt
      have hid0 := ev_id hRe
      have HS := Lib.hid (evTo_succ r k hlt)
      have hc0 := hcell 0 (by omega)
      have e0 : es.getD 0 undef = .int .i64 r.events[k].id := by
        have hlt0 : 0 < es.size := by omega
        simp [Array.getD, hlt0] at hid0 ⊢; exact hid0
      rw [e0, Nat.add_zero] at hc0
      have hblt := World.block_lt_of_cell? wr _ hc0
      clear hcell hsz hone hRe hid0 e0
      go_wp2_with fail
      refine (r05_PutInt _ _ r.events[k].id _ HV.out (by omega)).mono ?_
      rintro e w4 ⟨v4, rfl, h4, hb4⟩
      have HV4 := Lib.hid h4.read
      have hb5 := hb.trans (hb4.mono hsr)
      have hk4 := box_keep (box_all w cs 30) hb5 (Nat.lt_succ_self _)
      have hc4 : w4.cell? ⟨b, o + k * 29, none⟩ = some (.int .i64 r.events[k].id) := (hb4.cell (p := ⟨b, o + k * 29, none⟩) hblt).trans hc0
      have hR4 : RmC w4 #[.string r.id, .slice (some ⟨b, o, none⟩) r.events.length c, rw, wt, hd, .slice a5 r.state.length l5, .int .i64 r.next, rc, ty] r := by rw [← HCS.out]; exact hR.below' (below_box hb5)
      have hR5 := hR4.below' (Below.refl w4.heap.size w4).drew
      have i0 : (0 : Int) ≤ (k : Int) := Int.natCast_nonneg _
      have i1 : (k : Int) < (r.events.length : Int) := by omega
      have hs4 : w.heap.size + 1 ≤ w4.heap.size := Nat.le_trans hsr (by have := hb4.size; exact this)
      have hblt4 := World.block_lt_of_cell? w4 _ hc4
      clear h4 hb4 hkr hc0
      go_wp2_with fail
      go_region_held3 (fun w' => (∀ j, w'.cell? ⟨w.heap.size, j, none⟩ = cs[j]?) ∧ w'.cell? ⟨b, o + k * 29, none⟩ = some (.int .i64 r.events[k].id))
        (first | exact ⟨hk4, hc4⟩ | exact ⟨hk5, hc5⟩ | exact ⟨hk6, hc6⟩)
        (first
          | (go_at_call 29; refine (r54_verdict _ r r.events[k].id _ hR5).mono ?_; rintro e w5 ⟨rfl, hb60⟩; have hb6 := (Below.refl w4.heap.size w4).drew.trans hb60; have HV6 := Lib.hid (HV4.out.below BytC.mono hb6); have hk5 := box_keep hk4 (hb6.mono hs4) (Nat.lt_succ_self _); have hc5 := (hb6.cell (p := ⟨b, o + k * 29, none⟩) hblt4).trans hc4; have hb7 := hb5.trans (hb6.mono hs4); have hs5 := Nat.le_trans hs4 hb6.size; have hblt5 := World.block_lt_of_cell? w5 _ hc5)
          | (go_at_call 28; refine (r05_PutInt _ _ _ _ HV6.out (by rw [List.length_append]; have := enc_length r.events[k].id; omega)).mono ?_; rintro e w6 ⟨v6, rfl, h6, hb8⟩; have HV7 := Lib.hid h6.read; have hk6 := box_keep hk5 (hb8.mono hs5) (Nat.lt_succ_self _); have hc6 := (hb8.cell (p := ⟨b, o + k * 29, none⟩) hblt5).trans hc5; have hb9 := hb7.trans (hb8.mono hs5)))
      all_goals
        clear h6
        go_wp2
        go_roundw
        case rel => exact ⟨k + 1, by omega, by go_num, by rw [HS.out]; exact HV7.out, hb9⟩
        case measure => simp [intOf]; omega
    · have hkn : k = r.events.length := by omega
      subst hkn
      clear hlt hk
      go_wp2_with fail
      refine (r05_PutInt _ _ r.state.length _ HV.out (by omega)).mono ?_
      rintro e w4 ⟨v4, rfl, h4, hb4⟩
      have hv4 : Bytes w4 v4 (stTo r 0) := by rw [stTo_zero]; exact h4.read
      have HV4 := Lib.hid hv4
      have hb5 := hb.trans (hb4.mono hsr)
      clear h4 hb4 hv4 hkr
      go_wp2
      go_loopw [3, 5] (fun v i wr => ∃ k : Nat, k ≤ r.state.length ∧ i = .int .i64 k ∧ Bytes wr v (stTo r k) ∧ Below (w.heap.size + 1) (w.alloc (.cells cs 30)) wr) (fun _ i _ => r.state.length - (intOf i).toNat)
      case atStart => exact ⟨0, Nat.zero_le _, rfl, HV4.out, hb5⟩
      case round =>
        obtain ⟨k, hk, rfl, hv, hb⟩ := hrel
        have HV := Lib.hid hv; clear hv
        have hlen := stTo_length r hs k hk
        have hsr2 : w.heap.size + 1 ≤ wr.heap.size := by have := hb.size; rw [HW.out] at this; exact this
        have hkr := box_keep (box_all w cs 30) hb (Nat.lt_succ_self _)
        by_cases hlt : k < r.state.length
        · obtain ⟨b, o, es, rfl, hsz, hone, hcell, hRe⟩ := (hst0.below EntC.mono (below_box hb)).ev hlt
          have hes : es = entCells r.state[k] := hRe
          subst hes
          have d0 : wr.cell? ⟨b, o + k * 3, none⟩ = some (.int .i64 r.state[k].kind) := hcell 0 (by omega)
          have d1 : wr.cell? ⟨b, o + k * 3 + 1, none⟩ = some (.string r.state[k].key) := hcell 1 (by omega)
          have d2 : wr.cell? ⟨b, o + k * 3 + 2, none⟩ = some (.int .i64 r.state[k].id) := hcell 2 (by omega)
          have hblt : b < wr.heap.size := World.block_lt_of_cell? wr _ d0
          have hkey := hs.key _ (List.getElem_mem hlt)
          have HS := Lib.hid (stTo_succ r k hlt)
          clear hcell hsz hone hRe
          go_wp2_with fail
          refine (r05_PutInt _ _ r.state[k].kind _ HV.out (by omega)).mono ?_
          rintro e w4 ⟨v4, rfl, h4, hb4⟩
          have HV4 := Lib.hid h4.read
          have d1' := (hb4.cell (p := ⟨b, o + k * 3 + 1, none⟩) hblt).trans d1
          have d2' := (hb4.cell (p := ⟨b, o + k * 3 + 2, none⟩) hblt).trans d2
          have hk4 := box_keep hkr (hb4.mono hsr2) (Nat.lt_succ_self _)
          have hb5 := hb.trans (hb4.mono hsr2)
          have hs4 := Nat.le_trans hsr2 hb4.size
          have hblt4 := Nat.lt_of_lt_of_le hblt hb4.size
          have l1 := enc_length r.state[k].kind
          have l2 := encText_length r.state[k].key
          clear h4 hb4 d0 d1 d2 hkr
          go_wp2_with fail
          refine (r05_PutText _ _ r.state[k].key _ HV4.out (by rw [List.length_append]; omega) (by omega)).mono ?_
          rintro e w5 ⟨v5, rfl, h5, hb6⟩
          have HV5 := Lib.hid h5.read
          have d2'' := (hb6.cell (p := ⟨b, o + k * 3 + 2, none⟩) hblt4).trans d2'
          have hk5 := box_keep hk4 (hb6.mono hs4) (Nat.lt_succ_self _)
          have hb7 := hb5.trans (hb6.mono hs4)
          have hs5 := Nat.le_trans hs4 hb6.size
          clear h5 hb6 d1' d2' hk4
          go_wp2_with fail
          refine (r05_PutInt _ _ r.state[k].id _ HV5.out (by rw [List.length_append, List.length_append]; omega)).mono ?_
          rintro e w6 ⟨v6, rfl, h6, hb8⟩
          have HV6 := Lib.hid h6.read
          have hb9 := hb7.trans (hb8.mono hs5)
          clear h6 hb8 hk5 d2''
          go_wp2
          go_roundw
          case rel => exact ⟨k + 1, by omega, by go_num, by rw [HS.out]; exact HV6.out, hb9⟩
          case measure => simp [intOf]; omega
        · have hkn : k = r.state.length := by omega
          subst hkn
          clear hlt hk
          go_wp2_with fail
          refine (r04_Sum _ _ _ HV.out).mono ?_
          rintro e w4 ⟨rfl, rfl⟩
          go_wp2
          go_ret
          exact ⟨rfl, below_box hb⟩
end Go.Proofs.Ytdhhcmdofnjhiaa
