/- What the digest of a room is, in the program. Condition: the room is small. -/
import Derived.Test.YtdhhcmdofnjhiaaRoomL
namespace Go.Proofs.Ytdhhcmdofnjhiaa
open Go.RowKit

theorem Try.sizeEnt : (Try.prog.info? 47).map (·.size) = some 3 := by kernel_rfl
theorem nilBytes (w : World) : Bytes w (.slice none 0 0) [] := ⟨none, 0, rfl, Nat.le_refl _, by simp [maxLen], fun _ => rfl, fun i hi => by simp at hi⟩
def entCells (x : Ent) : Array Value := #[.int .i64 x.kind, .string x.key, .int .i64 x.id]

set_option maxRecDepth 100000 in
set_option maxHeartbeats 2000000 in
theorem digest_Room (cs : Array Value) (r : Rm) (w : World) (h : RmC w cs r) (hs : SmallRm r) :
    Calls Try.prog 8 #[.agg cs] w (GivesIntB (sumB (roomBytes r)) w) := by
  have hR := h
  obtain ⟨ev, rw, wt, hd, st, rc, ty, L⟩ := h.at
  have c0 := L.c0; have c1 := L.c1; have c5 := L.c5
  have hev := L.ev; have hst := L.st; have hev0 := L.ev; have hst0 := L.st
  have HSZ := Lib.hid L.size
  clear L h
  obtain ⟨a, c, rfl, -, -, -, -⟩ := hev
  obtain ⟨a5, l5, rfl, -, -, -, -⟩ := hst
  have b1 := hs.ev; have b2 := hs.st; have b3 := hs.id
  have hb0 : Below w.heap.size w (w.alloc (.cells cs 30)) := (Below.refl _ _).alloc (Nat.le_refl _) _
  have hk0 := box_all w cs 30
  have hw0 : (w.alloc (.cells cs 30)).heap.size = w.heap.size + 1 := by simp
  have HW := Lib.hid hw0; clear hw0
  go_enter Try.func8, Try.ntmps8
  go_wp2_with fail
  refine (codec_PutText _ [] r.id _ (nilBytes _) (by simp) (by omega)).mono ?_
  rintro e w1 ⟨v1, rfl, h1, hb1⟩
  rw [HW.out] at hb1
  have HV1 := Lib.hid h1.read
  have hk1 := box_keep hk0 hb1 (Nat.lt_succ_self _)
  have hs1 : w.heap.size + 1 ≤ w1.heap.size := by have := hb1.size; rw [HW.out] at this; exact this
  clear h1 hk0
  have hl1 := encText_length r.id
  go_wp2_with fail
  refine (codec_PutInt _ _ r.events.length _ HV1.out (by simp; omega)).mono ?_
  rintro e w2 ⟨v2, rfl, h2, hb2⟩
  have hb2' := hb1.trans (hb2.mono hs1)
  have hv2 : Bytes w2 v2 (evTo r 0) := by rw [evTo_zero]; simpa using h2.read
  have HV2 := Lib.hid hv2
  have hk2 := box_keep hk1 (hb2.mono hs1) (Nat.lt_succ_self _)
  clear h2 hk1 hv2 hl1
  go_wp2
  have hbW : Below (w.heap.size + 1) (w.alloc (.cells cs 30)) w2 := hb2'
  clear hb1 hb2 hb2' hk2
  go_loopw [3, 19] (fun v i wr => ∃ k : Nat, k ≤ r.events.length ∧ i = .int .i64 k ∧ Bytes wr v (evTo r k) ∧ Below (w.heap.size + 1) (w.alloc (.cells cs 30)) wr) (fun _ i _ => r.events.length - (intOf i).toNat)
  case atStart => exact ⟨0, Nat.zero_le _, rfl, HV2.out, hbW⟩
  case round =>
    obtain ⟨k, hk, rfl, hv, hb⟩ := hrel
    have HV := Lib.hid hv; clear hv
    have hlen := evTo_length r hs k hk
    have hsr : w.heap.size + 1 ≤ wr.heap.size := by have := hb.size; rw [HW.out] at this; exact this
    have hkr := box_keep (box_all w cs 30) hb (Nat.lt_succ_self _)
    by_cases hlt : k < r.events.length
    · obtain ⟨b, o, es, rfl, hsz, hone, hcell, hRe⟩ := (hev0.below EvC.mono (below_box hb)).ev hlt
      have hid0 := ev_id hRe
      have HS := Lib.hid (evTo_succ r k hlt)
      have HC := Lib.hid hcell; have HZ := Lib.hid hsz
      have hbox := box_all wr es 65
      have hb3 := hb.alloc hsr (.cells es 65)
      have hws : (wr.alloc (.cells es 65)).heap.size = wr.heap.size + 1 := by simp
      have HWS := Lib.hid hws
      have HV3 := Lib.hid (HV.out.below BytC.mono ((Below.refl _ _).alloc (Nat.le_refl _) (.cells es 65)))
      clear hcell hsz hRe hws
      go_wp2_with (first
        | ((with_reducible show wpList _ _ _ (⟨some 22, _, _, _, _, _⟩ :: _) _ _); refine wpList_load_agg rfl _ _ rfl b (o + k * 29) rfl es 29 Try.isAgg65 Try.sizeOf65 HZ.out HC.out ?_)
        | ((with_reducible show wpList _ _ _ (⟨none, .store 65 _ _, _, _, _, _⟩ :: _) _ _); refine wpList_store_new rfl _ _ _ rfl wr 65 _ es rfl _ rfl rfl rfl 29 Try.sizeEv HZ.out rfl hone ?_)
        | fail)
      refine (codec_PutInt _ _ r.events[k].id _ HV3.out (by omega)).mono ?_
      rintro e w4 ⟨v4, rfl, h4, hb4⟩
      rw [HWS.out] at hb4
      have HV4 := Lib.hid h4.read
      have hbox4 := box_keep hbox hb4 (Nat.lt_succ_self _)
      have hb5 := hb3.trans (hb4.mono (by omega))
      have hs4 : wr.heap.size + 1 ≤ w4.heap.size := by have := hb4.size; rw [HWS.out] at this; exact this
      have hk4 := box_keep (box_all w cs 30) hb5 (Nat.lt_succ_self _)
      have HA4 := Lib.hid (agg_of_keep hk4 HSZ.out)
      have hR4 : RmC w4 cs r := hR.below' (below_box hb5)
      clear h4 hb4 hbox hkr hk4
      go_wp2_with (first
        | ((with_reducible show wpList _ _ _ (⟨some 28, _, _, _, _, _⟩ :: _) _ _); refine wpList_load_agg rfl _ _ rfl w.heap.size 0 rfl cs 9 Try.isAgg30 Try.sizeOf30 HSZ.out HA4.out ?_)
        | fail)
      refine (digest_verdict cs r r.events[k].id _ hR4).mono ?_
      rintro e w5 ⟨rfl, hb6⟩
      have HV5 := Lib.hid (HV4.out.below BytC.mono hb6)
      have hb7 := hb5.trans (hb6.mono (by omega))
      have hs5 : wr.heap.size + 1 ≤ w5.heap.size := Nat.le_trans hs4 hb6.size
      clear hb6 hbox4 hR4
      go_wp2_with fail
      refine (codec_PutInt _ _ _ _ HV5.out (by rw [List.length_append]; have := enc_length r.events[k].id; omega)).mono ?_
      rintro e w6 ⟨v6, rfl, h6, hb8⟩
      have HV6 := Lib.hid h6.read
      have hb9 := hb7.trans (hb8.mono (by omega))
      clear h6 hb8
      go_wp2
      go_roundw
      case rel => exact ⟨k + 1, by omega, by go_num, by rw [HS.out]; exact HV6.out, hb9⟩
      case measure => simp [intOf]; omega
    · have hkn : k = r.events.length := by omega
      subst hkn
      clear hlt hk
      go_wp2_with fail
      refine (codec_PutInt _ _ r.state.length _ HV.out (by omega)).mono ?_
      rintro e w4 ⟨v4, rfl, h4, hb4⟩
      have hv4 : Bytes w4 v4 (stTo r 0) := by rw [stTo_zero]; exact h4.read
      have HV4 := Lib.hid hv4
      have hb5 := hb.trans (hb4.mono hsr)
      have hk4 := box_keep (box_all w cs 30) hb5 (Nat.lt_succ_self _)
      clear h4 hb4 hv4 hkr
      go_wp2
      clear hk4
      go_loopw [3, 42] (fun v i wr => ∃ k : Nat, k ≤ r.state.length ∧ i = .int .i64 k ∧ Bytes wr v (stTo r k) ∧ Below (w.heap.size + 1) (w.alloc (.cells cs 30)) wr) (fun _ i _ => r.state.length - (intOf i).toNat)
      case atStart => exact ⟨0, Nat.zero_le _, rfl, HV4.out, hb5⟩
      case round =>
        obtain ⟨k, hk, rfl, hv, hb⟩ := hrel
        have HV := Lib.hid hv; clear hv
        have hlen := stTo_length r hs k hk
        have hsr2 : w.heap.size + 1 ≤ wr.heap.size := by have := hb.size; rw [HW.out] at this; exact this
        by_cases hlt : k < r.state.length
        · obtain ⟨b, o, es, rfl, hsz, hone, hcell, hRe⟩ := (hst0.below EntC.mono (below_box hb)).ev hlt
          have hes : es = entCells r.state[k] := hRe
          subst hes
          have d0 : (entCells r.state[k])[0]? = some (.int .i64 r.state[k].kind) := rfl
          have d1 : (entCells r.state[k])[1]? = some (.string r.state[k].key) := rfl
          have d2 : (entCells r.state[k])[2]? = some (.int .i64 r.state[k].id) := rfl
          have hkey := hs.key _ (List.getElem_mem hlt)
          have HS := Lib.hid (stTo_succ r k hlt)
          have HC := Lib.hid hcell
          have hbox := box_all wr (entCells r.state[k]) 47
          have hb3 := hb.alloc hsr2 (.cells (entCells r.state[k]) 47)
          have hws : (wr.alloc (.cells (entCells r.state[k]) 47)).heap.size = wr.heap.size + 1 := by simp
          have HWS := Lib.hid hws
          have HV3 := Lib.hid (HV.out.below BytC.mono ((Below.refl _ _).alloc (Nat.le_refl _) (.cells (entCells r.state[k]) 47)))
          clear hcell hsz hRe hws
          go_wp2_with (first
            | ((with_reducible show wpList _ _ _ (⟨some 45, _, _, _, _, _⟩ :: _) _ _); refine wpList_load_agg rfl _ _ rfl b (o + k * 3) rfl (entCells r.state[k]) 3 Try.isAgg47 Try.sizeOf47 rfl HC.out ?_)
            | ((with_reducible show wpList _ _ _ (⟨none, .store 47 _ _, _, _, _, _⟩ :: _) _ _); refine wpList_store_new rfl _ _ _ rfl wr 47 _ (entCells r.state[k]) rfl _ rfl rfl rfl 3 Try.sizeEnt rfl rfl hone ?_)
            | fail)
          refine (codec_PutInt _ _ r.state[k].kind _ HV3.out (by omega)).mono ?_
          rintro e w4 ⟨v4, rfl, h4, hb4⟩
          rw [HWS.out] at hb4
          have HV4 := Lib.hid h4.read
          have hbox4 := box_keep hbox hb4 (Nat.lt_succ_self _)
          have hb5 := hb3.trans (hb4.mono (by omega))
          have hs4 : wr.heap.size + 1 ≤ w4.heap.size := by have := hb4.size; rw [HWS.out] at this; exact this
          have l1 := enc_length r.state[k].kind
          have l2 := encText_length r.state[k].key
          clear h4 hb4 hbox
          go_wp2_with fail
          refine (codec_PutText _ _ r.state[k].key _ HV4.out (by rw [List.length_append]; omega) (by omega)).mono ?_
          rintro e w5 ⟨v5, rfl, h5, hb6⟩
          have HV5 := Lib.hid h5.read
          have hbox5 := box_keep hbox4 (hb6.mono hs4) (Nat.lt_succ_self _)
          have hb7 := hb5.trans (hb6.mono (by omega))
          have hs5 : wr.heap.size + 1 ≤ w5.heap.size := Nat.le_trans hs4 hb6.size
          clear h5 hb6 hbox4
          go_wp2_with fail
          refine (codec_PutInt _ _ r.state[k].id _ HV5.out (by rw [List.length_append, List.length_append]; omega)).mono ?_
          rintro e w6 ⟨v6, rfl, h6, hb8⟩
          have HV6 := Lib.hid h6.read
          have hb9 := hb7.trans (hb8.mono (by omega))
          clear h6 hb8 hbox5
          go_wp2
          go_roundw
          case rel => exact ⟨k + 1, by omega, by go_num, by rw [HS.out]; exact HV6.out, hb9⟩
          case measure => simp [intOf]; omega
        · have hkn : k = r.state.length := by omega
          subst hkn
          clear hlt hk
          go_wp2_with fail
          refine (sums_Sum _ _ _ HV.out).mono ?_
          rintro e w4 ⟨rfl, rfl⟩
          go_wp2
          go_ret
          exact ⟨rfl, below_box hb⟩
end Go.Proofs.Ytdhhcmdofnjhiaa
