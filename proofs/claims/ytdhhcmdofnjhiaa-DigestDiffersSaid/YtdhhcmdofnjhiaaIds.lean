/- The ids of a room, in the program and in the reference. Condition: at most 2^30 events. -/
import Derived.Test.YtdhhcmdofnjhiaaVerd
namespace Go.Proofs.Ytdhhcmdofnjhiaa
open Go.RowKit

def evIds (l : List Ev) : List Int := l.map (·.id)
def evIdsTo (l : List Ev) (k : Nat) : List Int := (l.take k).map (·.id)
theorem evIdsTo_succ (l : List Ev) (k : Nat) (hk : k < l.length) : evIdsTo l (k + 1) = evIdsTo l k ++ [l[k].id] := by
  unfold evIdsTo; rw [List.take_succ_eq_append_getElem hk, List.map_append]; rfl
theorem evIdsTo_all (l : List Ev) : evIdsTo l l.length = evIds l := by unfold evIdsTo evIds; rw [List.take_length]
theorem evIdsTo_length (l : List Ev) (k : Nat) : (evIdsTo l k).length ≤ k := by unfold evIdsTo; rw [List.length_map]; exact List.length_take_le _ _
theorem evIds_length (l : List Ev) : (evIds l).length = l.length := by unfold evIds; simp

theorem ev_id {w : World} {cs : Array Value} {e : Ev} (h : EvC w cs e) : cs[0]? = some (.int .i64 e.id) := by
  obtain ⟨prev, auth, allow, deny, users, kinds, rfl, -⟩ := h; rfl

set_option maxRecDepth 100000 in
set_option maxHeartbeats 1000000 in
theorem r08_Ids (v : Value) (l : List Ev) (w : World) (h : Evs w v l) (hn : l.length ≤ 1073741824) :
    Calls Try.prog 21 #[v] w (GivesInts w.heap.size w (evIds l)) := by
  have h0 := h
  obtain ⟨a, c, rfl, -, -, -, -⟩ := h
  go_enter Try.func21, Try.ntmps21
  go_wp2
  go_loopw [3, 4] (fun v i wr => ∃ k : Nat, k ≤ l.length ∧ i = .int .i64 k ∧ OwnInts w.heap.size wr v (evIdsTo l k) ∧ Below w.heap.size w wr) (fun _ i _ => l.length - (intOf i).toNat)
  case atStart => exact ⟨0, Nat.zero_le _, rfl, World.ownsRow_nil _ _ _ _, Below.refl _ _⟩
  case round =>
    obtain ⟨k, hk, rfl, hown, hb⟩ := hrel
    have HO := Lib.hid hown; clear hown
    have hlen := evIdsTo_length l k
    by_cases hlt : k < l.length
    · obtain ⟨b, o, es, rfl, hsz, hone, hcell, hR⟩ := (h0.below EvC.mono hb).ev hlt
      have hid0 := ev_id hR
      have hc0 := hcell 0 (by omega)
      have e0 : es.getD 0 undef = .int .i64 l[k].id := by
        have hlt0 : 0 < es.size := by omega
        simp [Array.getD, hlt0] at hid0 ⊢; exact hid0
      rw [e0, Nat.add_zero] at hc0
      have HS := Lib.hid (evIdsTo_succ l k hlt)
      clear hcell hsz hone hid0 e0 hR
      go_wp2_with (first
        | ((with_reducible show wpList _ _ _ (⟨some 18, _, _, _, _, _⟩ :: _) _ _); refine wpList_app1 rfl _ _ 24 rfl w.heap.size 3 8 Try.appInts _ _ _ rfl wr (.int .i64 l[k].id) rfl HO.out _ rfl rfl rfl (by omega) (by omega) hb.size ?_; intro v3 w3 hown3 hbel3 _; have HO3 := Lib.hid (OwnInts.snoc hown3); have hb3 := hbel3 _ _ (Nat.le_refl _) hb; clear hown3 hbel3))
      go_roundw
      case rel => exact ⟨k + 1, by omega, by go_num, by rw [HS.out]; exact HO3.out, hb3⟩
      case measure => simp [intOf]; omega
    · have hkn : k = l.length := by omega
      subst hkn
      go_wp2
      go_ret
      exact ⟨_, rfl, by rw [← evIdsTo_all]; exact HO.out, hb⟩

set_option maxRecDepth 100000 in
set_option maxHeartbeats 1000000 in
theorem digest_ids (cs : Array Value) (r : Rm) (w : World) (h : RmC w cs r) (hn : r.events.length ≤ 1073741824) :
    Calls Try.prog 31 #[.agg cs] w (GivesInts w.heap.size w (sortU (evIds r.events))) := by
  obtain ⟨ev, rw, wt, hd, st, rc, ty, L⟩ := h.at
  have c1 := L.c1
  have h0 := L.ev
  have hev := L.ev
  clear L h
  obtain ⟨a, c, rfl, -, -, -, -⟩ := hev
  have hk0 := box_all w cs 30
  have hlen0 := evIds_length r.events
  go_enter Try.func31, Try.ntmps31
  go_wp2
  clear hk0 c1
  go_loopw [3, 9] (fun v i wr => ∃ k : Nat, k ≤ r.events.length ∧ i = .int .i64 k ∧ OwnInts (w.heap.size + 1) wr v (evIdsTo r.events k) ∧ Below (w.heap.size + 1) (w.alloc (.cells cs 30)) wr) (fun _ i _ => r.events.length - (intOf i).toNat)
  case atStart => exact ⟨0, Nat.zero_le _, rfl, World.ownsRow_nil _ _ _ _, Below.refl _ _⟩
  case round =>
    obtain ⟨k, hk, rfl, hown, hb⟩ := hrel
    have HO := Lib.hid hown; clear hown
    have hlen := evIdsTo_length r.events k
    have hsz0 : w.heap.size + 1 ≤ wr.heap.size := by have := hb.size; simpa using this
    by_cases hlt : k < r.events.length
    · obtain ⟨b, o, es, rfl, hsz, hone, hcell, hR⟩ := (h0.below EvC.mono (below_box hb)).ev hlt
      have hid0 := ev_id hR
      have HS := Lib.hid (evIdsTo_succ r.events k hlt)
      have HC := Lib.hid hcell; have HZ := Lib.hid hsz
      have hbox := box_all wr es 65
      have HO2 := Lib.hid (World.ownsRow.alloc HO.out (.cells es 65))
      have hb2 := hb.alloc hsz0 (.cells es 65)
      have hs2 : w.heap.size + 1 ≤ (wr.alloc (.cells es 65)).heap.size := by simp; omega
      have HSZ := Lib.hid hs2
      clear hcell hsz hR hs2
      go_wp2_with (first
        | ((with_reducible show wpList _ _ _ (⟨some 12, _, _, _, _, _⟩ :: _) _ _); refine wpList_load_agg rfl _ _ rfl b (o + k * 29) rfl es 29 Try.isAgg65 Try.sizeOf65 HZ.out HC.out ?_)
        | ((with_reducible show wpList _ _ _ (⟨none, .store 65 _ _, _, _, _, _⟩ :: _) _ _); refine wpList_store_new rfl _ _ _ rfl wr 65 _ es rfl _ rfl rfl rfl 29 Try.sizeEv HZ.out rfl hone ?_)
        | ((with_reducible show wpList _ _ _ (⟨some 17, _, _, _, _, _⟩ :: _) _ _); refine wpList_app1 rfl _ _ 24 rfl (w.heap.size + 1) 3 8 Try.appInts _ _ _ rfl (wr.alloc (.cells es 65)) (.int .i64 r.events[k].id) rfl HO2.out _ rfl (by simp) rfl (by omega) (by omega) HSZ.out ?_; intro v3 w3 hown3 hbel3 _; have HO3 := Lib.hid (OwnInts.snoc hown3); have hb3 := hbel3 _ _ (Nat.le_refl _) hb2; clear hown3 hbel3))
      go_roundw
      case rel => exact ⟨k + 1, by omega, by go_num, by rw [HS.out]; exact HO3.out, hb3⟩
      case measure => simp [intOf]; omega
    · have hkn : k = r.events.length := by omega
      subst hkn
      have hO := HO.out
      rw [evIdsTo_all] at hO
      have hread := ints_of_owns hO
      clear hO
      go_wp2_with fail
      refine (num_Sorted _ _ _ hread (by omega)).mono ?_
      rintro e w1 ⟨v1, rfl, h1, hb1⟩
      have HO1 := Lib.hid h1; clear h1 hread
      go_wp2
      go_ret
      exact ⟨_, rfl, ownsRow_lower HO1.out (by omega), (below_box hb).trans (hb1.mono (by omega))⟩

set_option maxHeartbeats 400000 in
theorem r54_ids (cs : Array Value) (r : Rm) (w : World) (h : RmC w cs r) (hn : r.events.length ≤ 1073741824) :
    Calls Try.prog 35 #[.agg cs] w (GivesIntsR w (sortU (evIds r.events))) := by
  obtain ⟨ev, rw, wt, hd, st, rc, ty, L⟩ := h.at
  have c1 := L.c1
  have h0 := L.ev
  clear L h
  have hb0 : Below w.heap.size w (w.alloc (.cells cs 30)) := (Below.refl _ _).alloc (Nat.le_refl _) _
  have hk0 := box_all w cs 30
  have hlen0 := evIds_length r.events
  go_enter Try.func35, Try.ntmps35
  go_wp2_with fail
  refine (r08_Ids ev _ _ (h0.below EvC.mono hb0) hn).mono ?_
  rintro e w1 ⟨v1, rfl, h1, hb1⟩
  have hread := ints_of_owns h1
  have HR := Lib.hid hread; clear h1 hread
  have hb2 := hb0.trans (hb1.mono (by simp))
  clear hk0 hb1
  go_wp2_with fail
  refine (r01_Sorted _ _ _ HR.out (by omega)).mono ?_
  rintro e w2 ⟨v2, rfl, h2, hb3⟩
  have HR2 := Lib.hid h2; clear h2
  have hb4 := hb2.trans (hb3.mono hb2.size)
  go_wp2
  go_ret
  exact ⟨_, rfl, HR2.out, hb4⟩
end Go.Proofs.Ytdhhcmdofnjhiaa
