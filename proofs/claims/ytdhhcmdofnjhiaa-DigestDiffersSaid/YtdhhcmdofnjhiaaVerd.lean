/- The verdict on an event, in the program and in the reference. -/
import Derived.Test.YtdhhcmdofnjhiaaRow
namespace Go.Proofs.Ytdhhcmdofnjhiaa
open Go.RowKit

theorem RmC.below' {w w' : World} {cs : Array Value} {r : Rm} (h : RmC w cs r) (hb : Below w.heap.size w w') : RmC w' cs r := RmC.mono _ _ _ _ hb h

set_option maxRecDepth 100000 in
set_option maxHeartbeats 1000000 in
theorem digest_verdict (cs : Array Value) (r : Rm) (id : Int) (w : World) (h : RmC w cs r) :
    Calls Try.prog 25 #[.agg cs, .int .i64 id] w (GivesIntB (verdictOf (findRow r.rows id)) w) := by
  obtain ⟨ev, rw, wt, hd, st, rc, ty, L⟩ := h.at
  have hsz := L.size
  clear L
  have hb0 : Below w.heap.size w (w.alloc (.cells cs 30)) := (Below.refl _ _).alloc (Nat.le_refl _) _
  have HA := Lib.hid (agg_of_keep (box_all w cs 30) hsz)
  have HS := Lib.hid hsz; clear hsz
  obtain ⟨x, hx⟩ : ∃ x, findRow r.rows id = x := ⟨_, rfl⟩
  have HX := Lib.hid hx; clear hx
  cases x with
  | none =>
    go_enter Try.func25, Try.ntmps25
    go_wp2_with (first
      | ((with_reducible show wpList _ _ _ (⟨some 8, _, _, _, _, _⟩ :: _) _ _); refine wpList_load_agg rfl _ _ rfl w.heap.size 0 rfl cs 9 Try.isAgg30 Try.sizeOf30 HS.out HA.out ?_)
      | (go_at_call 42; refine (room_Row cs r id _ (h.below' hb0)).mono ?_; rintro e w1 ⟨rfl, hb1⟩; rw [HX.out]; have hb2 := hb0.trans (hb1.mono (by simp)))
      | ((with_reducible show wpList _ _ _ (⟨none, .store 43 (.tmp 5) _, _, _, _, _⟩ :: _) _ _); refine wpList_store_new rfl _ _ _ rfl w1 43 _ (rowCells noRow) rfl _ rfl rfl rfl 4 Try.sizeRow rfl rfl (by simp [rowCells, Value.oneCell']) ?_))
    go_ret
    exact ⟨by rw [HX.out]; rfl, hb2.alloc hb2.size _⟩
  | some x =>
    have hst : (rowCells x)[2]? = some (.int .i64 x.status) := rfl
    have hcase : (x.status = 3) ∨ (x.status ≠ 3 ∧ x.status = 4) ∨ (x.status ≠ 3 ∧ x.status ≠ 4) := by omega
    rcases hcase with q | ⟨q, q2⟩ | ⟨q, q2⟩
    all_goals
      have hv : verdictOf (some x) = (if x.status = 3 then 4 else x.status) := rfl
      first
        | rw [if_pos q] at hv; have e3 : (x.status == 3) = true := by simpa using q
        | rw [if_neg q, q2] at hv; have e3 : (x.status == 3) = false := by simpa using q
          have e4 : (x.status == 4) = true := by simpa using q2
        | rw [if_neg q] at hv; have e3 : (x.status == 3) = false := by simpa using q
          have e4 : (x.status == 4) = false := by simpa using q2
      have HV := Lib.hid hv; clear hv q
      try (have Q2 := Lib.hid q2; clear q2)
      go_enter Try.func25, Try.ntmps25
      go_wp2_with (first
        | ((with_reducible show wpList _ _ _ (⟨some 8, _, _, _, _, _⟩ :: _) _ _); refine wpList_load_agg rfl _ _ rfl w.heap.size 0 rfl cs 9 Try.isAgg30 Try.sizeOf30 HS.out HA.out ?_)
        | (go_at_call 42; refine (room_Row cs r id _ (h.below' hb0)).mono ?_; rintro e w1 ⟨rfl, hb1⟩; rw [HX.out]; have hb2 := hb0.trans (hb1.mono (by simp)); have hbox := box_all w1 (rowCells x) 43)
        | ((with_reducible show wpList _ _ _ (⟨none, .store 43 (.tmp 5) _, _, _, _, _⟩ :: _) _ _); refine wpList_store_new rfl _ _ _ rfl w1 43 _ (rowCells x) rfl _ rfl rfl rfl 4 Try.sizeRow rfl rfl (by simp [rowCells, Value.oneCell']) ?_))
      go_ret
      exact ⟨by rw [HX.out, HV.out]; first | rfl | (rw [← Q2.out]; rfl), hb2.alloc hb2.size _⟩

set_option maxRecDepth 100000 in
set_option maxHeartbeats 1000000 in
theorem r54_verdict (cs : Array Value) (r : Rm) (id : Int) (w : World) (h : RmC w cs r) :
    Calls Try.prog 29 #[.agg cs, .int .i64 id] w (GivesIntB (verdictOf (findRow r.rows id)) w) := by
  obtain ⟨ev, rw, wt, hd, st, rc, ty, L⟩ := h.at
  have hsz := L.size
  clear L
  have hb0 : Below w.heap.size w (w.alloc (.cells cs 30)) := (Below.refl _ _).alloc (Nat.le_refl _) _
  have HA := Lib.hid (agg_of_keep (box_all w cs 30) hsz)
  have HS := Lib.hid hsz; clear hsz
  obtain ⟨x, hx⟩ : ∃ x, findRow r.rows id = x := ⟨_, rfl⟩
  have HX := Lib.hid hx; clear hx
  cases x with
  | none =>
    go_enter Try.func29, Try.ntmps29
    go_wp2_with (first
      | ((with_reducible show wpList _ _ _ (⟨some 8, _, _, _, _, _⟩ :: _) _ _); refine wpList_load_agg rfl _ _ rfl w.heap.size 0 rfl cs 9 Try.isAgg30 Try.sizeOf30 HS.out HA.out ?_)
      | (go_at_call 46; refine (r24_Row cs r id _ (h.below' hb0)).mono ?_; rintro e w1 ⟨rfl, hb1⟩; rw [HX.out]; have hb2 := hb0.trans (hb1.mono (by simp)))
      | ((with_reducible show wpList _ _ _ (⟨none, .store 43 (.tmp 5) _, _, _, _, _⟩ :: _) _ _); refine wpList_store_new rfl _ _ _ rfl w1 43 _ (rowCells noRow) rfl _ rfl rfl rfl 4 Try.sizeRow rfl rfl (by simp [rowCells, Value.oneCell']) ?_))
    go_ret
    exact ⟨by rw [HX.out]; rfl, hb2.alloc hb2.size _⟩
  | some x =>
    have hst : (rowCells x)[2]? = some (.int .i64 x.status) := rfl
    have hcase : (x.status = 3) ∨ (x.status ≠ 3 ∧ x.status = 4) ∨ (x.status ≠ 3 ∧ x.status ≠ 4) := by omega
    rcases hcase with q | ⟨q, q2⟩ | ⟨q, q2⟩
    all_goals
      have hv : verdictOf (some x) = (if x.status = 3 then 4 else x.status) := rfl
      first
        | rw [if_pos q] at hv; have e3 : (x.status == 3) = true := by simpa using q
        | rw [if_neg q, q2] at hv; have e3 : (x.status == 3) = false := by simpa using q
          have e4 : (x.status == 4) = true := by simpa using q2
        | rw [if_neg q] at hv; have e3 : (x.status == 3) = false := by simpa using q
          have e4 : (x.status == 4) = false := by simpa using q2
      have HV := Lib.hid hv; clear hv q
      try (have Q2 := Lib.hid q2; clear q2)
      go_enter Try.func29, Try.ntmps29
      go_wp2_with (first
        | ((with_reducible show wpList _ _ _ (⟨some 8, _, _, _, _, _⟩ :: _) _ _); refine wpList_load_agg rfl _ _ rfl w.heap.size 0 rfl cs 9 Try.isAgg30 Try.sizeOf30 HS.out HA.out ?_)
        | (go_at_call 46; refine (r24_Row cs r id _ (h.below' hb0)).mono ?_; rintro e w1 ⟨rfl, hb1⟩; rw [HX.out]; have hb2 := hb0.trans (hb1.mono (by simp)); have hbox := box_all w1 (rowCells x) 43)
        | ((with_reducible show wpList _ _ _ (⟨none, .store 43 (.tmp 5) _, _, _, _, _⟩ :: _) _ _); refine wpList_store_new rfl _ _ _ rfl w1 43 _ (rowCells x) rfl _ rfl rfl rfl 4 Try.sizeRow rfl rfl (by simp [rowCells, Value.oneCell']) ?_))
      go_ret
      exact ⟨by rw [HX.out, HV.out]; first | rfl | (rw [← Q2.out]; rfl), hb2.alloc hb2.size _⟩

end Go.Proofs.Ytdhhcmdofnjhiaa
