/- What the rooms' functions Row, the verdicts and the lists of ids answer. -/
import Derived.Test.YtdhhcmdofnjhiaaGreat3
namespace Go.Proofs.Ytdhhcmdofnjhiaa
open Go.RowKit

/-- Two results: a struct that lies in a block, a slot. -/
theorem results_cell_tmp {P : Program} {fn : Func} {p q : Tmp} {ty : TypeId} (h : fn.results = #[.cell p ty, .tmp q]) (tmps : Array Value) (w : World) (g : Nat) (t : TypeId) (cs : Array Value) (fr : Nat × Nat) (d : TypeDesc) (v : Value)
    (hp : tmps.getD p undef = .pointer (some ⟨g, 0, none⟩)) (hq : tmps.getD q undef = v) (hg : w.heap[g]? = some (.cells cs t fr))
    (hu : P.underlying ty = some d) (hd : (match d with | .struct _ | .array _ _ => true | _ => false) = true) (hi : (P.info? ty).map (·.size) = some cs.size) :
    (results fn tmps).run P w = .ok (.tuple #[.agg cs, v]) w := by
  have hp' : tmps[p]?.getD undef = .pointer (some ⟨g, 0, none⟩) := by simpa using hp
  have hq' : tmps[q]?.getD undef = v := by simpa using hq
  simp [results, h, hp', hq', asAddr, run_loadVar_row w g t ty cs fr d hg hu hd hi]

theorem Try.sizeRow : (Try.prog.info? 43).map (·.size) = some 4 := by kernel_rfl
theorem Try.sizeEv : (Try.prog.info? 65).map (·.size) = some 29 := by kernel_rfl

def rowCells (x : RowD) : Array Value := #[.int .i64 x.pos, .int .i64 x.id, .int .i64 x.status, .bool x.gone]
def noRow : RowD := ⟨0, 0, 0, false⟩
def findRow (l : List RowD) (id : Int) : Option RowD := l.find? (fun x => x.id == id)
def rowOf (l : List RowD) (id : Int) : RowD := (findRow l id).getD noRow

theorem findRow_hit {l : List RowD} {id : Int} {k : Nat} (hk : k < l.length) (hlow : ∀ j, (hj : j < l.length) → j < k → (l[j].id == id) = false) (h : (l[k].id == id) = true) : findRow l id = some l[k] := by
  unfold findRow
  rw [List.find?_eq_some_iff_getElem]
  exact ⟨h, k, hk, rfl, fun j hj => by rw [hlow j (by omega) hj]; rfl⟩
theorem findRow_miss {l : List RowD} {id : Int} (hlow : ∀ j, (hj : j < l.length) → (l[j].id == id) = false) : findRow l id = none := by
  unfold findRow
  rw [List.find?_eq_none]
  intro x hx
  obtain ⟨j, hj, rfl⟩ := List.getElem_of_mem hx
  rw [hlow j hj]; simp

/-- The call gives back a row, and whether there is one. -/
def GivesRow (x : Option RowD) (w : World) (e : Ending) (w' : World) : Prop :=
  e = .returned (.tuple #[.agg (rowCells (x.getD noRow)), .bool x.isSome]) ∧ Below w.heap.size w w'

theorem row_elem {w : World} {a : Option Addr} {n c : Nat} {l : List RowD} (h : SlR 4 RowC w (.slice a n c) l) {k : Nat} (hk : k < l.length) :
    ∃ b o, a = some ⟨b, o, none⟩ ∧ (∀ j, j < 4 → w.cell? ⟨b, o + k * 4 + j, none⟩ = some ((rowCells l[k]).getD j undef)) ∧ w.cell? ⟨b, o + k * 4 + 1, none⟩ = some (.int .i64 l[k].id) := by
  obtain ⟨b, o, cs, e1, e2, e3, e4, e5⟩ := h.ev hk
  have e5' : cs = rowCells l[k] := e5
  subst e5'
  exact ⟨b, o, e1, e4, e4 1 (by omega)⟩

theorem zeroRow_all (w : World) (o : Obj) : ((w.alloc o).alloc (.cells #[.int .i64 0, .int .i64 0, .int .i64 0, .bool false] 43)).heap[w.heap.size + 1]? = some (.cells #[.int .i64 0, .int .i64 0, .int .i64 0, .bool false] 43 (0, 0)) := by
  have := heap_alloc_new (w.alloc o) (.cells #[.int .i64 0, .int .i64 0, .int .i64 0, .bool false] 43)
  simpa using this

set_option maxRecDepth 100000 in
set_option maxHeartbeats 1000000 in
theorem r24_Row (cs : Array Value) (r : Rm) (id : Int) (w : World) (h : RmC w cs r) :
    Calls Try.prog 46 #[.agg cs, .int .i64 id] w (GivesRow (findRow r.rows id) w) := by
  obtain ⟨ev, rw, wt, hd, st, rc, ty, L⟩ := h.at
  have c2 := L.c2
  have hrw := L.rw
  have hrw0 := hrw
  clear L h
  obtain ⟨a, c, rfl, g1, g2, -, -⟩ := hrw
  unfold maxLen at g2
  have hl : r.rows.length ≤ 9223372036854775807 := by omega
  clear g1 g2
  have hblk := zeroRow_all w (.cells cs 30)
  have hb2 := box2_below w (.cells cs 30) (.cells #[.int .i64 0, .int .i64 0, .int .i64 0, .bool false] 43)
  have hk2 := box_keep (box_all w cs 30) ((Below.refl (w.heap.size + 1) _).alloc (by simp) (.cells #[.int .i64 0, .int .i64 0, .int .i64 0, .bool false] 43)) (Nat.lt_succ_self _)
  have hr2 := hrw0.below RowC.mono hb2
  have HB := Lib.hid hblk; clear hblk
  go_enter Try.func46, Try.ntmps46
  go_wp2
  go_loop [6] (fun i => ∃ k : Nat, k ≤ r.rows.length ∧ i = .int .i64 k ∧ ∀ j, (hj : j < r.rows.length) → j < k → (r.rows[j].id == id) = false) (fun i => r.rows.length - (intOf i).toNat)
  case atStart => exact ⟨0, Nat.zero_le _, rfl, fun j _ hj => by omega⟩
  case round =>
    obtain ⟨k, hk, rfl, hlow⟩ := hrel
    have HL := Lib.hid hlow; clear hlow
    by_cases hlt : k < r.rows.length
    · obtain ⟨b, o, rfl, hcells, hcell⟩ := row_elem hr2 hlt
      have HC := Lib.hid hcells; clear hcells
      by_cases hq : (r.rows[k].id == id) = true
      · have hf := findRow_hit hlt HL.out hq
        have HF := Lib.hid hf; clear hf
        go_wp2_with (first
          | ((with_reducible show wpList _ _ _ (⟨some 26, _, _, _, _, _⟩ :: _) _ _); refine wpList_load_agg rfl _ _ rfl b (o + k * 4) rfl (rowCells r.rows[k]) 4 Try.isAgg43 Try.sizeOf43 rfl HC.out ?_)
          | ((with_reducible show wpList _ _ _ (⟨none, .store 43 _ _, _, _, _, _⟩ :: _) _ _); refine wpList_store_row rfl _ _ _ rfl (w.heap.size + 1) (rowCells r.rows[k]) rfl rfl 43 _ HB.out Try.sizeRow rfl (by simp [rowCells, Value.oneCell']) ?_))
        have hend := setRow_heap _ (w.heap.size + 1) _ (rowCells r.rows[k]) 43 _ HB.out
        refine bodyPost_ret (v := .tuple #[.agg (rowCells r.rows[k]), .bool true]) (results_cell_tmp rfl _ _ (w.heap.size + 1) _ _ _ _ _ rfl rfl hend Try.underlying43 rfl Try.sizeRow) rfl ⟨by rw [HF.out]; rfl, below_setRow hb2 (by omega) _⟩
      · have hq' : (r.rows[k].id == id) = false := by simpa using hq
        have HQ := Lib.hid hq'; clear hq
        go_wp2
        go_round
        case rel =>
          refine ⟨k + 1, by omega, by go_num, fun j hj hjk => ?_⟩
          by_cases ej : j = k
          · subst ej; exact HQ.out
          · exact HL.out j hj (by omega)
        case measure => simp [intOf]; omega
    · have hkn : k = r.rows.length := by omega
      subst hkn
      have hf := findRow_miss (fun j hj => HL.out j hj hj)
      have HF := Lib.hid hf; clear hf
      go_wp2
      refine bodyPost_ret (v := .tuple #[.agg (rowCells noRow), .bool false]) (results_cell_tmp rfl _ _ (w.heap.size + 1) _ _ _ _ _ rfl rfl HB.out Try.underlying43 rfl Try.sizeRow) rfl ⟨by rw [HF.out]; rfl, hb2⟩

theorem agg_of_keep {w : World} {g : Nat} {cs : Array Value} {n : Nat} (h : ∀ k, w.cell? ⟨g, k, none⟩ = cs[k]?) (hn : cs.size = n) : ∀ j, j < n → w.cell? ⟨g, 0 + j, none⟩ = some (cs.getD j undef) := by
  intro j hj
  rw [Nat.zero_add, h j]
  simp [Array.getD, show j < cs.size by omega]

set_option maxRecDepth 100000 in
set_option maxHeartbeats 1000000 in
theorem room_Row (cs : Array Value) (r : Rm) (id : Int) (w : World) (h : RmC w cs r) :
    Calls Try.prog 42 #[.agg cs, .int .i64 id] w (GivesRow (findRow r.rows id) w) := by
  obtain ⟨ev, rw, wt, hd, st, rc, ty, L⟩ := h.at
  have c2 := L.c2
  have hrw := L.rw
  have hrw0 := hrw
  clear L h
  obtain ⟨a, c, rfl, g1, g2, -, -⟩ := hrw
  unfold maxLen at g2
  have hl : r.rows.length ≤ 9223372036854775807 := by omega
  clear g1 g2
  have hblk := zeroRow_all w (.cells cs 30)
  have hb2 := box2_below w (.cells cs 30) (.cells #[.int .i64 0, .int .i64 0, .int .i64 0, .bool false] 43)
  have hk2 := box_keep (box_all w cs 30) ((Below.refl (w.heap.size + 1) _).alloc (by simp) (.cells #[.int .i64 0, .int .i64 0, .int .i64 0, .bool false] 43)) (Nat.lt_succ_self _)
  have hr2 := hrw0.below RowC.mono hb2
  have hsz : ((w.alloc (.cells cs 30)).alloc (.cells #[.int .i64 0, .int .i64 0, .int .i64 0, .bool false] 43)).heap.size = w.heap.size + 2 := by simp
  have HB := Lib.hid hblk; have HZ := Lib.hid hsz; clear hblk hsz
  go_enter Try.func42, Try.ntmps42
  go_wp2
  generalize hW : (w.alloc (.cells cs 30)).alloc (.cells #[.int .i64 0, .int .i64 0, .int .i64 0, .bool false] 43) = W at *
  clear hW hk2 c2
  go_loopw [7, 11] (fun _ i wr => ∃ k : Nat, k ≤ r.rows.length ∧ i = .int .i64 k ∧ (∀ j, (hj : j < r.rows.length) → j < k → (r.rows[j].id == id) = false) ∧ Below W.heap.size W wr) (fun _ i _ => r.rows.length - (intOf i).toNat)
  case atStart => exact ⟨0, Nat.zero_le _, rfl, fun j _ hj => by omega, Below.refl _ _⟩
  case round =>
    obtain ⟨k, hk, rfl, hlow, hbr⟩ := hrel
    have HL := Lib.hid hlow; clear hlow
    have hbw : Below w.heap.size w wr := hb2.trans (hbr.mono (by rw [HZ.out]; omega))
    by_cases hlt : k < r.rows.length
    · have hr3 := hr2.below RowC.mono hbr
      obtain ⟨b, o, rfl, hcells, hcell⟩ := row_elem hr3 hlt
      have HC := Lib.hid hcells; clear hcells
      have hbox := box_all wr (rowCells r.rows[k]) 43
      have hid1 : (rowCells r.rows[k])[1]? = some (.int .i64 r.rows[k].id) := rfl
      have HA := Lib.hid (agg_of_keep hbox (n := 4) rfl)
      have hg : (wr.alloc (.cells (rowCells r.rows[k]) 43)).heap[w.heap.size + 1]? = some (.cells #[.int .i64 0, .int .i64 0, .int .i64 0, .bool false] 43 (0, 0)) := by
        rw [Below.heap_alloc _ _ _ (by have := hbr.size; rw [HZ.out] at this; omega), hbr.block _ (by rw [HZ.out]; omega)]; exact HB.out
      have HG := Lib.hid hg; clear hg
      have HBW := Lib.hid (hbw.alloc hbw.size (.cells (rowCells r.rows[k]) 43))
      by_cases hq : (r.rows[k].id == id) = true
      · have hf := findRow_hit hlt HL.out hq
        have HF := Lib.hid hf; clear hf
        go_wp2_with (first
          | ((with_reducible show wpList _ _ _ (⟨some 14, _, _, _, _, _⟩ :: _) _ _); refine wpList_load_agg rfl _ _ rfl b (o + k * 4) rfl (rowCells r.rows[k]) 4 Try.isAgg43 Try.sizeOf43 rfl HC.out ?_)
          | ((with_reducible show wpList _ _ _ (⟨none, .store 43 (.tmp 7) _, _, _, _, _⟩ :: _) _ _); refine wpList_store_new rfl _ _ _ rfl wr 43 _ (rowCells r.rows[k]) rfl _ rfl rfl rfl 4 Try.sizeRow rfl rfl (by simp [rowCells, Value.oneCell']) ?_)
          | ((with_reducible show wpList _ _ _ (⟨some 19, _, _, _, _, _⟩ :: _) _ _); refine wpList_load_agg rfl _ _ rfl wr.heap.size 0 rfl (rowCells r.rows[k]) 4 Try.isAgg43 Try.sizeOf43 rfl HA.out ?_)
          | ((with_reducible show wpList _ _ _ (⟨none, .store 43 (.tmp 4) _, _, _, _, _⟩ :: _) _ _); refine wpList_store_row rfl _ _ _ rfl (w.heap.size + 1) (rowCells r.rows[k]) rfl rfl 43 _ HG.out Try.sizeRow rfl (by simp [rowCells, Value.oneCell']) ?_))
        have hend := setRow_heap _ (w.heap.size + 1) _ (rowCells r.rows[k]) 43 _ HG.out
        refine bodyPost_ret (v := .tuple #[.agg (rowCells r.rows[k]), .bool true]) (results_cell_tmp rfl _ _ (w.heap.size + 1) _ _ _ _ _ rfl rfl hend Try.underlying43 rfl Try.sizeRow) rfl ⟨by rw [HF.out]; rfl, below_setRow HBW.out (by omega) _⟩
      · have hq' : (r.rows[k].id == id) = false := by simpa using hq
        have HQ := Lib.hid hq'; clear hq
        go_wp2_with (first
          | ((with_reducible show wpList _ _ _ (⟨some 14, _, _, _, _, _⟩ :: _) _ _); refine wpList_load_agg rfl _ _ rfl b (o + k * 4) rfl (rowCells r.rows[k]) 4 Try.isAgg43 Try.sizeOf43 rfl HC.out ?_)
          | ((with_reducible show wpList _ _ _ (⟨none, .store 43 (.tmp 7) _, _, _, _, _⟩ :: _) _ _); refine wpList_store_new rfl _ _ _ rfl wr 43 _ (rowCells r.rows[k]) rfl _ rfl rfl rfl 4 Try.sizeRow rfl rfl (by simp [rowCells, Value.oneCell']) ?_))
        go_roundw
        case rel =>
          refine ⟨k + 1, by omega, by go_num, fun j hj hjk => ?_, hbr.alloc hbr.size _⟩
          by_cases ej : j = k
          · subst ej; exact HQ.out
          · exact HL.out j hj (by omega)
        case measure => simp [intOf]; omega
    · have hkn : k = r.rows.length := by omega
      subst hkn
      have hf := findRow_miss (fun j hj => HL.out j hj hj)
      have HF := Lib.hid hf; clear hf
      have hg : wr.heap[w.heap.size + 1]? = some (.cells #[.int .i64 0, .int .i64 0, .int .i64 0, .bool false] 43 (0, 0)) := by
        rw [hbr.block _ (by rw [HZ.out]; omega)]; exact HB.out
      have HG := Lib.hid hg; clear hg
      go_wp2_with (first
          | ((with_reducible show wpList _ _ _ (⟨none, .store 43 (.tmp 4) _, _, _, _, _⟩ :: _) _ _); refine wpList_store_row rfl _ _ _ rfl (w.heap.size + 1) (rowCells noRow) rfl rfl 43 _ HG.out Try.sizeRow rfl (by simp [rowCells, Value.oneCell']) ?_))
      have hend := setRow_heap _ (w.heap.size + 1) _ (rowCells noRow) 43 _ HG.out
      refine bodyPost_ret (v := .tuple #[.agg (rowCells noRow), .bool false]) (results_cell_tmp rfl _ _ (w.heap.size + 1) _ _ _ _ _ rfl rfl hend Try.underlying43 rfl Try.sizeRow) rfl ⟨by rw [HF.out]; rfl, below_setRow hbw (by omega) _⟩

/-- The verdict on an event. -/
def verdictOf (x : Option RowD) : Int := match x with
  | none => 0
  | some r => if r.status = 3 then 4 else r.status
/-- The call gives back a number; what was there is as it was. -/
def GivesIntB (n : Int) (w : World) (e : Ending) (w' : World) : Prop := e = .returned (.int .i64 n) ∧ Below w.heap.size w w'
end Go.Proofs.Ytdhhcmdofnjhiaa
