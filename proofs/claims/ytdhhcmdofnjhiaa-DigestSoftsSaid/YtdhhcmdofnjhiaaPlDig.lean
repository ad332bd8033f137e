/- The plain law of DigestCounts over the typed functions. No condition. -/
import Derived.Test.YtdhhcmdofnjhiaaPlRoom
namespace Go.Proofs.Ytdhhcmdofnjhiaa
open Go.RowKit

theorem R27_Great_tri (r : ApiRoom) (n : Nat) (hn : n < 4611686018427387904) : Tri (R27_Great r n) (fun b => b = false → r.Events.length ≤ n ∧ r.Rows.length ≤ n ∧ r.State.length ≤ 60 ∧ r.Id.size ≤ 2000 ∧ (∀ e ∈ r.Events, SmallE e) ∧ ∀ x ∈ r.State, x.Key.size ≤ 2000) := by
  have hf : fuel = 4611686018427387904 := rfl
  have no : ∀ {P : Prop}, Tri (some true) (fun b => b = false → P) := .ret fun h => by cases h
  unfold R27_Great
  refine (R08_Great_tri r.Events n hn).bind fun g1 h1 => Tri.bif (fun _ => no) fun a1 => ?_
  refine (R08_Great_tri r.Waiting n hn).bind fun g2 h2 => Tri.bif (fun _ => no) fun a2 => Tri.bif (fun _ => no) fun a3 => Tri.bif (fun _ => no) fun a4 => Tri.bif (fun _ => no) fun a5 => Tri.bif (fun _ => no) fun a6 => Tri.bif (fun _ => no) fun a7 => ?_
  unfold R27_Great_j1
  refine Tri.bif (fun _ => no) fun a8 => ?_
  have a3 := le_of_dec a3; have a4 := le_of_dec a4; have a5 := le_of_dec a5; have a6 := le_of_dec a6; have a7 := le_of_dec a7; have a8 := le_of_dec a8
  unfold R27_Great_L2
  refine seek_tri r.State (by omega) (fun x => decide ((x.Key.size : Int) > 2000)) (R27_Great_L3 r 0) (fun k i h => ?_) (fun k => ?_) fun c1 => ?_
  · unfold R27_Great_B2; rw [step_at h]
  · unfold R27_Great_B2; rw [end_at]
  unfold R27_Great_L3
  refine seek_tri r.Receipts (by omega) (fun x => decide ((x.User.size : Int) > 2000)) (R27_Great_L4 r 0) (fun k i h => ?_) (fun k => ?_) fun c2 => ?_
  · unfold R27_Great_B3; rw [step_at h]
  · unfold R27_Great_B3; rw [end_at]
  unfold R27_Great_L4
  refine seek_tri r.Typing (by omega) (fun x => decide ((x.User.size : Int) > 2000)) (some false) (fun k i h => ?_) (fun k => ?_) fun c3 => ?_
  · unfold R27_Great_B4; rw [step_at h]
  · unfold R27_Great_B4; rw [end_at]
  exact .ret fun _ => ⟨(h1 a1).1, by omega, by omega, by omega, (h1 a1).2, fun x hx => by have := le_of_dec (c1 x hx); omega⟩

def idL (l : List ApiEvent) : List Int := l.map (·.Id)
theorem idL_length (l : List ApiEvent) : (idL l).length = l.length := by simp [idL]
theorem idL_step {l : List ApiEvent} {i : Nat} (h : i < l.length) : idL (l.take (i + 1)) = idL (l.take i) ++ [l[i].Id] := by
  unfold idL; rw [List.take_succ_eq_append_getElem h, List.map_append]; rfl

theorem R08_Ids_eq (l : List ApiEvent) (h : l.length ≤ 274877906944) : R08_Ids l = some (idL l) := by
  refine Tri.eq ?_
  unfold R08_Ids R08_Ids_L1
  refine loop2_at l.length (by simp [fuel]; omega) (fun i v => v = idL (l.take i)) (by simp [idL]) ?_ ?_
  · rintro i v k hi rfl hk
    unfold R08_Ids_B1
    rw [step_at hi, wrap_succ i (by omega), gApp_le (by rw [idL_length]; simp; omega)]
    exact hk _ (idL_step hi).symm
  · rintro v k rfl
    unfold R08_Ids_B1
    rw [end_at, List.take_length]
    exact .ret rfl

theorem digest_ids_eq (r : ApiRoom) (h : r.Events.length ≤ 274877906944) : digest_ids r = some (sortU (idL r.Events)) := by
  refine Tri.eq ?_
  unfold digest_ids digest_ids_L1
  refine loop2_at r.Events.length (by simp [fuel]; omega) (fun i v => v = idL (r.Events.take i)) (by simp [idL]) ?_ ?_
  · rintro i v k hi rfl hk
    unfold digest_ids_B1
    rw [step_at hi, wrap_succ i (by omega), gApp_le (by rw [idL_length]; simp; omega)]
    exact hk _ (idL_step hi).symm
  · rintro v k rfl
    unfold digest_ids_B1
    rw [end_at, List.take_length, num_Sorted_eq _ (by rw [idL_length]; omega)]
    exact .ret rfl

def differL (x y : List Int) : List Int := unionU (minusU x y) (minusU y x)
def commonL (x y : List Int) : List Int := minusU x (minusU x y)

section
variable (a b : ApiRoom) (ha : a.Events.length ≤ 1000000) (hb : b.Events.length ≤ 1000000)
include ha hb
theorem digest_Differ_eq : digest_Differ a b = some (differL (sortU (idL a.Events)) (sortU (idL b.Events))) := by
  have h1 := sortU_length (idL a.Events)
  have h2 := sortU_length (idL b.Events)
  rw [idL_length] at h1 h2
  unfold digest_Differ
  rw [digest_ids_eq a (by omega), digest_ids_eq b (by omega)]
  simp only [Option.bind_some]
  have h3 := minusU_length (sortU (idL a.Events)) (sortU (idL b.Events))
  have h4 := minusU_length (sortU (idL b.Events)) (sortU (idL a.Events))
  rw [num_Minus_eq _ _ (by omega) (by omega), num_Minus_eq _ _ (by omega) (by omega)]
  simp only [Option.bind_some]
  rw [num_Union_eq _ _ (by omega) (by omega)]
  rfl
theorem digest_Common_eq : digest_Common a b = some (commonL (sortU (idL a.Events)) (sortU (idL b.Events))) := by
  have h1 := sortU_length (idL a.Events)
  have h2 := sortU_length (idL b.Events)
  rw [idL_length] at h1 h2
  unfold digest_Common
  rw [digest_ids_eq a (by omega), digest_ids_eq b (by omega)]
  simp only [Option.bind_some]
  have h3 := minusU_length (sortU (idL a.Events)) (sortU (idL b.Events))
  rw [num_Minus_eq _ _ (by omega) (by omega)]
  simp only [Option.bind_some]
  rw [num_Minus_eq _ _ (by omega) (by omega)]
  rfl
theorem digest_Behind_eq : digest_Behind a b = some ((minusU (sortU (idL b.Events)) (sortU (idL a.Events))).length : Int) := by
  have h1 := sortU_length (idL a.Events)
  have h2 := sortU_length (idL b.Events)
  rw [idL_length] at h1 h2
  unfold digest_Behind
  rw [digest_ids_eq a (by omega), digest_ids_eq b (by omega)]
  simp only [Option.bind_some]
  rw [num_Minus_eq _ _ (by omega) (by omega)]
  rfl
theorem digest_Same_eq : digest_Same a b = some (((differL (sortU (idL a.Events)) (sortU (idL b.Events))).length : Int) == 0) := by
  unfold digest_Same
  rw [digest_Differ_eq a b ha hb]
  rfl
end

theorem nodup_of_inc {l : List Int} (h : Inc l) : l.Nodup := h.imp fun hab e => by omega
/-- Two lists of one length, as the one holds what the other holds. -/
theorem length_of_same {a b : List Int} (ha : a.Nodup) (hb : b.Nodup) (h : ∀ x, x ∈ a ↔ x ∈ b) : a.length = b.length :=
  ((List.perm_ext_iff_of_nodup ha hb).2 h).length_eq
theorem length_union {a b c : List Int} (ha : Inc a) (hb : Inc b) (hc : Inc c) (hd : ∀ x, x ∈ a → x ∉ b) (h : ∀ x, x ∈ c ↔ x ∈ a ∨ x ∈ b) : c.length = a.length + b.length := by
  rw [← List.length_append]
  refine length_of_same (nodup_of_inc hc) ?_ fun x => by rw [h, List.mem_append]
  rw [List.nodup_append]
  exact ⟨nodup_of_inc ha, nodup_of_inc hb, fun x hx y hy e => hd x hx (e ▸ hy)⟩
theorem mem_differ {a b : List Int} {x : Int} : x ∈ differL a b ↔ (x ∈ a ∧ x ∉ b) ∨ (x ∈ b ∧ x ∉ a) := by unfold differL; rw [mem_unionU, mem_minusU, mem_minusU]
theorem mem_common {a b : List Int} {x : Int} : x ∈ commonL a b ↔ x ∈ a ∧ x ∈ b := by
  unfold commonL; rw [mem_minusU, mem_minusU]
  by_cases h : x ∈ a <;> by_cases h2 : x ∈ b <;> simp [h, h2]
theorem inc_differ (a b : List Int) : Inc (differL a b) := inc_unionU _ _
theorem inc_common (a b : List Int) : Inc (commonL a b) := inc_minusU _ _
theorem counts_behind (a b : List Int) : (differL a b).length = (minusU b a).length + (minusU a b).length := by
  have := length_union (inc_minusU a b) (inc_minusU b a) (inc_differ a b) (fun x h1 h2 => by rw [mem_minusU] at h1 h2; exact h1.2 h2.1) (fun x => by rw [mem_differ, mem_minusU, mem_minusU])
  omega
theorem counts_union (a b : List Int) : unionU (differL a b) (commonL a b) = unionU a b := by
  refine inc_ext (inc_unionU _ _) (inc_unionU _ _) fun x => ?_
  rw [mem_unionU, mem_unionU, mem_differ, mem_common]
  by_cases h : x ∈ a <;> by_cases h2 : x ∈ b <;> simp [h, h2]
theorem counts_ids (l m : List Int) : unionU (sortU l) (sortU m) = unionU l m := by
  refine inc_ext (inc_unionU _ _) (inc_unionU _ _) fun x => ?_
  rw [mem_unionU, mem_unionU, mem_sortU, mem_sortU]
theorem counts_length (a b : List Int) : (differL a b).length + (commonL a b).length = (unionU a b).length := by
  rw [← counts_union]
  exact (length_union (inc_differ a b) (inc_common a b) (inc_unionU _ _) (fun x h1 h2 => by
    rw [mem_differ] at h1; rw [mem_common] at h2
    rcases h1 with h1 | h1
    · exact h1.2 h2.2
    · exact h1.2 h2.1) (fun x => mem_unionU)).symm
theorem counts_sym (a b : List Int) : differL b a = differL a b := inc_ext (inc_differ b a) (inc_differ a b) fun x => by rw [mem_differ, mem_differ, or_comm]
theorem counts_sym2 (a b : List Int) : commonL b a = commonL a b := inc_ext (inc_common b a) (inc_common a b) fun x => by rw [mem_common, mem_common, and_comm]

theorem sameB_self (l : List Int) : sameB l l = true := by simp [sameB]

theorem counts_law (a b : ApiRoom) : L54_DigestCounts a b = some true := by
  refine Tri.eq ?_
  unfold L54_DigestCounts
  refine (R27_Great_tri a 14 (by omega)).bind fun g1 h1 => Tri.bif (fun _ => .ret rfl) fun a1 => ?_
  refine (R27_Great_tri b 14 (by omega)).bind fun g2 h2 => ?_
  unfold L54_DigestCounts_j1
  refine Tri.bif (fun _ => .ret rfl) fun a2 => ?_
  have ha := (h1 a1).1
  have hb := (h2 a2).1
  have hx := sortU_length (idL a.Events)
  have hy := sortU_length (idL b.Events)
  rw [idL_length] at hx hy
  rw [digest_Differ_eq a b (by omega) (by omega), digest_Common_eq a b (by omega) (by omega), R08_Ids_eq _ (by omega), R08_Ids_eq _ (by omega)]
  simp only [Option.bind_some]
  rw [R01_Union_eq _ _ (by rw [idL_length]; omega) (by rw [idL_length]; omega)]
  simp only [Option.bind_some]
  rw [digest_Behind_eq a b (by omega) (by omega), digest_Behind_eq b a (by omega) (by omega)]
  simp only [Option.bind_some]
  rw [← counts_ids (idL a.Events) (idL b.Events), digest_Same_eq a b (by omega) (by omega), digest_Differ_eq b a (by omega) (by omega), digest_Common_eq b a (by omega) (by omega)]
  generalize sortU (idL a.Events) = X at *
  generalize sortU (idL b.Events) = Y at *
  have h3 := minusU_length X Y
  have h4 := minusU_length Y X
  have h5 := counts_behind X Y
  have h6 := counts_length X Y
  have h7 := unionU_length X Y
  rw [show (((differL X Y).length : Int) == IntKind.i64.wrap (((minusU Y X).length : Int) + ((minusU X Y).length : Int))) = true by
    rw [wrap_id (by omega) (by omega)]; simp; omega]
  simp only [cond_true, Option.bind_some, beq_self_eq_true]
  rw [R01_Union_eq _ _ (by omega) (by omega)]
  simp only [Option.bind_some]
  rw [counts_union, R01_Same_eq _ _ (by omega), sameB_self]
  simp only [cond_true, Option.bind_some]
  rw [show (IntKind.i64.wrap (((differL X Y).length : Int) + ((commonL X Y).length : Int)) == ((unionU X Y).length : Int)) = true by
    rw [wrap_id (by omega) (by omega)]; simp; omega]
  simp only [cond_true]
  rw [counts_sym, counts_sym2, R01_Same_eq _ _ (by omega), sameB_self]
  simp only [cond_true, Option.bind_some]
  rw [R01_Same_eq _ _ (by omega), sameB_self, L54_live_val]
  exact .ret rfl
end Go.Proofs.Ytdhhcmdofnjhiaa
