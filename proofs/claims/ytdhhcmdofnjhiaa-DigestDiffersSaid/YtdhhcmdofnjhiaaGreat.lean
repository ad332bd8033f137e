/- What Great and Long of the references answer. No condition. -/
import Derived.Test.YtdhhcmdofnjhiaaSums
namespace Go.Proofs.Ytdhhcmdofnjhiaa
open Go.RowKit

theorem Try.sizeCont : (Try.prog.info? 61).map (·.size) = some 16 := by kernel_rfl


def far1 (e : Ev) : Prop := 40 < e.prev.length ∨ 40 < e.auth.length ∨ 40 < e.content.allow.length ∨ 40 < e.content.deny.length ∨ 40 < e.content.levels.users.length ∨ 40 < e.content.levels.kinds.length
def far2 (e : Ev) : Prop := 2000 < e.room.size ∨ 2000 < e.sender.size ∨ 2000 < e.key.size ∨ 2000 < e.content.text.size ∨ 2000 < e.content.via.size ∨ 2000 < e.sig.server.size
def far3 (e : Ev) : Prop := (∃ s ∈ e.content.allow, 2000 < s.size) ∨ (∃ s ∈ e.content.deny, 2000 < s.size) ∨ (∃ u ∈ e.content.levels.users, 2000 < u.user.size)
open Classical in
/-- Is a list or a text of the event too long? -/
noncomputable def longEv (e : Ev) : Bool := decide (far1 e ∨ far2 e ∨ far3 e)

/-- The call gives back a Bool; what was there is as it was. -/
def GivesBoolB (b : Bool) (w : World) (e : Ending) (w' : World) : Prop := e = .returned (.bool b) ∧ Below w.heap.size w w'

theorem first6 (a b c d e f : Prop) (h : a ∨ b ∨ c ∨ d ∨ e ∨ f) :
    a ∨ (¬ a ∧ b) ∨ (¬ a ∧ ¬ b ∧ c) ∨ (¬ a ∧ ¬ b ∧ ¬ c ∧ d) ∨ (¬ a ∧ ¬ b ∧ ¬ c ∧ ¬ d ∧ e) ∨ (¬ a ∧ ¬ b ∧ ¬ c ∧ ¬ d ∧ ¬ e ∧ f) := by
  by_cases ha : a
  · exact .inl ha
  by_cases hb : b
  · exact .inr (.inl ⟨ha, hb⟩)
  by_cases hc : c
  · exact .inr (.inr (.inl ⟨ha, hb, hc⟩))
  by_cases hd : d
  · exact .inr (.inr (.inr (.inl ⟨ha, hb, hc, hd⟩)))
  by_cases he : e
  · exact .inr (.inr (.inr (.inr (.inl ⟨ha, hb, hc, hd, he⟩))))
  · rcases h with h | h | h | h | h | h <;> first | contradiction | exact .inr (.inr (.inr (.inr (.inr ⟨ha, hb, hc, hd, he, h⟩))))

theorem no40 {n : Nat} (h : ¬ 40 < n) : decide ((40 : Int) < (n : Int)) = false := by simp; omega
theorem yes40 {n : Nat} (h : 40 < n) : decide ((40 : Int) < (n : Int)) = true := by simp; omega
theorem no2000 {n : Nat} (h : ¬ 2000 < n) : decide ((2000 : Int) < (n : Int)) = false := by simp; omega
theorem yes2000 {n : Nat} (h : 2000 < n) : decide ((2000 : Int) < (n : Int)) = true := by simp; omega
theorem box2_below (w : World) (o1 o2 : Obj) : Below w.heap.size w ((w.alloc o1).alloc o2) := ((Below.refl _ _).alloc (Nat.le_refl _) _).alloc (by simp) _

/-- What Long's walk wants of an event's cells, and of its content's. -/
structure LongAt (w : World) (cs ct : Array Value) (e : Ev) (a1 a2 a3 a4 a5 a6 : Option Addr) (c1 c2 c3 c4 c5 c6 : Nat) : Prop where
  size : ct.size = 16
  one : ct.all (·.oneCell') = true
  sub : ∀ j, j < 16 → (w.alloc (.cells cs 65)).cell? ⟨w.heap.size, 10 + j, none⟩ = some (ct.getD j undef)
  e1 : ((w.alloc (.cells cs 65)).alloc (.cells ct 61)).cell? ⟨w.heap.size, 1, none⟩ = some (.string e.room)
  e2 : ((w.alloc (.cells cs 65)).alloc (.cells ct 61)).cell? ⟨w.heap.size, 2, none⟩ = some (.string e.sender)
  e5 : ((w.alloc (.cells cs 65)).alloc (.cells ct 61)).cell? ⟨w.heap.size, 5, none⟩ = some (.string e.key)
  e8 : ((w.alloc (.cells cs 65)).alloc (.cells ct 61)).cell? ⟨w.heap.size, 8, none⟩ = some (.slice a1 e.prev.length c1)
  e9 : ((w.alloc (.cells cs 65)).alloc (.cells ct 61)).cell? ⟨w.heap.size, 9, none⟩ = some (.slice a2 e.auth.length c2)
  e27 : ((w.alloc (.cells cs 65)).alloc (.cells ct 61)).cell? ⟨w.heap.size, 27, none⟩ = some (.string e.sig.server)
  d0 : ((w.alloc (.cells cs 65)).alloc (.cells ct 61)).cell? ⟨w.heap.size + 1, 0, none⟩ = some (.string e.content.text)
  d4 : ((w.alloc (.cells cs 65)).alloc (.cells ct 61)).cell? ⟨w.heap.size + 1, 4, none⟩ = some (.string e.content.via)
  d5 : ((w.alloc (.cells cs 65)).alloc (.cells ct 61)).cell? ⟨w.heap.size + 1, 5, none⟩ = some (.slice a3 e.content.allow.length c3)
  d6 : ((w.alloc (.cells cs 65)).alloc (.cells ct 61)).cell? ⟨w.heap.size + 1, 6, none⟩ = some (.slice a4 e.content.deny.length c4)
  d7 : ((w.alloc (.cells cs 65)).alloc (.cells ct 61)).cell? ⟨w.heap.size + 1, 7, none⟩ = some (.slice a5 e.content.levels.users.length c5)
  d8 : ((w.alloc (.cells cs 65)).alloc (.cells ct 61)).cell? ⟨w.heap.size + 1, 8, none⟩ = some (.slice a6 e.content.levels.kinds.length c6)

theorem longAt (cs : Array Value) (e : Ev) (w : World) (h : EvC w cs e) : ∃ ct a1 a2 a3 a4 a5 a6 c1 c2 c3 c4 c5 c6, LongAt w cs ct e a1 a2 a3 a4 a5 a6 c1 c2 c3 c4 c5 c6 ∧
    Strs w (.slice a3 e.content.allow.length c3) e.content.allow ∧ Strs w (.slice a4 e.content.deny.length c4) e.content.deny ∧ SlR 2 LvC w (.slice a5 e.content.levels.users.length c5) e.content.levels.users := by
  obtain ⟨prev, auth, allow, deny, users, kinds, hcs, h1, h2, h3, h4, h5, h6⟩ := h
  have h3' := h3; have h4' := h4; have h5' := h5
  obtain ⟨a1, c1, rfl, -⟩ := h1
  obtain ⟨a2, c2, rfl, -⟩ := h2
  obtain ⟨a3, c3, rfl, -⟩ := h3
  obtain ⟨a4, c4, rfl, -⟩ := h4
  obtain ⟨a5, c5, rfl, -⟩ := h5
  obtain ⟨a6, c6, rfl, -⟩ := h6
  obtain ⟨ct, hct⟩ : ∃ ct : Array Value, ct = #[.string e.content.text, .int .i64 e.content.n, .int .i64 e.content.target, .bool e.content.thread, .string e.content.via, .slice a3 e.content.allow.length c3, .slice a4 e.content.deny.length c4,
      .slice a5 e.content.levels.users.length c5, .slice a6 e.content.levels.kinds.length c6, .int .i64 e.content.levels.user, .int .i64 e.content.levels.message, .int .i64 e.content.levels.state, .int .i64 e.content.levels.invite,
      .int .i64 e.content.levels.kick, .int .i64 e.content.levels.ban, .int .i64 e.content.levels.redact] := ⟨_, rfl⟩
  have hn : ct.size = 16 := by rw [hct]; rfl
  have hone : ct.all (·.oneCell') = true := by rw [hct]; simp [Value.oneCell']
  have hsub : ∀ j, j < 16 → cs[10 + j]? = some (ct.getD j undef) := by
    rw [hct, hcs]
    intro j hj
    have hk : j = 0 ∨ j = 1 ∨ j = 2 ∨ j = 3 ∨ j = 4 ∨ j = 5 ∨ j = 6 ∨ j = 7 ∨ j = 8 ∨ j = 9 ∨ j = 10 ∨ j = 11 ∨ j = 12 ∨ j = 13 ∨ j = 14 ∨ j = 15 := by omega
    rcases hk with rfl | rfl | rfl | rfl | rfl | rfl | rfl | rfl | rfl | rfl | rfl | rfl | rfl | rfl | rfl | rfl <;> rfl
  refine ⟨ct, a1, a2, a3, a4, a5, a6, c1, c2, c3, c4, c5, c6, ⟨hn, hone, box_cells (w := w) (t := 65) hsub, ?_, ?_, ?_, ?_, ?_, ?_, ?_, ?_, ?_, ?_, ?_, ?_⟩, h3', h4', h5'⟩
  all_goals first | (refine box_cell_old ?_; rw [hcs]; rfl) | (refine box_cell_two ?_; rw [hct]; rfl)

theorem user_cell {w : World} {a : Option Addr} {n c : Nat} {l : List Lv} (h : SlR 2 LvC w (.slice a n c) l) {k : Nat} (hk : k < l.length) :
    ∃ b o, a = some ⟨b, o, none⟩ ∧ w.cell? ⟨b, o + k * 2, none⟩ = some (.string l[k].user) := by
  obtain ⟨a', c', e, h1, h2, h3, h4⟩ := h
  simp only [Value.slice.injEq] at e
  obtain ⟨rfl, -, rfl⟩ := e
  obtain ⟨b', o', cs, e1, e2, e3, e4, e5⟩ := h4 k hk
  refine ⟨b', o', e1, ?_⟩
  have := e4 0 (by omega)
  have e5' : cs = #[.string l[k].user, .int .i64 l[k].n] := e5
  subst e5'
  simpa using this

set_option maxRecDepth 100000 in
set_option maxHeartbeats 4000000 in
theorem r08_Long_far1 (cs : Array Value) (e : Ev) (w : World) (h : EvC w cs e) (hfar : far1 e) :
    Calls Try.prog 38 #[.agg cs] w (GivesBoolB true w) := by
  have hf := first6 _ _ _ _ _ _ hfar
  clear hfar
  obtain ⟨ct, a1, a2, a3, a4, a5, a6, c1, c2, c3, c4, c5, c6, L, hA, hD, hU⟩ := longAt cs e w h
  clear h
  have HN := Lib.hid L.size; have HO := Lib.hid L.one; have HL := Lib.hid L.sub
  have e8 := L.e8
  have e9 := L.e9
  have d5 := L.d5
  have d6 := L.d6
  have d7 := L.d7
  have d8 := L.d8
  clear L hA hD hU
  rcases hf with q | ⟨q1, q⟩ | ⟨q1, q2, q⟩ | ⟨q1, q2, q3, q⟩ | ⟨q1, q2, q3, q4, q⟩ | ⟨q1, q2, q3, q4, q5, q⟩
  all_goals
    have q' := yes40 q
    try have q1' := no40 q1
    try have q2' := no40 q2
    try have q3' := no40 q3
    try have q4' := no40 q4
    try have q5' := no40 q5
    clear q
    try clear q1
    try clear q2
    try clear q3
    try clear q4
    try clear q5
    go_enter Try.func38, Try.ntmps38
    go_wp2_with (first
      | ((with_reducible show wpList _ _ _ (⟨some 8, _, _, _, _, _⟩ :: _) _ _); refine wpList_load_agg rfl _ _ rfl w.heap.size 10 rfl ct 16 Try.isAgg61 Try.sizeOf61 HN.out HL.out ?_)
      | ((with_reducible show wpList _ _ _ (⟨none, .store 61 _ _, _, _, _, _⟩ :: _) _ _); refine wpList_store_new rfl _ _ _ rfl (w.alloc (.cells cs 65)) 61 _ ct rfl _ rfl (by simp) rfl 16 Try.sizeCont HN.out rfl HO.out ?_))
    go_ret
    exact ⟨rfl, box2_below _ _ _⟩

set_option maxRecDepth 100000 in
set_option maxHeartbeats 4000000 in
theorem r08_Long_far2 (cs : Array Value) (e : Ev) (w : World) (h : EvC w cs e) (hnear : ¬ far1 e) (hfar : far2 e) :
    Calls Try.prog 38 #[.agg cs] w (GivesBoolB true w) := by
  have hf := first6 _ _ _ _ _ _ hfar
  unfold far1 at hnear
  simp only [not_or] at hnear
  obtain ⟨n1, n2, n3, n4, n5, n6⟩ := hnear
  have n1' := no40 n1
  have n2' := no40 n2
  have n3' := no40 n3
  have n4' := no40 n4
  have n5' := no40 n5
  have n6' := no40 n6
  clear n1 n2 n3 n4 n5 n6
  clear hfar
  obtain ⟨ct, a1, a2, a3, a4, a5, a6, c1, c2, c3, c4, c5, c6, L, hA, hD, hU⟩ := longAt cs e w h
  clear h
  have HN := Lib.hid L.size; have HO := Lib.hid L.one; have HL := Lib.hid L.sub
  have e1 := L.e1
  have e2 := L.e2
  have e5 := L.e5
  have e8 := L.e8
  have e9 := L.e9
  have e27 := L.e27
  have d0 := L.d0
  have d4 := L.d4
  have d5 := L.d5
  have d6 := L.d6
  have d7 := L.d7
  have d8 := L.d8
  clear L hA hD hU
  rcases hf with q | ⟨q1, q⟩ | ⟨q1, q2, q⟩ | ⟨q1, q2, q3, q⟩ | ⟨q1, q2, q3, q4, q⟩ | ⟨q1, q2, q3, q4, q5, q⟩
  all_goals
    have q' := yes2000 q
    try have q1' := no2000 q1
    try have q2' := no2000 q2
    try have q3' := no2000 q3
    try have q4' := no2000 q4
    try have q5' := no2000 q5
    clear q
    try clear q1
    try clear q2
    try clear q3
    try clear q4
    try clear q5
    go_enter Try.func38, Try.ntmps38
    go_wp2_with (first
      | ((with_reducible show wpList _ _ _ (⟨some 8, _, _, _, _, _⟩ :: _) _ _); refine wpList_load_agg rfl _ _ rfl w.heap.size 10 rfl ct 16 Try.isAgg61 Try.sizeOf61 HN.out HL.out ?_)
      | ((with_reducible show wpList _ _ _ (⟨none, .store 61 _ _, _, _, _, _⟩ :: _) _ _); refine wpList_store_new rfl _ _ _ rfl (w.alloc (.cells cs 65)) 61 _ ct rfl _ rfl (by simp) rfl 16 Try.sizeCont HN.out rfl HO.out ?_))
    go_ret
    exact ⟨rfl, box2_below _ _ _⟩

set_option maxRecDepth 100000 in
set_option maxHeartbeats 4000000 in
theorem r08_Long_near (cs : Array Value) (e : Ev) (w : World) (h : EvC w cs e) (hnear : ¬ far1 e) (hnear2 : ¬ far2 e) :
    Calls Try.prog 38 #[.agg cs] w (GivesBoolB (longEv e) w) := by
  have hl3 : longEv e = true ↔ far3 e := by unfold longEv; simp [hnear, hnear2]
  have HL3 := Lib.hid hl3; clear hl3
  unfold far1 at hnear
  unfold far2 at hnear2
  simp only [not_or] at hnear hnear2
  obtain ⟨n1, n2, n3, n4, n5, n6⟩ := hnear
  have n1' := no40 n1
  have n2' := no40 n2
  have n3' := no40 n3
  have n4' := no40 n4
  have n5' := no40 n5
  have n6' := no40 n6
  have b3 : e.content.allow.length ≤ 40 := by omega
  have b4 : e.content.deny.length ≤ 40 := by omega
  have b5 : e.content.levels.users.length ≤ 40 := by omega
  clear n1 n2 n3 n4 n5 n6
  obtain ⟨m1, m2, m3, m4, m5, m6⟩ := hnear2
  have m1' := no2000 m1
  have m2' := no2000 m2
  have m3' := no2000 m3
  have m4' := no2000 m4
  have m5' := no2000 m5
  have m6' := no2000 m6
  clear m1 m2 m3 m4 m5 m6
  obtain ⟨ct, a1, a2, a3, a4, a5, a6, c1, c2, c3, c4, c5, c6, L, hA, hD, hU⟩ := longAt cs e w h
  clear h
  have HN := Lib.hid L.size; have HO := Lib.hid L.one; have HL := Lib.hid L.sub
  have e1 := L.e1
  have e2 := L.e2
  have e5 := L.e5
  have e8 := L.e8
  have e9 := L.e9
  have e27 := L.e27
  have d0 := L.d0
  have d4 := L.d4
  have d5 := L.d5
  have d6 := L.d6
  have d7 := L.d7
  have d8 := L.d8
  clear L
  have hb2 := box2_below w (.cells cs 65) (.cells ct 61)
  have hA2 := hA.below StrC.mono hb2
  have hD2 := hD.below StrC.mono hb2
  have hU2 := hU.below LvC.mono hb2
  clear hA hD hU
  go_enter Try.func38, Try.ntmps38
  go_wp2_with (first
    | ((with_reducible show wpList _ _ _ (⟨some 8, _, _, _, _, _⟩ :: _) _ _); refine wpList_load_agg rfl _ _ rfl w.heap.size 10 rfl ct 16 Try.isAgg61 Try.sizeOf61 HN.out HL.out ?_)
    | ((with_reducible show wpList _ _ _ (⟨none, .store 61 _ _, _, _, _, _⟩ :: _) _ _); refine wpList_store_new rfl _ _ _ rfl (w.alloc (.cells cs 65)) 61 _ ct rfl _ rfl (by simp) rfl 16 Try.sizeCont HN.out rfl HO.out ?_))
  go_loop [4] (fun i => ∃ k : Nat, k ≤ e.content.allow.length ∧ i = .int .i64 k ∧ ∀ j, (hj : j < e.content.allow.length) → j < k → ¬ 2000 < e.content.allow[j].size) (fun i => e.content.allow.length - (intOf i).toNat)
  case atStart => exact ⟨0, Nat.zero_le _, rfl, fun j _ hj => by omega⟩
  case round =>
    obtain ⟨k, hk, rfl, hlow⟩ := hrel
    have HA := Lib.hid hlow; clear hlow
    by_cases hlt : k < e.content.allow.length
    · obtain ⟨b, o, rfl, hcell⟩ := hA2.ielem hlt
      by_cases hq : 2000 < e.content.allow[k].size
      · have hq' := yes2000 hq
        have hyes : longEv e = true := HL3.out.2 (.inl ⟨_, List.getElem_mem hlt, hq⟩)
        have HY := Lib.hid hyes; clear hyes hq
        go_wp2
        go_ret
        exact ⟨by rw [HY.out]; rfl, hb2⟩
      · have hq' := no2000 hq
        have HQ := Lib.hid hq; clear hq
        go_wp2
        go_round
        case rel =>
          refine ⟨k + 1, by omega, by go_num, fun j hj hjk => ?_⟩
          by_cases ej : j = k
          · subst ej; exact HQ.out
          · exact HA.out j hj (by omega)
        case measure => simp [intOf]; omega
    · have hkn : k = e.content.allow.length := by omega
      subst hkn
      clear hlt hk
      go_wp2
      go_loop [5] (fun i => ∃ k : Nat, k ≤ e.content.deny.length ∧ i = .int .i64 k ∧ ∀ j, (hj : j < e.content.deny.length) → j < k → ¬ 2000 < e.content.deny[j].size) (fun i => e.content.deny.length - (intOf i).toNat)
      case atStart => exact ⟨0, Nat.zero_le _, rfl, fun j _ hj => by omega⟩
      case round =>
        obtain ⟨k, hk, rfl, hlow⟩ := hrel
        have HD := Lib.hid hlow; clear hlow
        by_cases hlt : k < e.content.deny.length
        · obtain ⟨b, o, rfl, hcell⟩ := hD2.ielem hlt
          by_cases hq : 2000 < e.content.deny[k].size
          · have hq' := yes2000 hq
            have hyes : longEv e = true := HL3.out.2 (.inr (.inl ⟨_, List.getElem_mem hlt, hq⟩))
            have HY := Lib.hid hyes; clear hyes hq
            go_wp2
            go_ret
            exact ⟨by rw [HY.out]; rfl, hb2⟩
          · have hq' := no2000 hq
            have HQ := Lib.hid hq; clear hq
            go_wp2
            go_round
            case rel =>
              refine ⟨k + 1, by omega, by go_num, fun j hj hjk => ?_⟩
              by_cases ej : j = k
              · subst ej; exact HQ.out
              · exact HD.out j hj (by omega)
            case measure => simp [intOf]; omega
        · have hkn : k = e.content.deny.length := by omega
          subst hkn
          clear hlt hk
          go_wp2
          go_loop [6] (fun i => ∃ k : Nat, k ≤ e.content.levels.users.length ∧ i = .int .i64 k ∧ ∀ j, (hj : j < e.content.levels.users.length) → j < k → ¬ 2000 < e.content.levels.users[j].user.size) (fun i => e.content.levels.users.length - (intOf i).toNat)
          case atStart => exact ⟨0, Nat.zero_le _, rfl, fun j _ hj => by omega⟩
          case round =>
            obtain ⟨k, hk, rfl, hlow⟩ := hrel
            have HU := Lib.hid hlow; clear hlow
            by_cases hlt : k < e.content.levels.users.length
            · obtain ⟨b, o, rfl, hcell⟩ := user_cell hU2 hlt
              by_cases hq : 2000 < e.content.levels.users[k].user.size
              · have hq' := yes2000 hq
                have hyes : longEv e = true := HL3.out.2 (.inr (.inr ⟨_, List.getElem_mem hlt, hq⟩))
                have HY := Lib.hid hyes; clear hyes hq
                go_wp2
                go_ret
                exact ⟨by rw [HY.out]; rfl, hb2⟩
              · have hq' := no2000 hq
                have HQ := Lib.hid hq; clear hq
                go_wp2
                go_round
                case rel =>
                  refine ⟨k + 1, by omega, by go_num, fun j hj hjk => ?_⟩
                  by_cases ej : j = k
                  · subst ej; exact HQ.out
                  · exact HU.out j hj (by omega)
                case measure => simp [intOf]; omega
            · have hkn : k = e.content.levels.users.length := by omega
              subst hkn
              clear hlt hk
              go_wp2
              have hno : longEv e = false := by
                rw [← Bool.not_eq_true]
                intro hy
                rcases HL3.out.1 hy with ⟨s, hs, h2⟩ | ⟨s, hs, h2⟩ | ⟨s, hs, h2⟩
                · obtain ⟨j, hj, rfl⟩ := List.getElem_of_mem hs; exact HA.out j hj hj h2
                · obtain ⟨j, hj, rfl⟩ := List.getElem_of_mem hs; exact HD.out j hj hj h2
                · obtain ⟨j, hj, rfl⟩ := List.getElem_of_mem hs; exact HU.out j hj hj h2
              have HNO := Lib.hid hno; clear hno
              go_ret
              exact ⟨by rw [HNO.out]; rfl, hb2⟩

set_option maxHeartbeats 400000 in
theorem r08_Long (cs : Array Value) (e : Ev) (w : World) (h : EvC w cs e) :
    Calls Try.prog 38 #[.agg cs] w (GivesBoolB (longEv e) w) := by
  by_cases h1 : far1 e
  · have : longEv e = true := by unfold longEv; simp [h1]
    rw [this]; exact r08_Long_far1 cs e w h h1
  · by_cases h2 : far2 e
    · have : longEv e = true := by unfold longEv; simp [h2]
      rw [this]; exact r08_Long_far2 cs e w h h1 h2
    · exact r08_Long_near cs e w h h1 h2
end Go.Proofs.Ytdhhcmdofnjhiaa
