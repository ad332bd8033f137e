/- What the reference's Great of a room answers. No condition. -/
import Derived.Test.YtdhhcmdofnjhiaaGreat2
namespace Go.Proofs.Ytdhhcmdofnjhiaa
open Go.RowKit

/-- A room's cells, for a walk. -/
structure RmAt (w : World) (cs : Array Value) (r : Rm) (ev rw wt hd st rc ty : Value) : Prop where
  one : cs.all (·.oneCell') = true
  size : cs.size = 9
  c0 : cs[0]? = some (.string r.id)
  c1 : cs[1]? = some ev
  c2 : cs[2]? = some rw
  c3 : cs[3]? = some wt
  c4 : cs[4]? = some hd
  c5 : cs[5]? = some st
  c6 : cs[6]? = some (.int .i64 r.next)
  c7 : cs[7]? = some rc
  c8 : cs[8]? = some ty
  ev : Evs w ev r.events
  rw : SlR 4 RowC w rw r.rows
  wt : Evs w wt r.waiting
  hd : Ints w hd r.heads
  st : SlR 3 EntC w st r.state
  rc : SlR 4 RcpC w rc r.receipts
  ty : SlR 2 TypC w ty r.typing

theorem RmC.at {w : World} {cs : Array Value} {r : Rm} (h : RmC w cs r) : ∃ ev rw wt hd st rc ty, RmAt w cs r ev rw wt hd st rc ty := by
  obtain ⟨evs, rows, wait, heads, st, rcps, typs, rfl, h1, h2, h3, h4, h5, h6, h7⟩ := h
  refine ⟨evs, rows, wait, heads, st, rcps, typs, ?_, rfl, rfl, rfl, rfl, rfl, rfl, rfl, rfl, rfl, rfl, h1, h2, h3, h4, h5, h6, h7⟩
  obtain ⟨_, _, rfl, -⟩ := h1
  obtain ⟨_, _, rfl, -⟩ := h2
  obtain ⟨_, _, rfl, -⟩ := h3
  obtain ⟨_, _, rfl, -⟩ := h4
  obtain ⟨_, _, rfl, -⟩ := h5
  obtain ⟨_, _, rfl, -⟩ := h6
  obtain ⟨_, _, rfl, -⟩ := h7
  simp [Value.oneCell']

theorem str_cell {α : Type} {sz : Nat} {R : World → Array Value → α → Prop} (f : α → ByteArray) (j0 : Nat) (hf : ∀ w cs x, R w cs x → cs[j0]? = some (.string (f x))) {w : World} {a : Option Addr} {n c : Nat} {l : List α}
    (h : SlR sz R w (.slice a n c) l) {k : Nat} (hk : k < l.length) : ∃ b o, a = some ⟨b, o, none⟩ ∧ w.cell? ⟨b, o + k * sz + j0, none⟩ = some (.string (f l[k])) := by
  obtain ⟨b, o, cs, e1, e2, e3, e4, e5⟩ := h.ev hk
  have hj := hf _ _ _ e5
  have hlt : j0 < cs.size := (Array.getElem?_eq_some_iff.1 hj).1
  refine ⟨b, o, e1, ?_⟩
  rw [e4 j0 (by omega)]
  simp [Array.getD, hlt] at hj ⊢
  exact hj

set_option maxRecDepth 100000 in
set_option maxHeartbeats 4000000 in
theorem r27_Great_far (cs : Array Value) (r : Rm) (n : Int) (w : World) (h : RmC w cs r) (hfar : farRm r n) :
    Calls Try.prog 7 #[.agg cs, .int .i64 n] w (GivesBoolB true w) := by
  have hf := first8 _ _ _ _ _ _ _ _ hfar
  clear hfar
  obtain ⟨ev, rw, wt, hd, st, rc, ty, L⟩ := h.at
  clear h
  obtain ⟨hone, hsz, c0, c1, c2, c3, c4, c5, c6, c7, c8, hev, hrw, hwt, hhd, hst, hrc, hty⟩ := L
  have hrw0 := hrw; have hhd0 := hhd; have hst0 := hst; have hrc0 := hrc; have hty0 := hty
  obtain ⟨a2, l2, rfl, -, -, -, -⟩ := hrw
  obtain ⟨a4, l4, rfl, -, -, -, -⟩ := hhd
  obtain ⟨a5, l5, rfl, -, -, -, -⟩ := hst
  obtain ⟨a7, l7, rfl, -, -, -, -⟩ := hrc
  obtain ⟨a8, l8, rfl, -, -, -, -⟩ := hty
  have hb0 : Below w.heap.size w (w.alloc (.cells cs 30)) := (Below.refl _ _).alloc (Nat.le_refl _) _
  have hk0 := box_all w cs 30
  have hsz1 : (w.alloc (.cells cs 30)).heap.size = w.heap.size + 1 := by simp
  have HSZ := Lib.hid hsz1
  have HEV := Lib.hid (hev.below EvC.mono hb0)
  clear hone hsz hsz1
  rcases hf with q | ⟨q1, q⟩ | ⟨q1, q2, q⟩ | ⟨q1, q2, q3, q⟩ | ⟨q1, q2, q3, q4, q⟩ | ⟨q1, q2, q3, q4, q5, q⟩ | ⟨q1, q2, q3, q4, q5, q6, q⟩ | ⟨q1, q2, q3, q4, q5, q6, q7, q⟩
  case inl =>
    have Q := Lib.hid q; clear q
    go_enter Try.func7, Try.ntmps7
    go_wp2_with (first
      | (go_at_call 22; refine (r08_Great ev r.events n _ HEV.out true Q.out).mono ?_; rintro e w1 ⟨rfl, hb1⟩; rw [HSZ.out] at hb1; have hk1 := box_keep hk0 hb1 (Nat.lt_succ_self _); have hbw1 := hb0.trans (hb1.mono (Nat.le_succ _)); have hs1 := hb1.size; rw [HSZ.out] at hs1))
    go_ret
    exact ⟨rfl, hbw1⟩
  all_goals
    have q1' : greatEvs r.events n = false := by simpa using q1
    have Q1 := Lib.hid q1'; clear q1 q1'
  case inr.inl =>
    have Q := Lib.hid q; clear q
    go_enter Try.func7, Try.ntmps7
    go_wp2_with fail
    refine (r08_Great ev r.events n _ HEV.out false Q1.out).mono ?_
    rintro e w1 ⟨rfl, hb1⟩
    rw [HSZ.out] at hb1
    have hk1 := box_keep hk0 hb1 (Nat.lt_succ_self _); have hbw1 := hb0.trans (hb1.mono (Nat.le_succ _)); have hs1 := hb1.size; rw [HSZ.out] at hs1
    go_wp2_with fail
    refine (r08_Great wt r.waiting n _ (hwt.below EvC.mono hbw1) true Q.out).mono ?_
    rintro e w2 ⟨rfl, hb2⟩
    have hbw2 := hbw1.trans (hb2.mono (Nat.le_of_succ_le hs1))
    go_wp2
    go_ret
    exact ⟨rfl, hbw2⟩
  all_goals
    have q2' : greatEvs r.waiting n = false := by simpa using q2
    have Q2 := Lib.hid q2'; clear q2 q2'
    first | have q' := dec_lt q | have q' := yes40 q | have q' := yes60 q | have q' := yes2000 q
    try have q3' := dec_ge q3
    try have q4' := no40 q4
    try have q5' := no60 q5
    try have q6' := no40 q6
    try have q7' := no40 q7
    clear q
    try clear q3
    try clear q4
    try clear q5
    try clear q6
    try clear q7
    go_enter Try.func7, Try.ntmps7
    go_wp2_with fail
    refine (r08_Great ev r.events n _ HEV.out false Q1.out).mono ?_
    rintro e w1 ⟨rfl, hb1⟩
    rw [HSZ.out] at hb1
    have hk1 := box_keep hk0 hb1 (Nat.lt_succ_self _); have hbw1 := hb0.trans (hb1.mono (Nat.le_succ _)); have hs1 := hb1.size; rw [HSZ.out] at hs1
    go_wp2_with fail
    refine (r08_Great wt r.waiting n _ (hwt.below EvC.mono hbw1) false Q2.out).mono ?_
    rintro e w2 ⟨rfl, hb2⟩
    have hb2' := hb2.mono hs1; have hk2 := box_keep hk1 hb2' (Nat.lt_succ_self _); have hbw2 := hbw1.trans (hb2.mono (Nat.le_of_succ_le hs1))
    go_wp2
    go_ret
    exact ⟨rfl, hbw2⟩

set_option maxRecDepth 100000 in
set_option maxHeartbeats 4000000 in
theorem r27_Great_near (cs : Array Value) (r : Rm) (n : Int) (w : World) (h : RmC w cs r) (hnear : ¬ farRm r n) :
    Calls Try.prog 7 #[.agg cs, .int .i64 n] w (GivesBoolB (greatRm r n) w) := by
  have hl3 : greatRm r n = true ↔ farRm2 r := by unfold greatRm; simp [hnear]
  have HL3 := Lib.hid hl3; clear hl3
  unfold farRm at hnear
  simp only [not_or] at hnear
  obtain ⟨q1, q2, q3, q4, q5, q6, q7, q8⟩ := hnear
  obtain ⟨ev, rw, wt, hd, st, rc, ty, L⟩ := h.at
  clear h
  obtain ⟨hone, hsz, c0, c1, c2, c3, c4, c5, c6, c7, c8, hev, hrw, hwt, hhd, hst, hrc, hty⟩ := L
  have hrw0 := hrw; have hhd0 := hhd; have hst0 := hst; have hrc0 := hrc; have hty0 := hty
  obtain ⟨a2, l2, rfl, -, -, -, -⟩ := hrw
  obtain ⟨a4, l4, rfl, -, -, -, -⟩ := hhd
  obtain ⟨a5, l5, rfl, -, -, -, -⟩ := hst
  obtain ⟨a7, l7, rfl, -, -, -, -⟩ := hrc
  obtain ⟨a8, l8, rfl, -, -, -, -⟩ := hty
  have hb0 : Below w.heap.size w (w.alloc (.cells cs 30)) := (Below.refl _ _).alloc (Nat.le_refl _) _
  have hk0 := box_all w cs 30
  have hsz1 : (w.alloc (.cells cs 30)).heap.size = w.heap.size + 1 := by simp
  have HSZ := Lib.hid hsz1
  have HEV := Lib.hid (hev.below EvC.mono hb0)
  clear hone hsz hsz1
  have q1' : greatEvs r.events n = false := by simpa using q1
  have q2' : greatEvs r.waiting n = false := by simpa using q2
  have Q1 := Lib.hid q1'; have Q2 := Lib.hid q2'
  have q3' := dec_ge q3
  have q4' := no40 q4
  have q5' := no60 q5
  have q6' := no40 q6
  have q7' := no40 q7
  have q8' := no2000 q8
  have b5 : r.state.length ≤ 60 := by omega
  have b6 : r.receipts.length ≤ 40 := by omega
  have b7 : r.typing.length ≤ 40 := by omega
  clear q1 q1' q2 q2' q3 q4 q5 q6 q7 q8
  go_enter Try.func7, Try.ntmps7
  go_wp2_with fail
  refine (r08_Great ev r.events n _ HEV.out false Q1.out).mono ?_
  rintro e w1 ⟨rfl, hb1⟩
  rw [HSZ.out] at hb1
  have hk1 := box_keep hk0 hb1 (Nat.lt_succ_self _); have hbw1 := hb0.trans (hb1.mono (Nat.le_succ _)); have hs1 := hb1.size; rw [HSZ.out] at hs1
  go_wp2_with fail
  refine (r08_Great wt r.waiting n _ (hwt.below EvC.mono hbw1) false Q2.out).mono ?_
  rintro e w2 ⟨rfl, hb2⟩
  have hb2' := hb2.mono hs1; have hk2 := box_keep hk1 hb2' (Nat.lt_succ_self _); have hbw2 := hbw1.trans (hb2.mono (Nat.le_of_succ_le hs1))
  have hA2 := hst0.below EntC.mono hbw2
  have hD2 := hrc0.below RcpC.mono hbw2
  have hU2 := hty0.below TypC.mono hbw2
  clear hk0 hk1 hb2' hb2 hb1 hst0 hrc0 hty0
  go_wp2
  go_loop [5] (fun i => ∃ k : Nat, k ≤ r.state.length ∧ i = .int .i64 k ∧ ∀ j, (hj : j < r.state.length) → j < k → ¬ 2000 < r.state[j].key.size) (fun i => r.state.length - (intOf i).toNat)
  case atStart => exact ⟨0, Nat.zero_le _, rfl, fun j _ hj => by omega⟩
  case round =>
    obtain ⟨k, hk, rfl, hlow⟩ := hrel
    have HA := Lib.hid hlow; clear hlow
    by_cases hlt : k < r.state.length
    · obtain ⟨b, o, rfl, hcell⟩ := str_cell (fun x => x.key) 1 (by intro w cs x hx; unfold EntC at hx; subst hx; rfl) hA2 hlt
      by_cases hq : 2000 < r.state[k].key.size
      · have hq' := yes2000 hq
        have hyes : greatRm r n = true := HL3.out.2 (.inl ⟨_, List.getElem_mem hlt, hq⟩)
        have HY := Lib.hid hyes; clear hyes hq
        go_wp2
        go_ret
        exact ⟨by rw [HY.out]; rfl, hbw2⟩
      · have hq' := no2000 hq
        have HQ := Lib.hid hq; clear hq
        go_wp2
        go_round
        case rel =>
          refine ⟨k + 1, by omega, by go_num, fun j hj hjk => ?_⟩
          by_cases ej : j = k
          · subst ej; exact HQ.out
          · exact HA.out j hj (by omega)
        case measure => simp [intOf]; omega
    · have hkn : k = r.state.length := by omega
      subst hkn
      clear hlt hk
      go_wp2
      go_loop [6] (fun i => ∃ k : Nat, k ≤ r.receipts.length ∧ i = .int .i64 k ∧ ∀ j, (hj : j < r.receipts.length) → j < k → ¬ 2000 < r.receipts[j].user.size) (fun i => r.receipts.length - (intOf i).toNat)
      case atStart => exact ⟨0, Nat.zero_le _, rfl, fun j _ hj => by omega⟩
      case round =>
        obtain ⟨k, hk, rfl, hlow⟩ := hrel
        have HD := Lib.hid hlow; clear hlow
        by_cases hlt : k < r.receipts.length
        · obtain ⟨b, o, rfl, hcell⟩ := str_cell (fun x => x.user) 0 (by intro w cs x hx; unfold RcpC at hx; subst hx; rfl) hD2 hlt; rw [Nat.add_zero] at hcell
          by_cases hq : 2000 < r.receipts[k].user.size
          · have hq' := yes2000 hq
            have hyes : greatRm r n = true := HL3.out.2 (.inr (.inl ⟨_, List.getElem_mem hlt, hq⟩))
            have HY := Lib.hid hyes; clear hyes hq
            go_wp2
            go_ret
            exact ⟨by rw [HY.out]; rfl, hbw2⟩
          · have hq' := no2000 hq
            have HQ := Lib.hid hq; clear hq
            go_wp2
            go_round
            case rel =>
              refine ⟨k + 1, by omega, by go_num, fun j hj hjk => ?_⟩
              by_cases ej : j = k
              · subst ej; exact HQ.out
              · exact HD.out j hj (by omega)
            case measure => simp [intOf]; omega
        · have hkn : k = r.receipts.length := by omega
          subst hkn
          clear hlt hk
          go_wp2
          go_loop [7] (fun i => ∃ k : Nat, k ≤ r.typing.length ∧ i = .int .i64 k ∧ ∀ j, (hj : j < r.typing.length) → j < k → ¬ 2000 < r.typing[j].user.size) (fun i => r.typing.length - (intOf i).toNat)
          case atStart => exact ⟨0, Nat.zero_le _, rfl, fun j _ hj => by omega⟩
          case round =>
            obtain ⟨k, hk, rfl, hlow⟩ := hrel
            have HU := Lib.hid hlow; clear hlow
            by_cases hlt : k < r.typing.length
            · obtain ⟨b, o, rfl, hcell⟩ := str_cell (fun x => x.user) 0 (by intro w cs x hx; unfold TypC at hx; subst hx; rfl) hU2 hlt; rw [Nat.add_zero] at hcell
              by_cases hq : 2000 < r.typing[k].user.size
              · have hq' := yes2000 hq
                have hyes : greatRm r n = true := HL3.out.2 (.inr (.inr ⟨_, List.getElem_mem hlt, hq⟩))
                have HY := Lib.hid hyes; clear hyes hq
                go_wp2
                go_ret
                exact ⟨by rw [HY.out]; rfl, hbw2⟩
              · have hq' := no2000 hq
                have HQ := Lib.hid hq; clear hq
                go_wp2
                go_round
                case rel =>
                  refine ⟨k + 1, by omega, by go_num, fun j hj hjk => ?_⟩
                  by_cases ej : j = k
                  · subst ej; exact HQ.out
                  · exact HU.out j hj (by omega)
                case measure => simp [intOf]; omega
            · have hkn : k = r.typing.length := by omega
              subst hkn
              clear hlt hk
              go_wp2
              have hno : greatRm r n = false := by
                rw [← Bool.not_eq_true]
                intro hy
                rcases HL3.out.1 hy with ⟨s, hs, h2⟩ | ⟨s, hs, h2⟩ | ⟨s, hs, h2⟩
                · obtain ⟨j, hj, rfl⟩ := List.getElem_of_mem hs; exact HA.out j hj hj h2
                · obtain ⟨j, hj, rfl⟩ := List.getElem_of_mem hs; exact HD.out j hj hj h2
                · obtain ⟨j, hj, rfl⟩ := List.getElem_of_mem hs; exact HU.out j hj hj h2
              have HNO := Lib.hid hno; clear hno
              go_ret
              exact ⟨by rw [HNO.out]; rfl, hbw2⟩

theorem r27_Great (cs : Array Value) (r : Rm) (n : Int) (w : World) (h : RmC w cs r) (b : Bool) (hb : greatRm r n = b) :
    Calls Try.prog 7 #[.agg cs, .int .i64 n] w (GivesBoolB b w) := by
  subst hb
  by_cases h1 : farRm r n
  · have : greatRm r n = true := by unfold greatRm; simp [h1]
    rw [this]; exact r27_Great_far cs r n w h h1
  · exact r27_Great_near cs r n w h h1
end Go.Proofs.Ytdhhcmdofnjhiaa
