/- DigestDiffers answers true. No condition. Lines of this text were written by gen_law2.py. -/
import Derived.Test.YtdhhcmdofnjhiaaLawRooms
import Derived.Laws.StructEq
namespace Go.Proofs.Ytdhhcmdofnjhiaa
open Go.RowKit

section
variable {P : Program} {ops : Array Oper} {rest : List Oper} {o : Oper} {a : Act} {w : World} {Q : Exit → Act → World → Prop}
theorem wpList_load_want (hw : Region.wanted o (yielded ops a.tmps) = true) (ty : TypeId) (x : Operand) (ho : o.op = .load ty x) (b off : Nat) (hx : a.eval x = .pointer (some ⟨b, off, none⟩))
    (cs : Array Value) (n : Nat) (hA : ∀ w, (isAgg ty).run P w = .ok true w) (hS : ∀ w, (sizeOf ty).run P w = .ok n w) (hn : cs.size = n)
    (hc : ∀ j, j < n → w.cell? ⟨b, off + j, none⟩ = some (cs.getD j undef))
    (h : wpList P ops Q rest (a.put o.dst (.agg cs)) w) : wpList P ops Q (o :: rest) a w := by
  unfold wpList
  rw [if_pos hw]
  refine .inl ?_
  unfold Oper.wp execOp
  subst hn
  simp only [ho, hx, Instr.loadAt, Instr.sureAddr, Sem.run_bind, Sem.run_pure, Result.andThen_ok, run_loadVar_agg (P := P) w ty b off cs (hA w) (hS w) hc]
  exact h
end
theorem same_self (l : List Int) : sameB l l = true := by simp [sameB]
theorem does_eqlb {P : Program} {ops : Array Oper} {Q : Exit → Act → World → Prop} {φ : Nat → Value → World → Prop} {W : World} {a0 : Act} {i : Nat} {d : Option Tmp} {t : TypeId} {p : String} {af : Array Edge} {g : Option (Nat × Bool)}
    (ty ty2 : TypeId) (s j s2 j2 : Nat) (n m : Bool) (ho : ops[i]? = some ⟨d, .binOp .eql ty (.tmp s) (.tmp s2) ty2, t, p, af, g⟩) (hg : Wants ops φ i g) (hu : P.underlying ty = some .bool) (hj : edgeOn ops i j s = true) (hj2 : edgeOn ops i j2 s2 = true)
    (hv : ∀ v w, φ j v w → v = .bool n) (hv2 : ∀ v w, φ j2 v w → v = .bool m) (h : ∀ w, φ i (.bool (n == m)) w) : Does P ops Q φ W a0 i :=
  does_of _ ho hg fun a w _ _ hdep => opwp_run (v := .bool (n == m)) (w' := w) (by
    have e : a.eval (.tmp s) = .bool n := hv _ _ (hdep j s hj)
    have e2 : a.eval (.tmp s2) = .bool m := hv2 _ _ (hdep j2 s2 hj2)
    simp only [execOp, e, e2]
    have hq : (Op.equal ty (.bool n) (.bool m)).run P w = .ok (n == m) w := by first | exact run_equalIn_bool' 9999 ty n m hu | exact run_equalIn_bool' w 9999 ty n m hu
    simp [go_sem, eqGuard, binOp, hq]) ⟨_, rfl, h _, Below.refl _ _⟩

set_option maxRecDepth 100000 in
set_option maxHeartbeats 4000000 in
theorem law_DigestDiffers (cs ds : Array Value) (a b : Rm) (w : World) (ha : RmC w cs a) (hb : RmC w ds b) : Calls Try.prog 4 #[.agg cs, .agg ds] w (GivesBoolB true w) := by
  have hsa : cs.size = 9 := by obtain ⟨_, _, _, _, _, _, _, L⟩ := ha.at; exact L.size
  have hsb : ds.size = 9 := by obtain ⟨_, _, _, _, _, _, _, L⟩ := hb.at; exact L.size
  have HSA := Lib.hid hsa; have HSB := Lib.hid hsb
  have hb0 : Below w.heap.size w ((w.alloc (.cells cs 30)).alloc (.cells ds 30)) := ((Below.refl _ _).alloc (Nat.le_refl _) _).alloc (by simp) _
  have hka : ∀ k, ((w.alloc (.cells cs 30)).alloc (.cells ds 30)).cell? ⟨w.heap.size, k, none⟩ = cs[k]? := box_keep (box_all w cs 30) ((Below.refl _ _).alloc (Nat.le_refl _) _) (by simp)
  have hkb : ∀ k, ((w.alloc (.cells cs 30)).alloc (.cells ds 30)).cell? ⟨w.heap.size + 1, k, none⟩ = ds[k]? := by
    have := box_all (w.alloc (.cells cs 30)) ds 30
    rw [show (w.alloc (.cells cs 30)).heap.size = w.heap.size + 1 by simp] at this
    exact this
  have hsz0 : ((w.alloc (.cells cs 30)).alloc (.cells ds 30)).heap.size = w.heap.size + 1 + 1 := by simp
  have HSZ := Lib.hid hsz0
  have HGA := Lib.hid (r27_Great cs a 14 _ (ha.below' hb0))
  have HAA := Lib.hid (agg_of_keep hka hsa)
  have hgb : ∀ w1, Below (w.heap.size + 1 + 1) ((w.alloc (.cells cs 30)).alloc (.cells ds 30)) w1 → RmC w1 ds b ∧ (∀ j, j < 9 → w1.cell? ⟨w.heap.size + 1, 0 + j, none⟩ = some (ds.getD j undef)) := fun w1 h1 =>
    ⟨(hb.below' hb0).below' (by rw [hsz0]; exact h1), agg_of_keep (box_keep hkb h1 (by omega)) hsb⟩
  have HGB := Lib.hid hgb
  clear hsz0
  cases hga : greatRm a 14 with
  | true =>
    have HT := Lib.hid hga; clear hga
    go_enter Try.func4, Try.ntmps4
    go_wp2_with (first
      | ((with_reducible show wpList _ _ _ (⟨some 5, _, _, _, _, _⟩ :: _) _ _); refine wpList_load_agg rfl _ _ rfl w.heap.size 0 rfl cs 9 Try.isAgg30 Try.sizeOf30 HSA.out HAA.out ?_)
      | (go_at_call 7; refine (HGA.out true HT.out).mono ?_; rintro e w1 ⟨rfl, hb1⟩))
    go_ret
    exact ⟨rfl, hb0.trans (hb1.mono (by rw [HSZ.out]; omega))⟩
  | false =>
    have hna := small_of_near hga
    have HT := Lib.hid hga; clear hga
    cases hgb2 : greatRm b 14 with
    | true =>
      have HU := Lib.hid hgb2; clear hgb2
      go_enter Try.func4, Try.ntmps4
      go_wp2_with (first
        | ((with_reducible show wpList _ _ _ (⟨some 5, _, _, _, _, _⟩ :: _) _ _); refine wpList_load_agg rfl _ _ rfl w.heap.size 0 rfl cs 9 Try.isAgg30 Try.sizeOf30 HSA.out HAA.out ?_)
        | ((with_reducible show wpList _ _ _ (⟨some 8, _, _, _, _, _⟩ :: _) _ _); refine wpList_load_want rfl _ _ rfl (w.heap.size + 1) 0 rfl ds 9 Try.isAgg30 Try.sizeOf30 HSB.out (HGB.out w1 hb1).2 ?_)
        | (go_at_call 7; refine (r27_Great ds b 14 w1 (HGB.out w1 hb1).1 true HU.out).mono ?_; rintro e w2 ⟨rfl, hb2⟩)
        | (go_at_call 7; refine (HGA.out false HT.out).mono ?_; rintro e w1 ⟨rfl, hb1⟩; rw [HSZ.out] at hb1))
      go_ret
      have hs1 := hb1.size; rw [HSZ.out] at hs1
      exact ⟨rfl, (hb0.trans (hb1.mono (by omega))).trans (hb2.mono (by omega))⟩
    | false =>
      have hnb := small_of_near hgb2
      have HU := Lib.hid hgb2; clear hgb2
      go_enter Try.func4, Try.ntmps4
      go_wp2_with (first
        | ((with_reducible show wpList _ _ _ (⟨some 5, _, _, _, _, _⟩ :: _) _ _); refine wpList_load_agg rfl _ _ rfl w.heap.size 0 rfl cs 9 Try.isAgg30 Try.sizeOf30 HSA.out HAA.out ?_)
        | ((with_reducible show wpList _ _ _ (⟨some 8, _, _, _, _, _⟩ :: _) _ _); refine wpList_load_want rfl _ _ rfl (w.heap.size + 1) 0 rfl ds 9 Try.isAgg30 Try.sizeOf30 HSB.out (HGB.out w1 hb1).2 ?_)
        | (go_at_call 7; refine (r27_Great ds b 14 w1 (HGB.out w1 hb1).1 false HU.out).mono ?_; rintro e w2 ⟨rfl, hb2⟩)
        | (go_at_call 7; refine (HGA.out false HT.out).mono ?_; rintro e w1 ⟨rfl, hb1⟩; rw [HSZ.out] at hb1))
      have hs1 := hb1.size; rw [HSZ.out] at hs1
      have hs2 := hb2.size
      have hbt := hb1.trans (hb2.mono hs1)
      have HKA := fun w' (h : Below w2.heap.size w2 w') => box_keep (box_keep hka hbt (by omega)) h (show w.heap.size < w2.heap.size by omega)
      have HKB := fun w' (h : Below w2.heap.size w2 w') => box_keep (box_keep hkb hbt (by omega)) h (show w.heap.size + 1 < w2.heap.size by omega)
      have hbw := hb0.trans (hbt.mono (by omega))
      have hra := ha.below' hbw
      have hrb := hb.below' hbw
      have la := hna.ev; have lb := hnb.ev
      refine wp_region_stable (φ := kds [.rm a, .rm b, .ints (differU a b), .rm a, .rm b, .ints (differU a b), .val (.bool true), .val (.bool true), .rm a, .rm b, .ints (commonU a b), .rm a, .rm b, .ints (commonU a b), .val (.bool true), .val (.bool true), .val (.bool true), .rm a, .rm b, .val (.int .i64 (behindU a b)), .rm a, .rm b, .val (.int .i64 (behindU a b)), .val (.bool true), .val (.bool true), .val (.bool true), .rm a, .rm b, .val (.bool (sameU a b)), .rm a, .rm b, .val (.bool (sameU a b)), .val (.bool true), .val (.bool true), .val (.bool true), .val (.bool true), .val (.bool true), .val (.bool true)]) (by kernel_rfl) (by kernel_rfl) (by kernel_rfl) (by kernel_rfl) (kds_mono _) (upTo_spec 38 ?_) ?_
      · refine ⟨⟨⟨⟨⟨⟨⟨⟨⟨⟨⟨⟨⟨⟨⟨⟨⟨⟨⟨⟨⟨⟨⟨⟨⟨⟨⟨⟨⟨⟨⟨⟨⟨⟨⟨⟨⟨⟨trivial, ?_⟩, ?_⟩, ?_⟩, ?_⟩, ?_⟩, ?_⟩, ?_⟩, ?_⟩, ?_⟩, ?_⟩, ?_⟩, ?_⟩, ?_⟩, ?_⟩, ?_⟩, ?_⟩, ?_⟩, ?_⟩, ?_⟩, ?_⟩, ?_⟩, ?_⟩, ?_⟩, ?_⟩, ?_⟩, ?_⟩, ?_⟩, ?_⟩, ?_⟩, ?_⟩, ?_⟩, ?_⟩, ?_⟩, ?_⟩, ?_⟩, ?_⟩, ?_⟩, ?_⟩
        · exact does_room _ 2 a cs (w.heap.size) rfl (.inl rfl) (by kernel_rfl) rfl _ Try.isAgg30 Try.sizeOf30 hsa HKA hra (fun _ _ h => h)
        · exact does_room _ 3 b ds (w.heap.size + 1) rfl (.inl rfl) (by kernel_rfl) rfl _ Try.isAgg30 Try.sizeOf30 hsb HKB hrb (fun _ _ h => h)
        · exact does_call2 _ 11 0 12 1 _ rfl (.inl rfl) (enters_of_b (by kernel_rfl)) (by kernel_rfl) (by kernel_rfl) (by rintro _ _ w4 hb ⟨cs, rfl, h1⟩ ⟨ds, rfl, h2⟩; exact (digest_Differ cs ds a b w4 h1 h2 la lb).mono fun e w5 h => by obtain ⟨v, rfl, h3, h4⟩ := h; first | exact ⟨v, rfl, h3, h4⟩ | exact ⟨v, rfl, ints_of_owns h3, h4⟩)
        · exact does_room _ 2 a cs (w.heap.size) rfl (.inl rfl) (by kernel_rfl) rfl _ Try.isAgg30 Try.sizeOf30 hsa HKA hra (fun _ _ h => h)
        · exact does_room _ 3 b ds (w.heap.size + 1) rfl (.inl rfl) (by kernel_rfl) rfl _ Try.isAgg30 Try.sizeOf30 hsb HKB hrb (fun _ _ h => h)
        · exact does_call2 _ 14 3 15 4 _ rfl (.inl rfl) (enters_of_b (by kernel_rfl)) (by kernel_rfl) (by kernel_rfl) (by rintro _ _ w4 hb ⟨cs, rfl, h1⟩ ⟨ds, rfl, h2⟩; exact (r54_Differ cs ds a b w4 h1 h2 la lb).mono fun e w5 h => by obtain ⟨v, rfl, h3, h4⟩ := h; first | exact ⟨v, rfl, h3, h4⟩ | exact ⟨v, rfl, ints_of_owns h3, h4⟩)
        · exact does_call2 _ 13 2 16 5 _ rfl (.inl rfl) (enters_of_b (by kernel_rfl)) (by kernel_rfl) (by kernel_rfl) (fun v v2 w4 _ h1 h2 => (r01_SameB v v2 (differU a b) (differU a b) w4 h1 h2).mono fun e w5 h => ⟨_, h.1, congrArg Value.bool (same_self _), h.2⟩)
        · exact does_move 17 6 rfl (.inl rfl) (by kernel_rfl) (fun _ _ h => h)
        · exact does_room _ 2 a cs (w.heap.size) rfl (.inr ⟨7, 18, rfl, by kernel_rfl, fun _ _ h => h⟩) (by kernel_rfl) rfl _ Try.isAgg30 Try.sizeOf30 hsa HKA hra (fun _ _ h => h)
        · exact does_room _ 3 b ds (w.heap.size + 1) rfl (.inr ⟨7, 18, rfl, by kernel_rfl, fun _ _ h => h⟩) (by kernel_rfl) rfl _ Try.isAgg30 Try.sizeOf30 hsb HKB hrb (fun _ _ h => h)
        · exact does_call2 _ 19 8 20 9 _ rfl (.inr ⟨7, 18, rfl, by kernel_rfl, fun _ _ h => h⟩) (enters_of_b (by kernel_rfl)) (by kernel_rfl) (by kernel_rfl) (by rintro _ _ w4 hb ⟨cs, rfl, h1⟩ ⟨ds, rfl, h2⟩; exact (digest_Common cs ds a b w4 h1 h2 la lb).mono fun e w5 h => by obtain ⟨v, rfl, h3, h4⟩ := h; first | exact ⟨v, rfl, h3, h4⟩ | exact ⟨v, rfl, ints_of_owns h3, h4⟩)
        · exact does_room _ 2 a cs (w.heap.size) rfl (.inr ⟨7, 18, rfl, by kernel_rfl, fun _ _ h => h⟩) (by kernel_rfl) rfl _ Try.isAgg30 Try.sizeOf30 hsa HKA hra (fun _ _ h => h)
        · exact does_room _ 3 b ds (w.heap.size + 1) rfl (.inr ⟨7, 18, rfl, by kernel_rfl, fun _ _ h => h⟩) (by kernel_rfl) rfl _ Try.isAgg30 Try.sizeOf30 hsb HKB hrb (fun _ _ h => h)
        · exact does_call2 _ 22 11 23 12 _ rfl (.inr ⟨7, 18, rfl, by kernel_rfl, fun _ _ h => h⟩) (enters_of_b (by kernel_rfl)) (by kernel_rfl) (by kernel_rfl) (by rintro _ _ w4 hb ⟨cs, rfl, h1⟩ ⟨ds, rfl, h2⟩; exact (r54_Common cs ds a b w4 h1 h2 la lb).mono fun e w5 h => by obtain ⟨v, rfl, h3, h4⟩ := h; first | exact ⟨v, rfl, h3, h4⟩ | exact ⟨v, rfl, ints_of_owns h3, h4⟩)
        · exact does_call2 _ 21 10 24 13 _ rfl (.inr ⟨7, 18, rfl, by kernel_rfl, fun _ _ h => h⟩) (enters_of_b (by kernel_rfl)) (by kernel_rfl) (by kernel_rfl) (fun v v2 w4 _ h1 h2 => (r01_SameB v v2 (commonU a b) (commonU a b) w4 h1 h2).mono fun e w5 h => ⟨_, h.1, congrArg Value.bool (same_self _), h.2⟩)
        · exact does_pick 18 25 7 14 _ rfl (.inl rfl) (by kernel_rfl) (fun _ _ h => h) (by kernel_rfl) (fun _ _ h => h)
        · exact does_move 26 15 rfl (.inl rfl) (by kernel_rfl) (fun _ _ h => h)
        · exact does_room _ 2 a cs (w.heap.size) rfl (.inr ⟨16, 27, rfl, by kernel_rfl, fun _ _ h => h⟩) (by kernel_rfl) rfl _ Try.isAgg30 Try.sizeOf30 hsa HKA hra (fun _ _ h => h)
        · exact does_room _ 3 b ds (w.heap.size + 1) rfl (.inr ⟨16, 27, rfl, by kernel_rfl, fun _ _ h => h⟩) (by kernel_rfl) rfl _ Try.isAgg30 Try.sizeOf30 hsb HKB hrb (fun _ _ h => h)
        · exact does_call2 _ 28 17 29 18 _ rfl (.inr ⟨16, 27, rfl, by kernel_rfl, fun _ _ h => h⟩) (enters_of_b (by kernel_rfl)) (by kernel_rfl) (by kernel_rfl) (by rintro _ _ w4 hb ⟨cs, rfl, h1⟩ ⟨ds, rfl, h2⟩; exact (digest_Behind cs ds a b w4 h1 h2 la lb).mono fun e w5 h => ⟨_, h.1, congrArg (Value.int .i64) (rfl), h.2⟩)
        · exact does_room _ 2 a cs (w.heap.size) rfl (.inr ⟨16, 27, rfl, by kernel_rfl, fun _ _ h => h⟩) (by kernel_rfl) rfl _ Try.isAgg30 Try.sizeOf30 hsa HKA hra (fun _ _ h => h)
        · exact does_room _ 3 b ds (w.heap.size + 1) rfl (.inr ⟨16, 27, rfl, by kernel_rfl, fun _ _ h => h⟩) (by kernel_rfl) rfl _ Try.isAgg30 Try.sizeOf30 hsb HKB hrb (fun _ _ h => h)
        · exact does_call2 _ 31 20 32 21 _ rfl (.inr ⟨16, 27, rfl, by kernel_rfl, fun _ _ h => h⟩) (enters_of_b (by kernel_rfl)) (by kernel_rfl) (by kernel_rfl) (by rintro _ _ w4 hb ⟨cs, rfl, h1⟩ ⟨ds, rfl, h2⟩; exact (r54_Behind cs ds a b w4 h1 h2 la lb).mono fun e w5 h => ⟨_, h.1, congrArg (Value.int .i64) (rfl), h.2⟩)
        · exact does_eql _ _ 30 19 33 22 (behindU a b) (behindU a b) rfl (.inr ⟨16, 27, rfl, by kernel_rfl, fun _ _ h => h⟩) (by kernel_rfl) (by kernel_rfl) (fun _ _ h => h) (fun _ _ h => h) (fun _ => congrArg Value.bool (beq_self_eq_true _))
        · exact does_pick 27 34 16 23 _ rfl (.inl rfl) (by kernel_rfl) (fun _ _ h => h) (by kernel_rfl) (fun _ _ h => h)
        · exact does_move 35 24 rfl (.inl rfl) (by kernel_rfl) (fun _ _ h => h)
        · exact does_room _ 2 a cs (w.heap.size) rfl (.inr ⟨25, 36, rfl, by kernel_rfl, fun _ _ h => h⟩) (by kernel_rfl) rfl _ Try.isAgg30 Try.sizeOf30 hsa HKA hra (fun _ _ h => h)
        · exact does_room _ 3 b ds (w.heap.size + 1) rfl (.inr ⟨25, 36, rfl, by kernel_rfl, fun _ _ h => h⟩) (by kernel_rfl) rfl _ Try.isAgg30 Try.sizeOf30 hsb HKB hrb (fun _ _ h => h)
        · exact does_call2 _ 37 26 38 27 _ rfl (.inr ⟨25, 36, rfl, by kernel_rfl, fun _ _ h => h⟩) (enters_of_b (by kernel_rfl)) (by kernel_rfl) (by kernel_rfl) (by rintro _ _ w4 hb ⟨cs, rfl, h1⟩ ⟨ds, rfl, h2⟩; exact (digest_Same cs ds a b w4 h1 h2 la lb).mono fun e w5 h => ⟨_, h.1, congrArg Value.bool (rfl), h.2⟩)
        · exact does_room _ 2 a cs (w.heap.size) rfl (.inr ⟨25, 36, rfl, by kernel_rfl, fun _ _ h => h⟩) (by kernel_rfl) rfl _ Try.isAgg30 Try.sizeOf30 hsa HKA hra (fun _ _ h => h)
        · exact does_room _ 3 b ds (w.heap.size + 1) rfl (.inr ⟨25, 36, rfl, by kernel_rfl, fun _ _ h => h⟩) (by kernel_rfl) rfl _ Try.isAgg30 Try.sizeOf30 hsb HKB hrb (fun _ _ h => h)
        · exact does_call2 _ 40 29 41 30 _ rfl (.inr ⟨25, 36, rfl, by kernel_rfl, fun _ _ h => h⟩) (enters_of_b (by kernel_rfl)) (by kernel_rfl) (by kernel_rfl) (by rintro _ _ w4 hb ⟨cs, rfl, h1⟩ ⟨ds, rfl, h2⟩; exact (r54_Same cs ds a b w4 h1 h2 la lb).mono fun e w5 h => ⟨_, h.1, congrArg Value.bool (rfl), h.2⟩)
        · exact does_eqlb _ _ 39 28 42 31 (sameU a b) (sameU a b) rfl (.inr ⟨25, 36, rfl, by kernel_rfl, fun _ _ h => h⟩) Try.underlying4 (by kernel_rfl) (by kernel_rfl) (fun _ _ h => h) (fun _ _ h => h) (fun _ => congrArg Value.bool (beq_self_eq_true _))
        · exact does_pick 36 43 25 32 _ rfl (.inl rfl) (by kernel_rfl) (fun _ _ h => h) (by kernel_rfl) (fun _ _ h => h)
        · exact does_move 44 33 rfl (.inl rfl) (by kernel_rfl) (fun _ _ h => h)
        · exact does_call0 _  _ rfl (.inr ⟨34, 45, rfl, by kernel_rfl, fun _ _ h => h⟩) (enters_of_b (by kernel_rfl))  (fun w4 _ => (live_ok w4).mono fun e w5 h => ⟨_, h.1, congrArg Value.bool (rfl), h.2⟩)
        · exact does_pick 45 46 34 35 _ rfl (.inl rfl) (by kernel_rfl) (fun _ _ h => h) (by kernel_rfl) (fun _ _ h => h)
        · exact does_assign 47 36 rfl (.inl rfl) (by kernel_rfl) (fun _ _ h => h)
      · intro a2 w3 hb3 hsize hdef hold hall
        have h0 : a2.tmps.getD 4 undef = .bool true := hall 37 _ 4 rfl rfl
        have hR : GivesBoolB true w (.returned (.bool true)) w3 := ⟨rfl, hbw.trans (hb3.mono (by omega))⟩
        rename_i KK hK
        first
          | exact hK _ _ (ret_slot 4 rfl h0 hdef hR)
          | exact ret_slot 4 rfl h0 hdef hR
end Go.Proofs.Ytdhhcmdofnjhiaa
