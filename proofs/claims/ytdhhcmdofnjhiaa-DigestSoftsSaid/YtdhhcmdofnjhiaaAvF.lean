/- Function values over abstract states: made, handed on, called; a local variable given up for a datum. No program's code. No condition. -/
import Derived.Test.YtdhhcmdofnjhiaaAvN
namespace Go.Proofs.Ytdhhcmdofnjhiaa
open Go.RowKit

/-- A local variable is given up: it will be read alone. -/
def AV.thawB (k : Nat) (cs : List D) : AV → AV
  | .ptr j off => if j = k then .d (.ref cs off) else .ptr j off
  | x => x
def St.thawB (σ : St) (k : Nat) (cs : List D) : St := ⟨σ.slots.map (AV.thawB k cs), σ.ents.set k .dead, σ.base⟩

theorem thawB_holds {σ : St} (k : Nat) {cs : List AV} (hk : σ.ents[k]? = some (.box cs)) (hd : cs.all AV.isD = true) : ∀ C ok H a w, Holds C ok H σ a w → ∃ ok', Holds C ok' H (σ.thawB k (getDs cs)) a w := by
  intro C ok H a w hh
  obtain ⟨h, hhd, hok⟩ := ent_at hh.mem.ent hh.mem.hlen hk
  have hkl : k < σ.ents.length := (List.getElem?_eq_some_iff.1 hk).1
  obtain ⟨b0, hb0, hf, hx, hc⟩ := box_cells' hok hd
  let ok' : Nat → Prop := fun b => ok b ∨ blkOf h.v = some b
  have hblk := fun b hb => hh.mem.blk k _ h b hk rfl hhd hb
  have hg : Grow ok w ok' w := fun b hb => ⟨.inl hb, rfl⟩
  refine ⟨ok', ⟨hh.mem.fr, fun b hb => .inl (hh.mem.okSub b hb), ?_, ?_, hh.mem.names, by simp [St.thawB, hh.mem.hlen], ?_, ?_, ?_⟩, by simp [St.thawB, hh.size], hh.defers, hh.base, ?_⟩
  · rintro b (hb | hb)
    · exact hh.mem.okSup b hb
    · exact .inr (hblk b hb).2.2
  · rintro b (hb | hb)
    · exact hh.mem.okLt b hb
    · exact (hblk b hb).2.1
  · intro j e' h' he hh'
    rcases set_get hkl he with ⟨rfl, rfl⟩ | ⟨_, he'⟩
    · trivial
    · exact (hh.mem.ent j e' h' he' hh').mono hg (.refl _) (fun _ _ _ => rfl)
  · intro j e' h' b he hl hh' hb
    rcases set_get hkl he with ⟨rfl, rfl⟩ | ⟨hne, he'⟩
    · cases hl
    · have h3 := hh.mem.blk j e' h' b he' hl hh' hb
      refine ⟨fun hb' => ?_, h3.2⟩
      rcases hb' with hb' | hb'
      · exact h3.1 hb'
      · exact hne (hh.mem.dis j k e' _ h' h b he' hk hl rfl hh' hhd hb hb')
  · intro i j e1 e2 h1 h2 b he1 he2 hl1 hl2 hh1 hh2 hb1 hb2
    rcases set_get hkl he1 with ⟨rfl, rfl⟩ | ⟨_, he1'⟩
    · cases hl1
    · rcases set_get hkl he2 with ⟨rfl, rfl⟩ | ⟨_, he2'⟩
      · cases hl2
      · exact hh.mem.dis i j e1 e2 h1 h2 b he1' he2' hl1 hl2 hh1 hh2 hb1 hb2
  · intro t ht
    simp only [St.thawB, List.length_map] at ht
    have e1 : (σ.thawB k (getDs cs)).slots.getD t .junk = (σ.slots.getD t .junk).thawB k (getDs cs) := by
      simp only [St.thawB]; exact getD_map_junk _ _ _ ht
    rw [e1]
    have hR := (hh.slot t ht).mono hg (Names.refl H)
    generalize σ.slots.getD t .junk = x at hR ⊢
    generalize a.tmps.getD t undef = v at hR ⊢
    cases x with
    | ptr j off =>
      simp only [AV.thawB]
      split
      · rename_i hj
        subst hj
        cases hR with
        | ptr _ _ b s hH =>
          rw [hhd] at hH
          obtain rfl := Option.some.inj hH
          simp at hb0
          subst hb0
          have := RD.ref (ok := ok') (w := w) (getDs cs) off b 0 (.inr rfl) hf hx (fun j hj => (hc j hj).mono hg)
          rw [Nat.zero_add] at this
          exact .d _ _ this
      · exact hR
    | _ => exact hR

section
variable {P : Program} {o : Oper} {es : List Ent} {α β γ : Type}

theorem argNeeds_get {ok : Nat → Prop} {w : World} {H : List Hd} {a : Act} : ∀ {xs : List Operand} {vs : List AV}, xs.length = vs.length → (∀ n ∈ argNeeds xs vs, R ok w H n.2 (a.eval n.1)) → ∀ i, i < vs.length → R ok w H (vs.getD i .junk) ((xs.map a.eval).getD i undef)
  | [], [], _, _, i, hi => by simp at hi
  | [], _ :: _, h, _, _, _ => by simp at h
  | _ :: _, [], h, _, _, _ => by simp at h
  | x :: xs, v :: vs, h, hn, 0, _ => by simpa using hn (x, v) (by simp [argNeeds])
  | x :: xs, v :: vs, h, hn, i + 1, hi => by
    have := argNeeds_get (by simpa using h) (fun n hn' => hn n (by simp [argNeeds, hn'])) i (by simpa using hi)
    simpa using this

/-- A function value. -/
theorem ok_makeFunc {fn : Fn} {caps : Array Operand} (ds : List D) (hl : caps.toList.length = ds.length) (ho : o.op = .makeFunc fn #[] caps) : OpOk P o (argNeeds caps.toList (ds.map .d)) es (.d (.fn fn [] ds)) es :=
  .pure fun ok H a w _ _ hn => by
    refine ⟨.func fn #[] (caps.map a.eval), by simp [execOp, ho, Instr.makeFunc], .d _ _ (.fn fn [] ds #[] _ rfl (by simpa using hl) (fun i hi => by simp at hi) (fun i hi => ?_))⟩
    have h1 := argNeeds_get (xs := caps.toList) (vs := ds.map .d) (by simpa using hl) hn i (by simpa using hi)
    have e1 : (ds.map AV.d).getD i .junk = .d (ds.getD i dz) := by simp [List.getD, hi]
    have hi2 : i < caps.size := by have : caps.size = ds.length := by simpa using hl
                                   omega
    have e2 : (caps.toList.map a.eval).getD i undef = (caps.map a.eval).getD i undef := by simp [List.getD, Array.getD, hi2]
    rw [e1, e2] at h1
    cases h1 with | d _ _ h => exact h

/-- A call of a function that owns nothing, whose arguments are data. -/
theorem call_data {f : FuncId} {C : Cx} {ok : Nat → Prop} {H : List Hd} {w : World} (hm : Mem C ok H es w) {ds : List D} {res : AV} (hr : Runs P f (ds.map .d) [] res []) (vals : Array Value) (hs : vals.size = ds.length) (hv : ∀ i, i < ds.length → RD ok w (ds.getD i dz) (vals.getD i undef)) (hres : res.up [] es.length = res) :
    Calls P f vals w fun e w' => ∃ v ok' H', e = .returned v ∧ Grow ok w ok' w' ∧ Names H H' ∧ Mem C ok' H' es w' ∧ R ok' w' H' res v := by
  have hmc : Mem ⟨w, ok, [], []⟩ ok [] [] w :=
    ⟨.refl _ _, fun _ h => h, fun _ h => .inl h, hm.okLt, .refl _, rfl, fun k e h he _ => by simp at he, fun k e h b he => by simp at he, fun k k' e e' h h' b he => by simp at he⟩
  refine (hr ok [] [] w vals hmc (by simpa using hs) (fun i hi => ?_)).mono ?_
  · have hi' : i < ds.length := by simpa using hi
    have e1 : (ds.map AV.d).getD i .junk = .d (ds.getD i dz) := by simp [List.getD, hi']
    rw [e1]; exact .d _ _ (hv i hi')
  · rintro e w' ⟨v, ok', H', rfl, hm', hR⟩
    have hH' : H' = [] := List.eq_nil_of_length_eq_zero hm'.hlen
    obtain ⟨h1, h2⟩ := hm.change (ok' := ok') (H' := H) (es' := es) (w' := w') (fun _ => False) hm'.fr.os hm'.fr.tape hm'.fr.output hm'.fr.size (fun b hb _ => hm'.fr.block b hb (by simp)) (fun _ h => h.elim) hm'.okSub (fun b hb => by
      rcases hm'.okSup b hb with h | h | h
      · exact .inl h
      · exact .inr ⟨h, hm'.okLt b hb⟩
      · simp at h) (.refl _) hm.hlen (fun k e h he hh => .inl ⟨he, hh, fun _ _ _ h => h⟩)
    refine ⟨v, ok', H, rfl, h2, .refl _, h1, ?_⟩
    have := up_ok (srcs := []) (H := H) (Hc := []) (H' := H') rfl (fun i k h => by simp at h) (fun k v hv => by simp at hv) hR
    rw [hm.hlen, hres, hH'] at this
    simpa using this

/-- A call of a function value. -/
theorem ok_callF {f : FuncId} {x : Operand} {ops : Array Operand} {ats : Array TypeId} (ds cs : List D) {res : AV} (hr : Runs P f ((ds ++ cs).map .d) [] res []) (hf : entersB P f = true) (hl : ops.toList.length = ds.length) (hres : res.up [] es.length = res)
    (ho : o.op = .call { callee := .value x, args := ops, argTypes := ats }) : OpOk P o ((x, .d (.fn (.func f) [] cs)) :: argNeeds ops.toList (ds.map .d)) es res es := by
  intro C ok H a w Q hm hn
  have hx := hn (x, .d (.fn (.func f) [] cs)) (by simp)
  simp only at hx
  have hargs := argNeeds_get (xs := ops.toList) (vs := ds.map .d) (by simpa using hl) (fun n hn' => hn n (List.mem_cons_of_mem _ hn'))
  generalize hv : a.eval x = v at hx
  cases hx with
  | d _ _ h =>
    cases h with
    | fn _ _ _ vs us hl1 hl2 h1 h2 =>
      have hvs : vs = #[] := Array.eq_empty_of_size_eq_zero (by simpa using hl1)
      subst hvs
      unfold Oper.wp
      have he : (execOp a.eval o).run P w = .ok (.enter f ((ops.map a.eval) ++ us)) w := by
        have := enters_of_b hf (ops.map a.eval ++ us) w
        simp [execOp, ho, resolve, hv, Deferred.ofValue, invoke, this]
      rw [he, Oper.upon_enter]
      have hsz : (ops.map a.eval).size = ds.length := by simpa using hl
      refine (call_data hm hr _ (by simp [hsz, hl2]) (fun i hi => ?_) hres).mono ?_
      · by_cases hi1 : i < ds.length
        · have h3 := hargs i (by simpa using hi1)
          have e1 : (ds.map AV.d).getD i .junk = .d (ds.getD i dz) := by simp [List.getD, hi1]
          have hi2 : i < ops.size := by simpa using (by omega : i < (ops.map a.eval).size)
          have e2 : (ops.toList.map a.eval).getD i undef = (ops.map a.eval ++ us).getD i undef := by
            simp [List.getD, Array.getD_eq_getD_getElem?, Array.getElem?_append_left, hi2]
          have e3 : (ds ++ cs).getD i dz = ds.getD i dz := by simp [List.getD, List.getElem?_append_left hi1]
          rw [e1, e2] at h3
          rw [e3]
          cases h3 with | d _ _ h => exact h
        · have hi2 : i - ds.length < cs.length := by rw [List.length_append] at hi; omega
          have e3 : (ds ++ cs).getD i dz = cs.getD (i - ds.length) dz := by simp [List.getD, List.getElem?_append_right (Nat.le_of_not_lt hi1)]
          have e4 : (ops.map a.eval ++ us).getD i undef = us.getD (i - ds.length) undef := by
            simp only [Array.getD_eq_getD_getElem?]
            rw [Array.getElem?_append_right (by omega), hsz]
          rw [e3, e4]
          exact h2 _ hi2
      · rintro e w' ⟨v, ok', H', rfl, h3, h4, h5, h6⟩
        exact ⟨v, ok', H', rfl, h3, h4, h5, h6⟩

/-- What a function value computes. -/
def Fn1 (P : Program) (ea : α → D) (eb : β → D) (d : D) (g : α → Option β) : Prop := ∃ f cs, d = .fn (.func f) [] cs ∧ entersB P f = true ∧ ∀ a b, g a = some b → Runs P f (([ea a] ++ cs).map .d) [] (.d (eb b)) []
def Fn2 (P : Program) (ea : α → D) (eb : β → D) (ec : γ → D) (d : D) (g : α → β → Option γ) : Prop := ∃ f cs, d = .fn (.func f) [] cs ∧ entersB P f = true ∧ ∀ a b c, g a b = some c → Runs P f (([ea a, eb b] ++ cs).map .d) [] (.d (ec c)) []
def Fn0 (P : Program) (eb : β → D) (d : D) (g : Option β) : Prop := ∃ f cs, d = .fn (.func f) [] cs ∧ entersB P f = true ∧ ∀ b, g = some b → Runs P f (cs.map .d) [] (.d (eb b)) []

theorem ok_fn1 {x y : Operand} {ats : Array TypeId} {ea : α → D} {eb : β → D} {d : D} {g : α → Option β} {a : α} {b : β} (hd : Fn1 P ea eb d g) (h : g a = some b) (ho : o.op = .call { callee := .value x, args := #[y], argTypes := ats }) :
    OpOk P o [(x, .d d), (y, .d (ea a))] es (.d (eb b)) es := by
  obtain ⟨f, cs, rfl, hf, hg⟩ := hd
  exact ok_callF [ea a] cs (hg a b h) hf rfl rfl ho
theorem ok_fn2 {x y z : Operand} {ats : Array TypeId} {ea : α → D} {eb : β → D} {ec : γ → D} {d : D} {g : α → β → Option γ} {a : α} {b : β} {c : γ} (hd : Fn2 P ea eb ec d g) (h : g a b = some c) (ho : o.op = .call { callee := .value x, args := #[y, z], argTypes := ats }) :
    OpOk P o [(x, .d d), (y, .d (ea a)), (z, .d (eb b))] es (.d (ec c)) es := by
  obtain ⟨f, cs, rfl, hf, hg⟩ := hd
  exact ok_callF [ea a, eb b] cs (hg a b c h) hf rfl rfl ho
theorem ok_fn0 {x : Operand} {ats : Array TypeId} {eb : β → D} {d : D} {g : Option β} {b : β} (hd : Fn0 P eb d g) (h : g = some b) (ho : o.op = .call { callee := .value x, args := #[], argTypes := ats }) :
    OpOk P o [(x, .d d)] es (.d (eb b)) es := by
  obtain ⟨f, cs, rfl, hf, hg⟩ := hd
  exact ok_callF [] cs (hg b h) hf rfl rfl ho
end
end Go.Proofs.Ytdhhcmdofnjhiaa
