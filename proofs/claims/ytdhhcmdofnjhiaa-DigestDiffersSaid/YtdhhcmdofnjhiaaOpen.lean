/- What a room's datum says of the cells that it is read from. No walk. No condition. Lines of this text were written by gen_open.py. -/
import Derived.Test.YtdhhcmdofnjhiaaData
import Derived.Test.YtdhhcmdofnjhiaaRows
import Derived.ProofKit
import Derived.Deep.Slices
namespace Go.Proofs.Ytdhhcmdofnjhiaa
open Go.RowKit

theorem list_of_lt {α : Type} {p : Nat → α → Prop} : ∀ n, (∀ i, i < n → ∃ x, p i x) → ∃ l : List α, l.length = n ∧ ∀ i (h : i < l.length), p i l[i]
  | 0, _ => ⟨[], rfl, fun i h => by simp at h⟩
  | n + 1, h => by
    obtain ⟨l, h1, h2⟩ := list_of_lt n (fun i hi => h i (by omega))
    obtain ⟨x, hx⟩ := h n (by omega)
    refine ⟨l ++ [x], by simp [h1], fun i hi => ?_⟩
    simp at hi
    by_cases e : i < l.length
    · rw [List.getElem_append_left e]; exact h2 i e
    · have : i = n := by omega
      subst this
      rw [List.getElem_append_right (by omega)]
      simpa [h1] using hx

def pieces : List Nat → Nat → List Value → List Value
  | [], _, _ => []
  | n :: r, o, cs => (cs.drop o).take n ++ pieces r (o + n) cs
theorem pieces_eq : ∀ (ns : List Nat) (o : Nat) (cs : List Value), cs.length = o + ns.sum → pieces ns o cs = cs.drop o
  | [], o, cs, h => by simp at h; simp [pieces, h]
  | n :: r, o, cs, h => by
    simp only [List.sum_cons] at h
    unfold pieces
    rw [pieces_eq r (o + n) cs (by omega), ← List.drop_drop, List.take_append_drop]

section
variable {H : Type} {enc : TypeId × Value → H} {w : World} {base : Nat} {spare : Nat → Bool} {held : Bool}

/-- What is read at type t are cells that R reads. -/
def Opens {α : Type} (enc : TypeId × Value → H) (P : Program) (w : World) (base : Nat) (spare : Nat → Bool) (held : Bool) (t : TypeId) (sz : Nat) (R : World → Array Value → α → Prop) : Prop :=
  ∀ fuel cs x, DataW.trod enc P w base spare held fuel t cs = some x → cs.length = sz ∧ cs.toArray.all (·.oneCell') = true ∧ ∃ a, R w cs.toArray a

/-- A slice, in one cell. -/
def SlC {α : Type} (sz : Nat) (R : World → Array Value → α → Prop) (w : World) (cs : Array Value) (l : List α) : Prop := ∃ v, cs = #[v] ∧ SlR sz R w v l

theorem opens_slice {α : Type} {P : Program} {t e : TypeId} {sz : Nat} {R : World → Array Value → α → Prop} (ht : P.underlying t = some (.slice e)) (hc : P.cellsOf e = sz) (hpos : 0 < sz) (hR : Opens enc P w base spare held e sz R) :
    Opens enc P w base spare held t 1 (SlC sz R) := by
  intro fuel cs x h
  rcases Go.Deep.open_slice ht h with ⟨rfl, -⟩ | ⟨a, len, cap, m, n, D, Pl, rfl, -, hl, hm, hmm, -, hx⟩
  · exact ⟨rfl, by simp [Value.oneCell'], [], _, rfl, none, 0, rfl, Nat.le_refl _, by simp [maxLen], fun _ => rfl, fun i hi => by simp at hi⟩
  · have hlm : len ≤ m := by rw [hmm]; split <;> omega
    rw [hc] at hx
    have hex : ∀ i, i < len → ∃ y : α, ∃ cs' : List Value, w.cells? base (a.add (i * sz)) sz = some cs' ∧ cs'.length = sz ∧ cs'.toArray.all (·.oneCell') = true ∧ R w cs'.toArray y := by
      intro i hi
      obtain ⟨cs', h1, h2⟩ := hx i (by omega)
      obtain ⟨h3, h4, y, h5⟩ := hR _ _ _ h2
      exact ⟨y, cs', h1, h3, h4, h5⟩
    obtain ⟨l, hlen, hall⟩ := list_of_lt len hex
    subst hlen
    refine ⟨rfl, by simp [Value.oneCell'], l, _, rfl, some a, cap, rfl, hl, hm, fun h => by simp at h, fun i hi => ?_⟩
    have hspot : a.spot = none := by
      obtain ⟨cs0, h1, h2, -⟩ := hall 0 (by omega)
      obtain ⟨-, -, h3⟩ := World.cells?_some h1
      have h4 := h3 0 hpos
      rw [List.getElem?_eq_getElem (by omega)] at h4
      have e0 : (a.add (0 * sz)).add 0 = a := by simp [Addr.add]
      rw [e0] at h4
      unfold World.cell? at h4
      cases hsp : a.spot with
      | none => rfl
      | some s =>
        rw [hsp] at h4
        cases hh : w.heap[a.block]? with
        | none => rw [hh] at h4; simp at h4
        | some o => rw [hh] at h4; cases o <;> simp at h4
    obtain ⟨b, o, s⟩ := a
    simp only at hspot
    subst hspot
    obtain ⟨cs', h1, h2, h3, h4⟩ := hall i hi
    obtain ⟨-, -, h5⟩ := World.cells?_some h1
    refine ⟨b, o, cs'.toArray, rfl, by simpa using h2, h3, ?_, h4⟩
    intro j hj
    have hj' : j < sz := by simp at hj; omega
    have h6 := h5 j hj'
    rw [addr_add, addr_add] at h6
    rw [h6]
    simp [Array.getD, show j < cs'.length by omega]

variable {P : Program} {t : TypeId}
def IntX (_ : World) (cs : Array Value) (x : Int) : Prop := cs = #[.int .i64 x]
theorem opens_int (ht : P.underlying t = some (.int .i64)) : Opens enc P w base spare held t 1 IntC := by
  intro fuel cs x h
  obtain ⟨n, rfl, -⟩ := DataW.trod_int ht h
  exact ⟨rfl, by simp [Value.oneCell'], n, rfl⟩
theorem opens_str (ht : P.underlying t = some .string) : Opens enc P w base spare held t 1 StrC := by
  intro fuel cs x h
  obtain ⟨n, rfl, -⟩ := DataW.trod_string ht h
  exact ⟨rfl, by simp [Value.oneCell'], n, rfl⟩
theorem opens_bool (ht : P.underlying t = some .bool) : Opens enc P w base spare held t 1 (OneC Value.bool) := by
  intro fuel cs x h
  obtain ⟨n, rfl, -⟩ := DataW.trod_bool ht h
  exact ⟨rfl, by simp [Value.oneCell'], n, rfl⟩

/-- One field of a struct. -/
theorem field_of {α : Type} {fs : Array Field} {fuel : Nat} {cs : List Value} {x : DataW H × List MemPlace} (ht : P.underlying t = some (.struct fs)) (h : DataW.trod enc P w base spare held fuel t cs = some x) (i : Nat) {f : Field} (hf : fs[i]? = some f) (o n : Nat) (ho : f.offset = o) (hn : P.cellsOf f.type = n)
    {R : World → Array Value → α → Prop} (hR : Opens enc P w base spare held f.type n R) : ((cs.drop o).take n).toArray.all (·.oneCell') = true ∧ ∃ a, R w ((cs.drop o).take n).toArray a := by
  obtain ⟨xs, k, -, -, -, hlen, hall⟩ := DataW.trod_struct ht h
  have h1 := hall i f hf
  rw [ho, hn] at h1
  have hi : i < fs.size := (Array.getElem?_eq_some_iff.1 hf).1
  rw [List.getElem?_eq_getElem (by omega)] at h1
  exact (hR _ _ _ h1).2
theorem length_of {fs : Array Field} {fuel : Nat} {cs : List Value} {x : DataW H × List MemPlace} (ht : P.underlying t = some (.struct fs)) (h : DataW.trod enc P w base spare held fuel t cs = some x) (n : Nat) (hn : P.cellsOf t = n) : cs.length = n := by
  obtain ⟨xs, k, -, -, hlen, -⟩ := DataW.trod_struct ht h
  rw [hlen, hn]
end
set_option maxRecDepth 20000 in
set_option maxHeartbeats 1000000 in
theorem opens_row {H : Type} {enc : TypeId × Value → H} {w : World} {base : Nat} {spare : Nat → Bool} {held : Bool} : Opens enc Try.prog w base spare held 43 4 RowC := by
  intro fuel cs x h
  have hl := length_of Try.underlying43 h 4 (by kernel_rfl)
  obtain ⟨o0, a0, h0⟩ := field_of Try.underlying43 h 0 rfl 0 1 rfl (by kernel_rfl) (R := IntC) (opens_int Try.underlying3)
  have e0 : (cs.drop 0).take 1 = [.int .i64 a0] := congrArg Array.toList h0
  obtain ⟨o1, a1, h1⟩ := field_of Try.underlying43 h 1 rfl 1 1 rfl (by kernel_rfl) (R := IntC) (opens_int Try.underlying3)
  have e1 : (cs.drop 1).take 1 = [.int .i64 a1] := congrArg Array.toList h1
  obtain ⟨o2, a2, h2⟩ := field_of Try.underlying43 h 2 rfl 2 1 rfl (by kernel_rfl) (R := IntC) (opens_int Try.underlying41)
  have e2 : (cs.drop 2).take 1 = [.int .i64 a2] := congrArg Array.toList h2
  obtain ⟨o3, a3, h3⟩ := field_of Try.underlying43 h 3 rfl 3 1 rfl (by kernel_rfl) (R := (OneC Value.bool)) (opens_bool Try.underlying4)
  have e3 : (cs.drop 3).take 1 = [.bool a3] := congrArg Array.toList h3
  have e : pieces [1, 1, 1, 1] 0 cs = cs := by rw [pieces_eq _ _ _ (by rw [hl]; rfl)]; rfl
  have hall : cs.toArray.all (·.oneCell') = true := by
    rw [← e]
    simp only [pieces, Nat.zero_add, Nat.reduceAdd, List.all_toArray, List.all_append, Bool.and_eq_true]
    simp only [List.all_toArray] at o0 o1 o2 o3
    exact ⟨o0, o1, o2, o3, rfl⟩
  refine ⟨hl, hall, ?_⟩
  simp only [pieces, Nat.zero_add, Nat.reduceAdd] at e
  rw [e0, e1, e2, e3] at e
  rw [← e]
  exact ⟨⟨a0, a1, a2, a3⟩, rfl⟩

set_option maxRecDepth 20000 in
set_option maxHeartbeats 1000000 in
theorem opens_ent {H : Type} {enc : TypeId × Value → H} {w : World} {base : Nat} {spare : Nat → Bool} {held : Bool} : Opens enc Try.prog w base spare held 47 3 EntC := by
  intro fuel cs x h
  have hl := length_of Try.underlying47 h 3 (by kernel_rfl)
  obtain ⟨o0, a0, h0⟩ := field_of Try.underlying47 h 0 rfl 0 1 rfl (by kernel_rfl) (R := IntC) (opens_int Try.underlying45)
  have e0 : (cs.drop 0).take 1 = [.int .i64 a0] := congrArg Array.toList h0
  obtain ⟨o1, a1, h1⟩ := field_of Try.underlying47 h 1 rfl 1 1 rfl (by kernel_rfl) (R := StrC) (opens_str Try.underlying9)
  have e1 : (cs.drop 1).take 1 = [.string a1] := congrArg Array.toList h1
  obtain ⟨o2, a2, h2⟩ := field_of Try.underlying47 h 2 rfl 2 1 rfl (by kernel_rfl) (R := IntC) (opens_int Try.underlying3)
  have e2 : (cs.drop 2).take 1 = [.int .i64 a2] := congrArg Array.toList h2
  have e : pieces [1, 1, 1] 0 cs = cs := by rw [pieces_eq _ _ _ (by rw [hl]; rfl)]; rfl
  have hall : cs.toArray.all (·.oneCell') = true := by
    rw [← e]
    simp only [pieces, Nat.zero_add, Nat.reduceAdd, List.all_toArray, List.all_append, Bool.and_eq_true]
    simp only [List.all_toArray] at o0 o1 o2
    exact ⟨o0, o1, o2, rfl⟩
  refine ⟨hl, hall, ?_⟩
  simp only [pieces, Nat.zero_add, Nat.reduceAdd] at e
  rw [e0, e1, e2] at e
  rw [← e]
  exact ⟨⟨a0, a1, a2⟩, rfl⟩

set_option maxRecDepth 20000 in
set_option maxHeartbeats 1000000 in
theorem opens_rcp {H : Type} {enc : TypeId × Value → H} {w : World} {base : Nat} {spare : Nat → Bool} {held : Bool} : Opens enc Try.prog w base spare held 49 4 RcpC := by
  intro fuel cs x h
  have hl := length_of Try.underlying49 h 4 (by kernel_rfl)
  obtain ⟨o0, a0, h0⟩ := field_of Try.underlying49 h 0 rfl 0 1 rfl (by kernel_rfl) (R := StrC) (opens_str Try.underlying9)
  have e0 : (cs.drop 0).take 1 = [.string a0] := congrArg Array.toList h0
  obtain ⟨o1, a1, h1⟩ := field_of Try.underlying49 h 1 rfl 1 1 rfl (by kernel_rfl) (R := IntC) (opens_int Try.underlying3)
  have e1 : (cs.drop 1).take 1 = [.int .i64 a1] := congrArg Array.toList h1
  obtain ⟨o2, a2, h2⟩ := field_of Try.underlying49 h 2 rfl 2 1 rfl (by kernel_rfl) (R := IntC) (opens_int Try.underlying3)
  have e2 : (cs.drop 2).take 1 = [.int .i64 a2] := congrArg Array.toList h2
  obtain ⟨o3, a3, h3⟩ := field_of Try.underlying49 h 3 rfl 3 1 rfl (by kernel_rfl) (R := IntC) (opens_int Try.underlying3)
  have e3 : (cs.drop 3).take 1 = [.int .i64 a3] := congrArg Array.toList h3
  have e : pieces [1, 1, 1, 1] 0 cs = cs := by rw [pieces_eq _ _ _ (by rw [hl]; rfl)]; rfl
  have hall : cs.toArray.all (·.oneCell') = true := by
    rw [← e]
    simp only [pieces, Nat.zero_add, Nat.reduceAdd, List.all_toArray, List.all_append, Bool.and_eq_true]
    simp only [List.all_toArray] at o0 o1 o2 o3
    exact ⟨o0, o1, o2, o3, rfl⟩
  refine ⟨hl, hall, ?_⟩
  simp only [pieces, Nat.zero_add, Nat.reduceAdd] at e
  rw [e0, e1, e2, e3] at e
  rw [← e]
  exact ⟨⟨a0, a1, a2, a3⟩, rfl⟩

set_option maxRecDepth 20000 in
set_option maxHeartbeats 1000000 in
theorem opens_typ {H : Type} {enc : TypeId × Value → H} {w : World} {base : Nat} {spare : Nat → Bool} {held : Bool} : Opens enc Try.prog w base spare held 51 2 TypC := by
  intro fuel cs x h
  have hl := length_of Try.underlying51 h 2 (by kernel_rfl)
  obtain ⟨o0, a0, h0⟩ := field_of Try.underlying51 h 0 rfl 0 1 rfl (by kernel_rfl) (R := StrC) (opens_str Try.underlying9)
  have e0 : (cs.drop 0).take 1 = [.string a0] := congrArg Array.toList h0
  obtain ⟨o1, a1, h1⟩ := field_of Try.underlying51 h 1 rfl 1 1 rfl (by kernel_rfl) (R := IntC) (opens_int Try.underlying3)
  have e1 : (cs.drop 1).take 1 = [.int .i64 a1] := congrArg Array.toList h1
  have e : pieces [1, 1] 0 cs = cs := by rw [pieces_eq _ _ _ (by rw [hl]; rfl)]; rfl
  have hall : cs.toArray.all (·.oneCell') = true := by
    rw [← e]
    simp only [pieces, Nat.zero_add, List.all_toArray, List.all_append, Bool.and_eq_true]
    simp only [List.all_toArray] at o0 o1
    exact ⟨o0, o1, rfl⟩
  refine ⟨hl, hall, ?_⟩
  simp only [pieces, Nat.zero_add] at e
  rw [e0, e1] at e
  rw [← e]
  exact ⟨⟨a0, a1⟩, rfl⟩

set_option maxRecDepth 20000 in
set_option maxHeartbeats 1000000 in
theorem opens_lv {H : Type} {enc : TypeId × Value → H} {w : World} {base : Nat} {spare : Nat → Bool} {held : Bool} : Opens enc Try.prog w base spare held 81 2 LvC := by
  intro fuel cs x h
  have hl := length_of Try.underlying81 h 2 (by kernel_rfl)
  obtain ⟨o0, a0, h0⟩ := field_of Try.underlying81 h 0 rfl 0 1 rfl (by kernel_rfl) (R := StrC) (opens_str Try.underlying9)
  have e0 : (cs.drop 0).take 1 = [.string a0] := congrArg Array.toList h0
  obtain ⟨o1, a1, h1⟩ := field_of Try.underlying81 h 1 rfl 1 1 rfl (by kernel_rfl) (R := IntC) (opens_int Try.underlying3)
  have e1 : (cs.drop 1).take 1 = [.int .i64 a1] := congrArg Array.toList h1
  have e : pieces [1, 1] 0 cs = cs := by rw [pieces_eq _ _ _ (by rw [hl]; rfl)]; rfl
  have hall : cs.toArray.all (·.oneCell') = true := by
    rw [← e]
    simp only [pieces, Nat.zero_add, List.all_toArray, List.all_append, Bool.and_eq_true]
    simp only [List.all_toArray] at o0 o1
    exact ⟨o0, o1, rfl⟩
  refine ⟨hl, hall, ?_⟩
  simp only [pieces, Nat.zero_add] at e
  rw [e0, e1] at e
  rw [← e]
  exact ⟨⟨a0, a1⟩, rfl⟩

set_option maxRecDepth 20000 in
set_option maxHeartbeats 1000000 in
theorem opens_kl {H : Type} {enc : TypeId × Value → H} {w : World} {base : Nat} {spare : Nat → Bool} {held : Bool} : Opens enc Try.prog w base spare held 123 2 KLC := by
  intro fuel cs x h
  have hl := length_of Try.underlying123 h 2 (by kernel_rfl)
  obtain ⟨o0, a0, h0⟩ := field_of Try.underlying123 h 0 rfl 0 1 rfl (by kernel_rfl) (R := IntC) (opens_int Try.underlying45)
  have e0 : (cs.drop 0).take 1 = [.int .i64 a0] := congrArg Array.toList h0
  obtain ⟨o1, a1, h1⟩ := field_of Try.underlying123 h 1 rfl 1 1 rfl (by kernel_rfl) (R := IntC) (opens_int Try.underlying3)
  have e1 : (cs.drop 1).take 1 = [.int .i64 a1] := congrArg Array.toList h1
  have e : pieces [1, 1] 0 cs = cs := by rw [pieces_eq _ _ _ (by rw [hl]; rfl)]; rfl
  have hall : cs.toArray.all (·.oneCell') = true := by
    rw [← e]
    simp only [pieces, Nat.zero_add, List.all_toArray, List.all_append, Bool.and_eq_true]
    simp only [List.all_toArray] at o0 o1
    exact ⟨o0, o1, rfl⟩
  refine ⟨hl, hall, ?_⟩
  simp only [pieces, Nat.zero_add] at e
  rw [e0, e1] at e
  rw [← e]
  exact ⟨⟨a0, a1⟩, rfl⟩

def SgC (_ : World) (cs : Array Value) (x : Sg) : Prop := cs = #[.string x.server, .int .i64 x.sum] ∧ True
def LvsC (w : World) (cs : Array Value) (x : Lvs) : Prop := ∃ u k, cs = #[u, k, .int .i64 x.user, .int .i64 x.message, .int .i64 x.state, .int .i64 x.invite, .int .i64 x.kick, .int .i64 x.ban, .int .i64 x.redact] ∧ SlR 2 LvC w u x.users ∧ SlR 2 KLC w k x.kinds
def ContC (w : World) (cs : Array Value) (x : Cont) : Prop := ∃ al de u k, cs = #[.string x.text, .int .i64 x.n, .int .i64 x.target, .bool x.thread, .string x.via, al, de, u, k, .int .i64 x.levels.user, .int .i64 x.levels.message, .int .i64 x.levels.state, .int .i64 x.levels.invite, .int .i64 x.levels.kick, .int .i64 x.levels.ban, .int .i64 x.levels.redact] ∧ Strs w al x.allow ∧ Strs w de x.deny ∧ SlR 2 LvC w u x.levels.users ∧ SlR 2 KLC w k x.levels.kinds
set_option maxRecDepth 20000 in
set_option maxHeartbeats 1000000 in
theorem opens_sg {H : Type} {enc : TypeId × Value → H} {w : World} {base : Nat} {spare : Nat → Bool} {held : Bool} : Opens enc Try.prog w base spare held 63 2 SgC := by
  intro fuel cs x h
  have hl := length_of Try.underlying63 h 2 (by kernel_rfl)
  obtain ⟨o0, a0, h0⟩ := field_of Try.underlying63 h 0 rfl 0 1 rfl (by kernel_rfl) (R := StrC) (opens_str Try.underlying9)
  have e0 : (cs.drop 0).take 1 = [.string a0] := congrArg Array.toList h0
  obtain ⟨o1, a1, h1⟩ := field_of Try.underlying63 h 1 rfl 1 1 rfl (by kernel_rfl) (R := IntC) (opens_int Try.underlying3)
  have e1 : (cs.drop 1).take 1 = [.int .i64 a1] := congrArg Array.toList h1
  have e : pieces [1, 1] 0 cs = cs := by rw [pieces_eq _ _ _ (by rw [hl]; rfl)]; rfl
  have hall : cs.toArray.all (·.oneCell') = true := by
    rw [← e]
    simp only [pieces, Nat.zero_add, List.all_toArray, List.all_append, Bool.and_eq_true]
    simp only [List.all_toArray] at o0 o1
    exact ⟨o0, o1, rfl⟩
  refine ⟨hl, hall, ?_⟩
  simp only [pieces, Nat.zero_add] at e
  rw [e0, e1] at e
  rw [← e]
  exact ⟨⟨a0, a1⟩, rfl, trivial⟩

set_option maxRecDepth 20000 in
set_option maxHeartbeats 1000000 in
theorem opens_lvs {H : Type} {enc : TypeId × Value → H} {w : World} {base : Nat} {spare : Nat → Bool} {held : Bool} : Opens enc Try.prog w base spare held 59 9 LvsC := by
  intro fuel cs x h
  have hl := length_of Try.underlying59 h 9 (by kernel_rfl)
  obtain ⟨o0, a0, h0⟩ := field_of Try.underlying59 h 0 rfl 0 1 rfl (by kernel_rfl) (R := (SlC 2 LvC)) (opens_slice Try.underlying56 (by kernel_rfl) (by decide) opens_lv)
  obtain ⟨v0, g0, h0⟩ := h0
  have e0 : (cs.drop 0).take 1 = [v0] := congrArg Array.toList g0
  obtain ⟨o1, a1, h1⟩ := field_of Try.underlying59 h 1 rfl 1 1 rfl (by kernel_rfl) (R := (SlC 2 KLC)) (opens_slice Try.underlying57 (by kernel_rfl) (by decide) opens_kl)
  obtain ⟨v1, g1, h1⟩ := h1
  have e1 : (cs.drop 1).take 1 = [v1] := congrArg Array.toList g1
  obtain ⟨o2, a2, h2⟩ := field_of Try.underlying59 h 2 rfl 2 1 rfl (by kernel_rfl) (R := IntC) (opens_int Try.underlying3)
  have e2 : (cs.drop 2).take 1 = [.int .i64 a2] := congrArg Array.toList h2
  obtain ⟨o3, a3, h3⟩ := field_of Try.underlying59 h 3 rfl 3 1 rfl (by kernel_rfl) (R := IntC) (opens_int Try.underlying3)
  have e3 : (cs.drop 3).take 1 = [.int .i64 a3] := congrArg Array.toList h3
  obtain ⟨o4, a4, h4⟩ := field_of Try.underlying59 h 4 rfl 4 1 rfl (by kernel_rfl) (R := IntC) (opens_int Try.underlying3)
  have e4 : (cs.drop 4).take 1 = [.int .i64 a4] := congrArg Array.toList h4
  obtain ⟨o5, a5, h5⟩ := field_of Try.underlying59 h 5 rfl 5 1 rfl (by kernel_rfl) (R := IntC) (opens_int Try.underlying3)
  have e5 : (cs.drop 5).take 1 = [.int .i64 a5] := congrArg Array.toList h5
  obtain ⟨o6, a6, h6⟩ := field_of Try.underlying59 h 6 rfl 6 1 rfl (by kernel_rfl) (R := IntC) (opens_int Try.underlying3)
  have e6 : (cs.drop 6).take 1 = [.int .i64 a6] := congrArg Array.toList h6
  obtain ⟨o7, a7, h7⟩ := field_of Try.underlying59 h 7 rfl 7 1 rfl (by kernel_rfl) (R := IntC) (opens_int Try.underlying3)
  have e7 : (cs.drop 7).take 1 = [.int .i64 a7] := congrArg Array.toList h7
  obtain ⟨o8, a8, h8⟩ := field_of Try.underlying59 h 8 rfl 8 1 rfl (by kernel_rfl) (R := IntC) (opens_int Try.underlying3)
  have e8 : (cs.drop 8).take 1 = [.int .i64 a8] := congrArg Array.toList h8
  have e : pieces [1, 1, 1, 1, 1, 1, 1, 1, 1] 0 cs = cs := by rw [pieces_eq _ _ _ (by rw [hl]; rfl)]; rfl
  have hall : cs.toArray.all (·.oneCell') = true := by
    rw [← e]
    simp only [pieces, Nat.zero_add, Nat.reduceAdd, List.all_toArray, List.all_append, Bool.and_eq_true]
    simp only [List.all_toArray] at o0 o1 o2 o3 o4 o5 o6 o7 o8
    exact ⟨o0, o1, o2, o3, o4, o5, o6, o7, o8, rfl⟩
  refine ⟨hl, hall, ?_⟩
  simp only [pieces, Nat.zero_add, Nat.reduceAdd] at e
  rw [e0, e1, e2, e3, e4, e5, e6, e7, e8] at e
  rw [← e]
  exact ⟨⟨a0, a1, a2, a3, a4, a5, a6, a7, a8⟩, v0, v1, rfl, h0, h1⟩

set_option maxRecDepth 20000 in
set_option maxHeartbeats 1000000 in
theorem opens_cont {H : Type} {enc : TypeId × Value → H} {w : World} {base : Nat} {spare : Nat → Bool} {held : Bool} : Opens enc Try.prog w base spare held 61 16 ContC := by
  intro fuel cs x h
  have hl := length_of Try.underlying61 h 16 (by kernel_rfl)
  obtain ⟨o0, a0, h0⟩ := field_of Try.underlying61 h 0 rfl 0 1 rfl (by kernel_rfl) (R := StrC) (opens_str Try.underlying9)
  have e0 : (cs.drop 0).take 1 = [.string a0] := congrArg Array.toList h0
  obtain ⟨o1, a1, h1⟩ := field_of Try.underlying61 h 1 rfl 1 1 rfl (by kernel_rfl) (R := IntC) (opens_int Try.underlying3)
  have e1 : (cs.drop 1).take 1 = [.int .i64 a1] := congrArg Array.toList h1
  obtain ⟨o2, a2, h2⟩ := field_of Try.underlying61 h 2 rfl 2 1 rfl (by kernel_rfl) (R := IntC) (opens_int Try.underlying3)
  have e2 : (cs.drop 2).take 1 = [.int .i64 a2] := congrArg Array.toList h2
  obtain ⟨o3, a3, h3⟩ := field_of Try.underlying61 h 3 rfl 3 1 rfl (by kernel_rfl) (R := (OneC Value.bool)) (opens_bool Try.underlying4)
  have e3 : (cs.drop 3).take 1 = [.bool a3] := congrArg Array.toList h3
  obtain ⟨o4, a4, h4⟩ := field_of Try.underlying61 h 4 rfl 4 1 rfl (by kernel_rfl) (R := StrC) (opens_str Try.underlying9)
  have e4 : (cs.drop 4).take 1 = [.string a4] := congrArg Array.toList h4
  obtain ⟨o5, a5, h5⟩ := field_of Try.underlying61 h 5 rfl 5 1 rfl (by kernel_rfl) (R := (SlC 1 StrC)) (opens_slice Try.underlying55 (by kernel_rfl) (by decide) (opens_str Try.underlying9))
  obtain ⟨v5, g5, h5⟩ := h5
  have e5 : (cs.drop 5).take 1 = [v5] := congrArg Array.toList g5
  obtain ⟨o6, a6, h6⟩ := field_of Try.underlying61 h 6 rfl 6 1 rfl (by kernel_rfl) (R := (SlC 1 StrC)) (opens_slice Try.underlying55 (by kernel_rfl) (by decide) (opens_str Try.underlying9))
  obtain ⟨v6, g6, h6⟩ := h6
  have e6 : (cs.drop 6).take 1 = [v6] := congrArg Array.toList g6
  obtain ⟨o7, a7, h7⟩ := field_of Try.underlying61 h 7 rfl 7 9 rfl (by kernel_rfl) (R := LvsC) opens_lvs
  obtain ⟨u7, k7, g7, h7a, h7b⟩ := h7
  have e7 : (cs.drop 7).take 9 = [u7, k7, .int .i64 a7.user, .int .i64 a7.message, .int .i64 a7.state, .int .i64 a7.invite, .int .i64 a7.kick, .int .i64 a7.ban, .int .i64 a7.redact] := congrArg Array.toList g7
  have e : pieces [1, 1, 1, 1, 1, 1, 1, 9] 0 cs = cs := by rw [pieces_eq _ _ _ (by rw [hl]; rfl)]; rfl
  have hall : cs.toArray.all (·.oneCell') = true := by
    rw [← e]
    simp only [pieces, Nat.zero_add, Nat.reduceAdd, List.all_toArray, List.all_append, Bool.and_eq_true]
    simp only [List.all_toArray] at o0 o1 o2 o3 o4 o5 o6 o7
    exact ⟨o0, o1, o2, o3, o4, o5, o6, o7, rfl⟩
  refine ⟨hl, hall, ?_⟩
  simp only [pieces, Nat.zero_add, Nat.reduceAdd] at e
  rw [e0, e1, e2, e3, e4, e5, e6, e7] at e
  rw [← e]
  exact ⟨⟨a0, a1, a2, a3, a4, a5, a6, a7⟩, v5, v6, u7, k7, rfl, h5, h6, h7a, h7b⟩

set_option maxRecDepth 20000 in
set_option maxHeartbeats 1000000 in
theorem opens_ev {H : Type} {enc : TypeId × Value → H} {w : World} {base : Nat} {spare : Nat → Bool} {held : Bool} : Opens enc Try.prog w base spare held 65 29 EvC := by
  intro fuel cs x h
  have hl := length_of Try.underlying65 h 29 (by kernel_rfl)
  obtain ⟨o0, a0, h0⟩ := field_of Try.underlying65 h 0 rfl 0 1 rfl (by kernel_rfl) (R := IntC) (opens_int Try.underlying3)
  have e0 : (cs.drop 0).take 1 = [.int .i64 a0] := congrArg Array.toList h0
  obtain ⟨o1, a1, h1⟩ := field_of Try.underlying65 h 1 rfl 1 1 rfl (by kernel_rfl) (R := StrC) (opens_str Try.underlying9)
  have e1 : (cs.drop 1).take 1 = [.string a1] := congrArg Array.toList h1
  obtain ⟨o2, a2, h2⟩ := field_of Try.underlying65 h 2 rfl 2 1 rfl (by kernel_rfl) (R := StrC) (opens_str Try.underlying9)
  have e2 : (cs.drop 2).take 1 = [.string a2] := congrArg Array.toList h2
  obtain ⟨o3, a3, h3⟩ := field_of Try.underlying65 h 3 rfl 3 1 rfl (by kernel_rfl) (R := IntC) (opens_int Try.underlying45)
  have e3 : (cs.drop 3).take 1 = [.int .i64 a3] := congrArg Array.toList h3
  obtain ⟨o4, a4, h4⟩ := field_of Try.underlying65 h 4 rfl 4 1 rfl (by kernel_rfl) (R := (OneC Value.bool)) (opens_bool Try.underlying4)
  have e4 : (cs.drop 4).take 1 = [.bool a4] := congrArg Array.toList h4
  obtain ⟨o5, a5, h5⟩ := field_of Try.underlying65 h 5 rfl 5 1 rfl (by kernel_rfl) (R := StrC) (opens_str Try.underlying9)
  have e5 : (cs.drop 5).take 1 = [.string a5] := congrArg Array.toList h5
  obtain ⟨o6, a6, h6⟩ := field_of Try.underlying65 h 6 rfl 6 1 rfl (by kernel_rfl) (R := IntC) (opens_int Try.underlying3)
  have e6 : (cs.drop 6).take 1 = [.int .i64 a6] := congrArg Array.toList h6
  obtain ⟨o7, a7, h7⟩ := field_of Try.underlying65 h 7 rfl 7 1 rfl (by kernel_rfl) (R := IntC) (opens_int Try.underlying3)
  have e7 : (cs.drop 7).take 1 = [.int .i64 a7] := congrArg Array.toList h7
  obtain ⟨o8, a8, h8⟩ := field_of Try.underlying65 h 8 rfl 8 1 rfl (by kernel_rfl) (R := (SlC 1 IntC)) (opens_slice Try.underlying24 (by kernel_rfl) (by decide) (opens_int Try.underlying3))
  obtain ⟨v8, g8, h8⟩ := h8
  have e8 : (cs.drop 8).take 1 = [v8] := congrArg Array.toList g8
  obtain ⟨o9, a9, h9⟩ := field_of Try.underlying65 h 9 rfl 9 1 rfl (by kernel_rfl) (R := (SlC 1 IntC)) (opens_slice Try.underlying24 (by kernel_rfl) (by decide) (opens_int Try.underlying3))
  obtain ⟨v9, g9, h9⟩ := h9
  have e9 : (cs.drop 9).take 1 = [v9] := congrArg Array.toList g9
  obtain ⟨o10, a10, h10⟩ := field_of Try.underlying65 h 10 rfl 10 16 rfl (by kernel_rfl) (R := ContC) opens_cont
  obtain ⟨al, de, u, k, g10, ha, hd, hu, hk⟩ := h10
  have e10 : (cs.drop 10).take 16 = [.string a10.text, .int .i64 a10.n, .int .i64 a10.target, .bool a10.thread, .string a10.via, al, de, u, k, .int .i64 a10.levels.user, .int .i64 a10.levels.message, .int .i64 a10.levels.state, .int .i64 a10.levels.invite, .int .i64 a10.levels.kick, .int .i64 a10.levels.ban, .int .i64 a10.levels.redact] := congrArg Array.toList g10
  obtain ⟨o11, a11, h11⟩ := field_of Try.underlying65 h 11 rfl 26 1 rfl (by kernel_rfl) (R := IntC) (opens_int Try.underlying3)
  have e11 : (cs.drop 26).take 1 = [.int .i64 a11] := congrArg Array.toList h11
  obtain ⟨o12, a12, h12⟩ := field_of Try.underlying65 h 12 rfl 27 2 rfl (by kernel_rfl) (R := SgC) opens_sg
  obtain ⟨g12, -⟩ := h12
  have e12 : (cs.drop 27).take 2 = [.string a12.server, .int .i64 a12.sum] := congrArg Array.toList g12
  have e : pieces [1, 1, 1, 1, 1, 1, 1, 1, 1, 1, 16, 1, 2] 0 cs = cs := by rw [pieces_eq _ _ _ (by rw [hl]; rfl)]; rfl
  have hall : cs.toArray.all (·.oneCell') = true := by
    rw [← e]
    simp only [pieces, Nat.zero_add, Nat.reduceAdd, List.all_toArray, List.all_append, Bool.and_eq_true]
    simp only [List.all_toArray] at o0 o1 o2 o3 o4 o5 o6 o7 o8 o9 o10 o11 o12
    exact ⟨o0, o1, o2, o3, o4, o5, o6, o7, o8, o9, o10, o11, o12, rfl⟩
  refine ⟨hl, hall, ?_⟩
  simp only [pieces, Nat.zero_add, Nat.reduceAdd] at e
  rw [e0, e1, e2, e3, e4, e5, e6, e7, e8, e9, e10, e11, e12] at e
  rw [← e]
  exact ⟨⟨a0, a1, a2, a3, a4, a5, a6, a7, a8, a9, a10, a11, a12⟩, v8, v9, al, de, u, k, rfl, h8, h9, ha, hd, hu, hk⟩

set_option maxRecDepth 20000 in
set_option maxHeartbeats 1000000 in
theorem opens_room {H : Type} {enc : TypeId × Value → H} {w : World} {base : Nat} {spare : Nat → Bool} {held : Bool} : Opens enc Try.prog w base spare held 30 9 RmC := by
  intro fuel cs x h
  have hl := length_of Try.underlying30 h 9 (by kernel_rfl)
  obtain ⟨o0, a0, h0⟩ := field_of Try.underlying30 h 0 rfl 0 1 rfl (by kernel_rfl) (R := StrC) (opens_str Try.underlying9)
  have e0 : (cs.drop 0).take 1 = [.string a0] := congrArg Array.toList h0
  obtain ⟨o1, a1, h1⟩ := field_of Try.underlying30 h 1 rfl 1 1 rfl (by kernel_rfl) (R := (SlC 29 EvC)) (opens_slice Try.underlying22 (by kernel_rfl) (by decide) opens_ev)
  obtain ⟨v1, g1, h1⟩ := h1
  have e1 : (cs.drop 1).take 1 = [v1] := congrArg Array.toList g1
  obtain ⟨o2, a2, h2⟩ := field_of Try.underlying30 h 2 rfl 2 1 rfl (by kernel_rfl) (R := (SlC 4 RowC)) (opens_slice Try.underlying23 (by kernel_rfl) (by decide) opens_row)
  obtain ⟨v2, g2, h2⟩ := h2
  have e2 : (cs.drop 2).take 1 = [v2] := congrArg Array.toList g2
  obtain ⟨o3, a3, h3⟩ := field_of Try.underlying30 h 3 rfl 3 1 rfl (by kernel_rfl) (R := (SlC 29 EvC)) (opens_slice Try.underlying22 (by kernel_rfl) (by decide) opens_ev)
  obtain ⟨v3, g3, h3⟩ := h3
  have e3 : (cs.drop 3).take 1 = [v3] := congrArg Array.toList g3
  obtain ⟨o4, a4, h4⟩ := field_of Try.underlying30 h 4 rfl 4 1 rfl (by kernel_rfl) (R := (SlC 1 IntC)) (opens_slice Try.underlying24 (by kernel_rfl) (by decide) (opens_int Try.underlying3))
  obtain ⟨v4, g4, h4⟩ := h4
  have e4 : (cs.drop 4).take 1 = [v4] := congrArg Array.toList g4
  obtain ⟨o5, a5, h5⟩ := field_of Try.underlying30 h 5 rfl 5 1 rfl (by kernel_rfl) (R := (SlC 3 EntC)) (opens_slice Try.underlying26 (by kernel_rfl) (by decide) opens_ent)
  obtain ⟨v5, g5, h5⟩ := h5
  have e5 : (cs.drop 5).take 1 = [v5] := congrArg Array.toList g5
  obtain ⟨o6, a6, h6⟩ := field_of Try.underlying30 h 6 rfl 6 1 rfl (by kernel_rfl) (R := IntC) (opens_int Try.underlying3)
  have e6 : (cs.drop 6).take 1 = [.int .i64 a6] := congrArg Array.toList h6
  obtain ⟨o7, a7, h7⟩ := field_of Try.underlying30 h 7 rfl 7 1 rfl (by kernel_rfl) (R := (SlC 4 RcpC)) (opens_slice Try.underlying27 (by kernel_rfl) (by decide) opens_rcp)
  obtain ⟨v7, g7, h7⟩ := h7
  have e7 : (cs.drop 7).take 1 = [v7] := congrArg Array.toList g7
  obtain ⟨o8, a8, h8⟩ := field_of Try.underlying30 h 8 rfl 8 1 rfl (by kernel_rfl) (R := (SlC 2 TypC)) (opens_slice Try.underlying28 (by kernel_rfl) (by decide) opens_typ)
  obtain ⟨v8, g8, h8⟩ := h8
  have e8 : (cs.drop 8).take 1 = [v8] := congrArg Array.toList g8
  have e : pieces [1, 1, 1, 1, 1, 1, 1, 1, 1] 0 cs = cs := by rw [pieces_eq _ _ _ (by rw [hl]; rfl)]; rfl
  have hall : cs.toArray.all (·.oneCell') = true := by
    rw [← e]
    simp only [pieces, Nat.zero_add, Nat.reduceAdd, List.all_toArray, List.all_append, Bool.and_eq_true]
    simp only [List.all_toArray] at o0 o1 o2 o3 o4 o5 o6 o7 o8
    exact ⟨o0, o1, o2, o3, o4, o5, o6, o7, o8, rfl⟩
  refine ⟨hl, hall, ?_⟩
  simp only [pieces, Nat.zero_add, Nat.reduceAdd] at e
  rw [e0, e1, e2, e3, e4, e5, e6, e7, e8] at e
  rw [← e]
  exact ⟨⟨a0, a1, a2, a3, a4, a5, a6, a7, a8⟩, v1, v2, v3, v4, v5, v7, v8, rfl, h1, h2, h3, h4, h5, h7, h8⟩

end Go.Proofs.Ytdhhcmdofnjhiaa
