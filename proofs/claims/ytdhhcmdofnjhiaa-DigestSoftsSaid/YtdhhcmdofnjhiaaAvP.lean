/- What an argument's datum says of the cells that it is read from: typed data. No program's code. No condition. -/
import Derived.Test.YtdhhcmdofnjhiaaAvH
import Derived.ProofKit
import Derived.Deep.Slices
namespace Go.Proofs.Ytdhhcmdofnjhiaa
open Go.RowKit

theorem list_of_lt {α : Type} {p : Nat → α → Prop} : ∀ n, (∀ i, i < n → ∃ x, p i x) → ∃ l : List α, l.length = n ∧ ∀ i (h : i < l.length), p i l[i]
  | 0, _ => ⟨[], rfl, fun i h => by simp at h⟩
  | n + 1, h => by
    obtain ⟨l, h1, h2⟩ := list_of_lt n (fun i hi => h i (by omega))
    obtain ⟨x, hx⟩ := h n (by omega)
    refine ⟨l ++ [x], by simp [h1], fun i hi => ?_⟩
    simp at hi
    by_cases e : i < l.length
    · rw [List.getElem_append_left e]; exact h2 i e
    · have : i = n := by omega
      subst this
      rw [List.getElem_append_right (by omega)]
      simpa [h1] using hx

def pieces : List Nat → Nat → List Value → List Value
  | [], _, _ => []
  | n :: r, o, cs => (cs.drop o).take n ++ pieces r (o + n) cs
theorem pieces_eq : ∀ (ns : List Nat) (o : Nat) (cs : List Value), cs.length = o + ns.sum → pieces ns o cs = cs.drop o
  | [], o, cs, h => by simp at h; simp [pieces, h]
  | n :: r, o, cs, h => by
    simp only [List.sum_cons] at h
    unfold pieces
    rw [pieces_eq r (o + n) cs (by omega), ← List.drop_drop, List.take_append_drop]

/-- Cells that are read as data. -/
def RdC (w : World) (ds : List D) (cs : List Value) : Prop := cs.length = ds.length ∧ ∀ j, j < ds.length → (ds.getD j dz).leaf = true ∧ RD (fun b => b < w.heap.size) w (ds.getD j dz) (cs.getD j undef)
theorem RdC.nil (w : World) : RdC w [] [] := ⟨rfl, fun j h => by simp at h⟩
theorem RdC.append {w : World} {ds es : List D} {cs us : List Value} (h : RdC w ds cs) (k : RdC w es us) : RdC w (ds ++ es) (cs ++ us) := by
  refine ⟨by simp [h.1, k.1], fun j hj => ?_⟩
  by_cases e : j < ds.length
  · have e1 : (ds ++ es).getD j dz = ds.getD j dz := by simp [List.getD, List.getElem?_append_left e]
    have e2 : (cs ++ us).getD j undef = cs.getD j undef := by simp [List.getD, List.getElem?_append_left (show j < cs.length by rw [h.1]; exact e)]
    rw [e1, e2]; exact h.2 j e
  · have hj' : j - ds.length < es.length := by simp at hj; omega
    have e1 : (ds ++ es).getD j dz = es.getD (j - ds.length) dz := by simp [List.getD, List.getElem?_append_right (Nat.le_of_not_lt e)]
    have e2 : (cs ++ us).getD j undef = us.getD (j - ds.length) undef := by
      have h1 := h.1
      simp only [List.getD, List.getElem?_append_right (show cs.length ≤ j by omega), h1]
    rw [e1, e2]; exact k.2 _ hj'

section
variable {H : Type} {enc : TypeId × Value → H} {w : World} {base : Nat} {spare : Nat → Bool} {held : Bool} {P : Program} {t : TypeId}

/-- What is read at type t is a datum of the typed kind, with V. -/
def Opn {α : Type} (enc : TypeId × Value → H) (P : Program) (w : World) (base : Nat) (spare : Nat → Bool) (held : Bool) (t : TypeId) (e : α → D) (V : α → Prop) : Prop :=
  ∀ fuel cs x, DataW.trod enc P w base spare held fuel t cs = some x → ∃ a : α, V a ∧ RdC w (e a).cells cs

theorem RdC.one {w : World} {x : D} {v : Value} (hc : x.cells = [x]) (hl : x.leaf = true) (h : RD (fun b => b < w.heap.size) w x v) : RdC w x.cells [v] := by
  rw [hc]
  refine ⟨rfl, fun j hj => ?_⟩
  match j, hj with
  | 0, _ => exact ⟨hl, h⟩

theorem opn_slice {α : Type} {e : TypeId} {sz : Nat} {en : α → D} {V : α → Prop} (ht : P.underlying t = some (.slice e)) (hc : P.cellsOf e = sz) (hpos : 0 < sz) (hsz : ∀ a, (en a).cells.length = sz) (hR : Opn enc P w base spare held e en V) :
    Opn enc P w base spare held t (eL en) (fun l => l.length ≤ maxLen ∧ ∀ x ∈ l, V x) := by
  intro fuel cs x h
  rcases Go.Deep.open_slice ht h with ⟨rfl, -⟩ | ⟨a, len, cap, m, n, D, Pl, rfl, -, hl, hm, hmm, -, hx⟩
  · exact ⟨[], ⟨Nat.zero_le _, fun x h => by simp at h⟩, .one rfl rfl (.sl0 none 0)⟩
  · have hlm : len ≤ m := by rw [hmm]; split <;> omega
    rw [hc] at hx
    have hex : ∀ i, i < len → ∃ y : α, V y ∧ ∃ cs' : List Value, w.cells? base (a.add (i * sz)) sz = some cs' ∧ RdC w (en y).cells cs' := by
      intro i hi
      obtain ⟨cs', h1, h2⟩ := hx i (by omega)
      obtain ⟨y, h3, h4⟩ := hR _ _ _ h2
      exact ⟨y, h3, cs', h1, h4⟩
    obtain ⟨l, hlen, hall⟩ := list_of_lt len hex
    subst hlen
    refine ⟨l, ⟨by omega, fun x hx => ?_⟩, ?_⟩
    · obtain ⟨i, hi, rfl⟩ := List.getElem_of_mem hx
      exact (hall i hi).1
    · rcases Nat.eq_zero_or_pos l.length with h0 | hlp
      · have : l = [] := List.eq_nil_of_length_eq_zero h0
        subst this
        exact .one rfl rfl (.sl0 _ _)
      have hcell : ∀ i, (hi : i < l.length) → ∀ j, j < sz → ∃ u, w.cell? ((a.add (i * sz)).add j) = some u ∧ ((en l[i]).cells.getD j dz).leaf = true ∧ RD (fun b => b < w.heap.size) w ((en l[i]).cells.getD j dz) u := by
        intro i hi j hj
        obtain ⟨-, cs', h1, h2⟩ := hall i hi
        obtain ⟨-, h6, h5⟩ := World.cells?_some h1
        have hcl : cs'.length = sz := by rw [h2.1, hsz]
        have h7 := h5 j hj
        rw [List.getElem?_eq_getElem (by omega)] at h7
        refine ⟨_, h7, ?_⟩
        have h8 := h2.2 j (by rw [hsz]; exact hj)
        simpa [List.getD, show j < cs'.length by omega] using h8
      have hspot : a.spot = none := by
        obtain ⟨u, h4, -⟩ := hcell 0 hlp 0 hpos
        have e0 : (a.add (0 * sz)).add 0 = a := by simp [Addr.add]
        rw [e0] at h4
        unfold World.cell? at h4
        cases hsp : a.spot with
        | none => rfl
        | some s =>
          rw [hsp] at h4
          cases hh : w.heap[a.block]? with
          | none => rw [hh] at h4; simp at h4
          | some o => rw [hh] at h4; cases o <;> simp at h4
      have hblk : a.block < w.heap.size := by
        obtain ⟨u, h4, -⟩ := hcell 0 hlp 0 hpos
        have e0 : (a.add (0 * sz)).add 0 = a := by simp [Addr.add]
        rw [e0] at h4
        unfold World.cell? at h4
        apply Classical.byContradiction
        intro hn
        rw [Array.getElem?_eq_none (Nat.le_of_not_lt hn)] at h4
        simp at h4
      obtain ⟨b, o, s⟩ := a
      simp only at hspot hblk
      subst hspot
      have hml : (List.map en l).length = l.length := List.length_map _
      have hget : ∀ i, (hi : i < l.length) → (List.map en l).getD i dz = en l[i] := fun i hi => by simp [List.getD, hi]
      have haddr : ∀ i j, ((⟨b, o, none⟩ : Addr).add (i * sz)).add j = ⟨b, o + (i * sz + j), none⟩ := fun i j => by simp only [Addr.add]; split <;> split <;> simp_all <;> omega
      refine .one rfl rfl ?_
      have := RD.sl (ok := fun b => b < w.heap.size) (w := w) (List.map en l) b o cap sz (by rw [hml]; exact hl) hblk (fun i hi => by rw [hml] at hi; rw [hget i hi]; exact hsz _)
        (fun i hi j hj => by rw [hml] at hi; obtain ⟨u, _, h2, _⟩ := hcell i hi j hj; rw [hget i hi]; exact h2)
        (fun i hi j hj => by rw [hml] at hi; obtain ⟨u, h1, _, _⟩ := hcell i hi j hj; rw [haddr] at h1; rw [h1]; rfl)
        (fun i hi j hj => by rw [hml] at hi; obtain ⟨u, h1, _, h3⟩ := hcell i hi j hj; rw [haddr] at h1; rw [hget i hi]; unfold cellAt; rw [h1]; exact h3)
      rw [hml] at this
      exact this

theorem opn_int {k : IntKind} (ht : P.underlying t = some (.int k)) : Opn enc P w base spare held t (fun n => D.lit (.int k n)) (fun n : Int => k.min ≤ n ∧ n ≤ k.max) := by
  intro fuel cs x h
  obtain ⟨n, rfl, -, hw⟩ := DataW.trod_int ht h
  exact ⟨n, by simpa [Lit.wf] using hw, .one rfl rfl (.lit _)⟩
theorem opn_str (ht : P.underlying t = some .string) : Opn enc P w base spare held t eS (fun s => s.size ≤ maxLen) := by
  intro fuel cs x h
  obtain ⟨n, rfl, -, hw⟩ := DataW.trod_string ht h
  exact ⟨n, hw, .one rfl rfl (.lit _)⟩
theorem opn_bool (ht : P.underlying t = some .bool) : Opn enc P w base spare held t eB (fun _ => True) := by
  intro fuel cs x h
  obtain ⟨n, rfl, -⟩ := DataW.trod_bool ht h
  exact ⟨n, trivial, .one rfl rfl (.lit _)⟩

/-- One field of a struct. -/
theorem opn_field {α : Type} {fs : Array Field} {fuel : Nat} {cs : List Value} {x : DataW H × List MemPlace} (ht : P.underlying t = some (.struct fs)) (h : DataW.trod enc P w base spare held fuel t cs = some x) (i : Nat) (u o n : Nat) (hf : (fs[i]?).map (fun f => (f.type, f.offset, P.cellsOf f.type)) = some (u, o, n))
    {en : α → D} {V : α → Prop} (hR : Opn enc P w base spare held u en V) : ∃ a : α, V a ∧ RdC w (en a).cells ((cs.drop o).take n) := by
  obtain ⟨xs, k, -, -, -, hlen, hall⟩ := DataW.trod_struct ht h
  cases hfi : fs[i]? with
  | none => rw [hfi] at hf; simp at hf
  | some f =>
    rw [hfi] at hf
    simp only [Option.map_some, Option.some.injEq, Prod.mk.injEq] at hf
    obtain ⟨rfl, rfl, rfl⟩ := hf
    have h1 := hall i f hfi
    have hi : i < fs.size := (Array.getElem?_eq_some_iff.1 hfi).1
    rw [List.getElem?_eq_getElem (by omega)] at h1
    exact hR _ _ _ h1
theorem opn_length {fs : Array Field} {fuel : Nat} {cs : List Value} {x : DataW H × List MemPlace} (ht : P.underlying t = some (.struct fs)) (h : DataW.trod enc P w base spare held fuel t cs = some x) (n : Nat) (hn : P.cellsOf t = n) : cs.length = n := by
  obtain ⟨xs, k, -, -, hlen, -⟩ := DataW.trod_struct ht h
  rw [hlen, hn]
/-- The struct, from its fields. -/
theorem opn_struct {cs : List Value} {ds : List D} (ns : List Nat) (hl : cs.length = ns.sum) (h : RdC w ds (pieces ns 0 cs)) : RdC w ds cs := by
  rw [pieces_eq ns 0 cs (by omega)] at h
  simpa using h
end

theorem rd_agg {w : World} {x : D} {ds : List D} {cs : Array Value} (hx : x = .agg ds) (h : RdC w x.cells (Value.agg cs).cells.toList) : RD (fun b => b < w.heap.size) w x (.agg cs) := by
  subst hx
  have h' : RdC w ds cs.toList := h
  exact .agg ds cs (by simpa using h'.1) (fun i hi => (h'.2 i hi).1) fun i hi => by
    have := (h'.2 i hi).2
    simpa [Array.getD_eq_getD_getElem?, List.getD] using this
theorem rd_leaf {w : World} {x : D} {v : Value} (hx : x.cells = [x]) (hv : v.cells = #[v]) (h : RdC w x.cells v.cells.toList) : RD (fun b => b < w.heap.size) w x v := by
  rw [hx, hv] at h
  exact (h.2 0 (by simp)).2

/-- What is told of a function, at the beginning of a claim. -/
theorem Runs.start {P : Program} {f : FuncId} {xs : List D} {vals : Array Value} {W : World} {x : D} (h : Runs P f (xs.map .d) [] (.d x) []) (hs : vals.size = xs.length) (ha : ∀ i, i < xs.length → RD (fun b => b < W.heap.size) W (xs.getD i dz) (vals.getD i undef)) :
    Calls P f vals W fun e W' => ∃ v ok, e = .returned v ∧ RD ok W' x v ∧ Below W.heap.size W W' := by
  refine (h (fun b => b < W.heap.size) [] [] W vals ⟨.refl _ _, fun _ h => h, fun _ h => .inl h, fun _ h => h, .refl _, rfl, fun k e h he => by simp at he, fun k e h b he => by simp at he, fun k k' e e' h h' b he => by simp at he⟩ (by simpa using hs) (fun i hi => ?_)).mono ?_
  · have hi' : i < xs.length := by simpa using hi
    have : (xs.map AV.d).getD i .junk = .d (xs.getD i dz) := by simp [List.getD, hi']
    rw [this]; exact .d _ _ (ha i hi')
  · rintro e W' ⟨v, ok', H', rfl, hm, hr⟩
    cases hr with
    | d _ _ hr => exact ⟨v, ok', rfl, hr, hm.fr.below⟩
theorem Runs.law {P : Program} {f : FuncId} {xs : List D} {vals : Array Value} {W : World} (h : Runs P f (xs.map .d) [] (.d (eB true)) []) (hs : vals.size = xs.length) (ha : ∀ i, i < xs.length → RD (fun b => b < W.heap.size) W (xs.getD i dz) (vals.getD i undef)) :
    Calls P f vals W fun e W' => e = .returned (.bool true) ∧ Below W.heap.size W W' := by
  refine (h.start hs ha).mono ?_
  rintro e W' ⟨v, ok, rfl, hr, hb⟩
  exact ⟨by rw [RD.lit_eq hr], hb⟩
end Go.Proofs.Ytdhhcmdofnjhiaa
