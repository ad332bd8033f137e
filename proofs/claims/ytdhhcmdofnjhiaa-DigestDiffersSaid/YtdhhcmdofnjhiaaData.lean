/- The program's data as plain structures, and how a value reads as such a datum in a world. Definitions and laws without a program. No condition. -/
import Derived.Test.YtdhhcmdofnjhiaaBase
namespace Go.Proofs.Ytdhhcmdofnjhiaa
open Go.RowKit

structure Lv where
  user : ByteArray
  n : Int
deriving DecidableEq
structure KL where
  kind : Int
  n : Int
deriving DecidableEq
structure Lvs where
  users : List Lv
  kinds : List KL
  user : Int
  message : Int
  state : Int
  invite : Int
  kick : Int
  ban : Int
  redact : Int
deriving DecidableEq
structure Cont where
  text : ByteArray
  n : Int
  target : Int
  thread : Bool
  via : ByteArray
  allow : List ByteArray
  deny : List ByteArray
  levels : Lvs
deriving DecidableEq
structure Sg where
  server : ByteArray
  sum : Int
deriving DecidableEq
structure Ev where
  id : Int
  room : ByteArray
  sender : ByteArray
  kind : Int
  state : Bool
  key : ByteArray
  time : Int
  depth : Int
  prev : List Int
  auth : List Int
  content : Cont
  hash : Int
  sig : Sg
deriving DecidableEq
structure Ent where
  kind : Int
  key : ByteArray
  id : Int
deriving DecidableEq
structure RowD where
  pos : Int
  id : Int
  status : Int
  gone : Bool
deriving DecidableEq
structure Rcp where
  user : ByteArray
  thread : Int
  id : Int
  time : Int
deriving DecidableEq
structure Typ where
  user : ByteArray
  till : Int
deriving DecidableEq
structure Rm where
  id : ByteArray
  events : List Ev
  rows : List RowD
  waiting : List Ev
  heads : List Int
  state : List Ent
  next : Int
  receipts : List Rcp
  typing : List Typ
deriving DecidableEq

/-- What lies at b, o: the cells cs. -/
def CellsAt (w : World) (b o : Nat) (cs : Array Value) : Prop := ∀ j, j < cs.size → w.cell? ⟨b, o + j, none⟩ = some (cs.getD j undef)

/-- A reading of cells that stays when the world grows. -/
def Mono {α : Type} (R : World → Array Value → α → Prop) : Prop := ∀ w w' cs x, Below w.heap.size w w' → R w cs x → R w' cs x

/-- The slice v reads as the list l: each element's sz cells read by R. -/
def SlR {α : Type} (sz : Nat) (R : World → Array Value → α → Prop) (w : World) (v : Value) (l : List α) : Prop :=
  ∃ a c, v = .slice a l.length c ∧ l.length ≤ c ∧ c ≤ maxLen ∧ (a = none → c = 0) ∧
    (∀ i (h : i < l.length), ∃ b o cs, a = some ⟨b, o, none⟩ ∧ cs.size = sz ∧ cs.all (·.oneCell') = true ∧ CellsAt w b (o + i * sz) cs ∧ R w cs l[i])

theorem CellsAt.lt {w : World} {b o : Nat} {cs : Array Value} (h : CellsAt w b o cs) (hs : 0 < cs.size) : b < w.heap.size := by
  have := World.block_lt_of_cell? w _ (h 0 hs); exact this

theorem CellsAt.mono {w w' : World} {b o : Nat} {cs : Array Value} (h : CellsAt w b o cs) (hb : Below w.heap.size w w') : CellsAt w' b o cs := by
  intro j hj
  have h1 := h j hj
  have h2 := World.block_lt_of_cell? w _ h1
  exact (hb.cell (p := ⟨b, o + j, none⟩) h2).trans h1

theorem SlR.mono {α : Type} {sz : Nat} {R : World → Array Value → α → Prop} (hR : Mono R) : Mono (fun w cs (l : List α) => ∃ v, cs = #[v] ∧ SlR sz R w v l) := by
  rintro w w' cs l hb ⟨v, rfl, a, c, rfl, h1, h2, h3, h4⟩
  refine ⟨_, rfl, a, c, rfl, h1, h2, h3, fun i hi => ?_⟩
  obtain ⟨b, o, cs, e1, e2, e3, e4, e5⟩ := h4 i hi
  exact ⟨b, o, cs, e1, e2, e3, e4.mono hb, hR _ _ _ _ hb e5⟩

theorem SlR.below {α : Type} {sz : Nat} {R : World → Array Value → α → Prop} (hR : Mono R) {w w' : World} {v : Value} {l : List α} (h : SlR sz R w v l) (hb : Below w.heap.size w w') : SlR sz R w' v l := by
  obtain ⟨v', e, h'⟩ := SlR.mono hR w w' #[v] l hb ⟨v, rfl, h⟩
  simp at e; subst e; exact h'

/-- Behind a new block: what holds above it holds below it. -/
theorem below_box {w wr : World} {o : Obj} (h : Below (w.heap.size + 1) (w.alloc o) wr) : Below w.heap.size w wr :=
  ((Below.refl _ _).alloc (Nat.le_refl _) o).trans (h.mono (by omega))

theorem CellsAt.at29 {w : World} {b o : Nat} {cs : Array Value} {n : Nat} (h : CellsAt w b o cs) (hn : cs.size = n) : ∀ j, j < n → w.cell? ⟨b, o + j, none⟩ = some (cs.getD j undef) :=
  fun j hj => h j (by omega)

/-- An element of one cell. -/
def OneC {α : Type} (enc : α → Value) (_ : World) (cs : Array Value) (x : α) : Prop := cs = #[enc x]
theorem OneC.mono {α : Type} {enc : α → Value} : Mono (OneC enc) := fun _ _ _ _ _ h => h
abbrev IntC := OneC (Value.int .i64)
abbrev StrC := OneC Value.string
abbrev BytC := OneC (Value.int .u8)
theorem IntC.mono : Mono IntC := OneC.mono
theorem StrC.mono : Mono StrC := OneC.mono
theorem BytC.mono : Mono BytC := OneC.mono

abbrev Ints := SlR 1 IntC
abbrev Strs := SlR 1 StrC
abbrev Bytes := SlR 1 BytC

def LvC (_ : World) (cs : Array Value) (x : Lv) : Prop := cs = #[.string x.user, .int .i64 x.n]
def KLC (_ : World) (cs : Array Value) (x : KL) : Prop := cs = #[.int .i64 x.kind, .int .i64 x.n]
def EntC (_ : World) (cs : Array Value) (x : Ent) : Prop := cs = #[.int .i64 x.kind, .string x.key, .int .i64 x.id]
def RowC (_ : World) (cs : Array Value) (x : RowD) : Prop := cs = #[.int .i64 x.pos, .int .i64 x.id, .int .i64 x.status, .bool x.gone]
def RcpC (_ : World) (cs : Array Value) (x : Rcp) : Prop := cs = #[.string x.user, .int .i64 x.thread, .int .i64 x.id, .int .i64 x.time]
def TypC (_ : World) (cs : Array Value) (x : Typ) : Prop := cs = #[.string x.user, .int .i64 x.till]
theorem LvC.mono : Mono LvC := fun _ _ _ _ _ h => h
theorem KLC.mono : Mono KLC := fun _ _ _ _ _ h => h
theorem EntC.mono : Mono EntC := fun _ _ _ _ _ h => h
theorem RowC.mono : Mono RowC := fun _ _ _ _ _ h => h
theorem RcpC.mono : Mono RcpC := fun _ _ _ _ _ h => h
theorem TypC.mono : Mono TypC := fun _ _ _ _ _ h => h

/-- An event's 29 cells. -/
def EvC (w : World) (cs : Array Value) (e : Ev) : Prop :=
  ∃ prev auth allow deny users kinds,
    cs = #[.int .i64 e.id, .string e.room, .string e.sender, .int .i64 e.kind, .bool e.state, .string e.key, .int .i64 e.time, .int .i64 e.depth, prev, auth,
      .string e.content.text, .int .i64 e.content.n, .int .i64 e.content.target, .bool e.content.thread, .string e.content.via, allow, deny,
      users, kinds, .int .i64 e.content.levels.user, .int .i64 e.content.levels.message, .int .i64 e.content.levels.state, .int .i64 e.content.levels.invite,
      .int .i64 e.content.levels.kick, .int .i64 e.content.levels.ban, .int .i64 e.content.levels.redact, .int .i64 e.hash, .string e.sig.server, .int .i64 e.sig.sum] ∧
    Ints w prev e.prev ∧ Ints w auth e.auth ∧ Strs w allow e.content.allow ∧ Strs w deny e.content.deny ∧ SlR 2 LvC w users e.content.levels.users ∧ SlR 2 KLC w kinds e.content.levels.kinds

theorem EvC.mono : Mono EvC := by
  rintro w w' cs e hb ⟨prev, auth, allow, deny, users, kinds, rfl, h1, h2, h3, h4, h5, h6⟩
  exact ⟨prev, auth, allow, deny, users, kinds, rfl, h1.below IntC.mono hb, h2.below IntC.mono hb, h3.below StrC.mono hb, h4.below StrC.mono hb, h5.below LvC.mono hb, h6.below KLC.mono hb⟩

abbrev Evs := SlR 29 EvC

/-- A room's 9 cells. -/
def RmC (w : World) (cs : Array Value) (r : Rm) : Prop :=
  ∃ evs rows wait heads st rcps typs,
    cs = #[.string r.id, evs, rows, wait, heads, st, .int .i64 r.next, rcps, typs] ∧
    Evs w evs r.events ∧ SlR 4 RowC w rows r.rows ∧ Evs w wait r.waiting ∧ Ints w heads r.heads ∧ SlR 3 EntC w st r.state ∧ SlR 4 RcpC w rcps r.receipts ∧ SlR 2 TypC w typs r.typing

theorem RmC.mono : Mono RmC := by
  rintro w w' cs r hb ⟨evs, rows, wait, heads, st, rcps, typs, rfl, h1, h2, h3, h4, h5, h6, h7⟩
  exact ⟨evs, rows, wait, heads, st, rcps, typs, rfl, h1.below EvC.mono hb, h2.below RowC.mono hb, h3.below EvC.mono hb, h4.below IntC.mono hb, h5.below EntC.mono hb, h6.below RcpC.mono hb, h7.below TypC.mono hb⟩

/-- A row of the call's own, read element by element. -/
theorem sl_of_owns {α : Type} {enc : α → Value} (hone : ∀ x, (enc x).oneCell' = true) {w : World} {base e : Nat} {v : Value} {n : Nat} {l : List α} (h : w.ownsRow base e 1 v n (l.map enc)) : SlR 1 (OneC enc) w v l := by
  have hn : n = l.length := by have := h.1; simp at this; omega
  subst hn
  rcases h.2 with ⟨rfl, h0⟩ | ⟨g, cap, cur, rfl, hb, hg, hnc, hcm, hcs, htake⟩
  · have : l = [] := List.eq_nil_of_length_eq_zero h0
    subst this
    exact ⟨none, 0, rfl, Nat.le_refl _, by simp [maxLen], fun _ => rfl, fun i hi => by simp at hi⟩
  · refine ⟨some ⟨g, 0, none⟩, cap, rfl, hnc, hcm, fun h => by simp at h, fun i hi => ⟨g, 0, #[enc l[i]], rfl, rfl, by simp [hone], ?_, rfl⟩⟩
    intro j hj
    simp at hj; subst hj
    have := h.cells (g := g) rfl i (enc l[i]) (by simp [hi])
    rw [addr_add] at this
    simpa using this
theorem ints_of_owns {w : World} {base e : Nat} {v : Value} {n : Nat} {l : List Int} (h : w.ownsRow base e 1 v n (l.map (Value.int .i64))) : Ints w v l := sl_of_owns (fun _ => rfl) h
theorem bytes_of_owns {w : World} {base e : Nat} {v : Value} {n : Nat} {l : List Int} (h : w.ownsRow base e 1 v n (l.map (Value.int .u8))) : Bytes w v l := sl_of_owns (fun _ => rfl) h

/-- The cell of one element. -/
theorem SlR.ielem {α : Type} {enc : α → Value} {w : World} {a : Option Addr} {n c : Nat} {l : List α} (h : SlR 1 (OneC enc) w (.slice a n c) l) {k : Nat} (hk : k < l.length) :
    ∃ b o, a = some ⟨b, o, none⟩ ∧ w.cell? ⟨b, o + k, none⟩ = some (enc l[k]) := by
  obtain ⟨a', c', e, h1, h2, h3, h4⟩ := h
  simp only [Value.slice.injEq] at e
  obtain ⟨rfl, -, rfl⟩ := e
  obtain ⟨b', o', cs, e1, e2, e3, e4, e5⟩ := h4 k hk
  refine ⟨b', o', e1, ?_⟩
  have := e4 0 (by omega)
  have e5' : cs = #[enc l[k]] := e5
  subst e5'
  simpa using this

theorem SlR.src {α : Type} {sz : Nat} {R : World → Array Value → α → Prop} {w : World} {v : Value} {l : List α} (h : SlR sz R w v l) (f : α → List Value)
    (hf : ∀ cs x, R w cs x → cs.toList = f x) : SrcCells w v l.length sz (l.flatMap f) := by
  obtain ⟨a, c, rfl, h1, h2, h3, h4⟩ := h
  have hlen : ∀ x ∈ l, (f x).length = sz := by
    intro x hx
    obtain ⟨i, hi, rfl⟩ := List.getElem_of_mem hx
    obtain ⟨b, o, cs, e1, e2, e3, e4, e5⟩ := h4 i hi
    rw [← hf _ _ e5]; simpa using e2
  have hsum : (l.flatMap f).length = l.length * sz := by
    rw [List.length_flatMap]
    have : l.map (fun x => (f x).length) = List.replicate l.length sz := by
      apply List.ext_getElem (by simp)
      intro i h1 h2
      simp at h1 ⊢
      exact hlen _ (List.getElem_mem _)
    rw [this]; simp
  have hget : ∀ (k : Nat) (l' : List α), (∀ x ∈ l', (f x).length = sz) → ∀ j u, (l'.flatMap f)[j]? = some u → ∃ i, ∃ h : i < l'.length, ∃ jj, jj < sz ∧ j = i * sz + jj ∧ (f l'[i])[jj]? = some u := by
    intro _ l'
    induction l' with
    | nil => intro _ j u hu; simp at hu
    | cons x r ih =>
      intro hx j u hu
      rw [List.flatMap_cons] at hu
      have hxl := hx x (by simp)
      by_cases hj : j < sz
      · rw [List.getElem?_append_left (by omega)] at hu
        exact ⟨0, by simp, j, hj, by omega, by simpa using hu⟩
      · rw [List.getElem?_append_right (by omega), hxl] at hu
        obtain ⟨i, hi, jj, g1, g2, g3⟩ := ih (fun y hy => hx y (by simp [hy])) _ _ hu
        refine ⟨i + 1, by simp; omega, jj, g1, ?_, by simpa using g3⟩
        rw [Nat.add_mul]; omega
  refine ⟨a, c, rfl, h3, h1, hsum, ?_, ?_⟩
  · intro u hu
    obtain ⟨x, hx, hu⟩ := List.mem_flatMap.1 hu
    obtain ⟨i, hi, rfl⟩ := List.getElem_of_mem hx
    obtain ⟨b, o, cs, e1, e2, e3, e4, e5⟩ := h4 i hi
    rw [← hf _ _ e5] at hu
    exact (Array.all_eq_true_iff_forall_mem.1 e3) u (by simpa using hu)
  · intro j u hu
    obtain ⟨i, hi, jj, g1, g2, g3⟩ := hget 0 l hlen j u hu
    obtain ⟨b, o, cs, e1, e2, e3, e4, e5⟩ := h4 i hi
    refine ⟨b, o, e1, ?_⟩
    rw [← hf _ _ e5] at g3
    have hjj : jj < cs.size := by omega
    have := e4 jj hjj
    rw [g2, ← Nat.add_assoc, this]
    simp [Array.getD, hjj] at g3 ⊢
    exact g3

theorem SlR.isrc {α : Type} {enc : α → Value} {w : World} {v : Value} {l : List α} (h : SlR 1 (OneC enc) w v l) : SrcCells w v l.length 1 (l.map enc) := by
  have := SlR.src h (fun x => [enc x]) (by intro cs x hR; unfold OneC at hR; subst hR; rfl)
  have e : l.flatMap (fun x => [enc x]) = l.map enc := by
    clear this h
    induction l with
    | nil => rfl
    | cons x r ih => rw [List.flatMap_cons, ih]; rfl
  rw [e] at this; exact this

/-- A slice cut out of one that is read. -/
theorem SlR.cut {α : Type} {sz : Nat} {R : World → Array Value → α → Prop} {w : World} {a : Option Addr} {n c : Nat} {l : List α} (h : SlR sz R w (.slice a n c) l) (lo hi : Nat)
    (h1 : lo ≤ hi) (h2 : hi ≤ l.length) : SlR sz R w (sliced a lo hi c sz) ((l.take hi).drop lo) := by
  obtain ⟨a', c', e, g1, g2, g3, g4⟩ := h
  simp only [Value.slice.injEq] at e
  obtain ⟨rfl, rfl, rfl⟩ := e
  have hl : ((l.take hi).drop lo).length = hi - lo := by simp; omega
  unfold sliced
  refine ⟨_, _, by rw [hl], by omega, by omega, ?_, ?_⟩
  · intro hn
    split at hn
    · omega
    · have : a = none := by cases a <;> simp_all
      have := g3 this; omega
  · intro i hi'
    rw [hl] at hi'
    obtain ⟨b, o, cs, e1, e2, e3, e4, e5⟩ := g4 (lo + i) (by omega)
    subst e1
    refine ⟨b, o + lo * sz, cs, ?_, e2, e3, ?_, ?_⟩
    · rw [if_neg (by omega)]
      simp [addr_add]
    · rw [Nat.add_assoc, ← Nat.add_mul]; exact e4
    · simpa using e5

section
variable {P : Program} {ops : Array Oper} {rest : List Oper} {o : Oper} {a : Act} {w : World} {Q : Exit → Act → World → Prop}

/-- 's[:h]' of a slice that is read. -/
theorem wpList_cut_hi {α : Type} (hgd : o.guard = none) (t : TypeId) (x y : Operand) (ho : o.op = .slice t x none (some y) none) (sz : Nat) (ht : P.underlying t = some (.slice (P.elem t)))
    (hS : ∀ w, (sizeOf (P.elem t)).run P w = .ok sz w) (R : World → Array Value → α → Prop) (l : List α) (ad : Option Addr) (n c : Nat) (hx : a.eval x = .slice ad n c) (hR : SlR sz R w (.slice ad n c) l)
    (H : Int) (hy : a.eval y = .int .i64 H) (h0 : 0 ≤ H) (h1 : H ≤ l.length)
    (h : ∀ v', SlR sz R w v' (l.take H.toNat) → wpList P ops Q rest (a.put o.dst v') w) : wpList P ops Q (o :: rest) a w := by
  refine wpList_plain hgd fun _ hK => ?_
  have hc : l.length ≤ c := by obtain ⟨a', c', e, g1, -⟩ := hR; simp at e; omega
  unfold Oper.wp execOp
  simp only [ho, hx, hy, Option.map_none, Option.map_some, Sem.run_bind, Sem.run_pure, run_sliceAt_slice (P := P) w t _ _ _ _ ht, run_slice_h (P := P) (w := w) t ad n c ht .i64 H h0 (by omega), hS, Result.andThen_ok]
  exact hK _ _ (h _ (by simpa using hR.cut 0 H.toNat (by omega) (by omega)))

/-- 's[k:]' of a slice that is read. -/
theorem wpList_cut_lo {α : Type} (hgd : o.guard = none) (t : TypeId) (x y : Operand) (ho : o.op = .slice t x (some y) none none) (sz : Nat) (ht : P.underlying t = some (.slice (P.elem t)))
    (hS : ∀ w, (sizeOf (P.elem t)).run P w = .ok sz w) (R : World → Array Value → α → Prop) (l : List α) (ad : Option Addr) (n c : Nat) (hx : a.eval x = .slice ad n c) (hR : SlR sz R w (.slice ad n c) l)
    (L : Int) (hy : a.eval y = .int .i64 L) (h0 : 0 ≤ L) (h1 : L ≤ l.length)
    (h : ∀ v', SlR sz R w v' (l.drop L.toNat) → wpList P ops Q rest (a.put o.dst v') w) : wpList P ops Q (o :: rest) a w := by
  refine wpList_plain hgd fun _ hK => ?_
  have hn : n = l.length := by obtain ⟨a', c', e, g1, -⟩ := hR; simp at e; omega
  unfold Oper.wp execOp
  simp only [ho, hx, hy, Option.map_none, Option.map_some, Sem.run_bind, Sem.run_pure, run_sliceAt_slice (P := P) w t _ _ _ _ ht, run_slice_l (P := P) (w := w) t ad n c ht .i64 L h0 (by omega), hS, Result.andThen_ok]
  exact hK _ _ (h _ (by subst hn; simpa using hR.cut L.toNat l.length (by omega) (Nat.le_refl _)))
end
end Go.Proofs.Ytdhhcmdofnjhiaa
