/- Plain laws: the bytes of which a room's digest is the sum. No program. -/
import Derived.Test.YtdhhcmdofnjhiaaIds
namespace Go.Proofs.Ytdhhcmdofnjhiaa

def evPart (rows : List RowD) (e : Ev) : List Int := enc e.id ++ enc (verdictOf (findRow rows e.id))
def stPart (x : Ent) : List Int := enc x.kind ++ encText x.key ++ enc x.id
def evTo (r : Rm) (k : Nat) : List Int := encText r.id ++ enc r.events.length ++ (r.events.take k).flatMap (evPart r.rows)
def stTo (r : Rm) (k : Nat) : List Int := evTo r r.events.length ++ enc r.state.length ++ (r.state.take k).flatMap stPart
def roomBytes (r : Rm) : List Int := stTo r r.state.length

theorem evTo_succ (r : Rm) (k : Nat) (hk : k < r.events.length) : evTo r (k + 1) = evTo r k ++ enc r.events[k].id ++ enc (verdictOf (findRow r.rows r.events[k].id)) := by
  unfold evTo; rw [List.take_succ_eq_append_getElem hk, List.flatMap_append]; simp [evPart, List.append_assoc]
theorem stTo_succ (r : Rm) (k : Nat) (hk : k < r.state.length) : stTo r (k + 1) = stTo r k ++ enc r.state[k].kind ++ encText r.state[k].key ++ enc r.state[k].id := by
  unfold stTo; rw [List.take_succ_eq_append_getElem hk, List.flatMap_append]; simp [stPart, List.append_assoc]
theorem evTo_zero (r : Rm) : evTo r 0 = encText r.id ++ enc r.events.length := by unfold evTo; simp
theorem stTo_zero (r : Rm) : stTo r 0 = evTo r r.events.length ++ enc r.state.length := by unfold stTo; simp

/-- A room of a size at which the digest is reckoned. -/
structure SmallRm (r : Rm) : Prop where
  ev : r.events.length ≤ 1000
  st : r.state.length ≤ 1000
  id : r.id.size ≤ 100000
  key : ∀ x ∈ r.state, x.key.size ≤ 100000

theorem encText_length (s : ByteArray) : (encText s).length ≤ 10 + s.size := by unfold encText; rw [List.length_append, sb_length]; have := enc_length s.size; omega
theorem flatMap_length_le {α : Type} (f : α → List Int) (m : Nat) : ∀ (l : List α), (∀ x ∈ l, (f x).length ≤ m) → (l.flatMap f).length ≤ l.length * m
  | [], _ => by simp
  | a :: l, h => by
    rw [List.flatMap_cons, List.length_append, List.length_cons, Nat.add_mul]
    have h1 := h a (by simp)
    have h2 := flatMap_length_le f m l (fun x hx => h x (by simp [hx]))
    omega
theorem evTo_length (r : Rm) (hs : SmallRm r) (k : Nat) (hk : k ≤ r.events.length) : (evTo r k).length ≤ 200000 := by
  unfold evTo
  have h1 := encText_length r.id
  have h2 := enc_length r.events.length
  have h3 := flatMap_length_le (evPart r.rows) 20 (r.events.take k) (fun x _ => by unfold evPart; rw [List.length_append]; have := enc_length x.id; have := enc_length (verdictOf (findRow r.rows x.id)); omega)
  have h4 : (r.events.take k).length ≤ k := List.length_take_le _ _
  have := hs.ev; have := hs.id
  rw [List.length_append, List.length_append]
  omega
theorem stTo_length (r : Rm) (hs : SmallRm r) (k : Nat) (hk : k ≤ r.state.length) : (stTo r k).length ≤ 200000000 := by
  unfold stTo
  have h1 := evTo_length r hs _ (Nat.le_refl _)
  have h2 := enc_length r.state.length
  have h3 := flatMap_length_le stPart 100030 (r.state.take k) (fun x hx => by
    unfold stPart
    rw [List.length_append, List.length_append]
    have := enc_length x.id; have := enc_length x.kind; have := encText_length x.key; have := hs.key x (List.mem_of_mem_take hx)
    omega)
  have h4 : (r.state.take k).length ≤ k := List.length_take_le _ _
  have := hs.st
  rw [List.length_append, List.length_append]
  omega
end Go.Proofs.Ytdhhcmdofnjhiaa
