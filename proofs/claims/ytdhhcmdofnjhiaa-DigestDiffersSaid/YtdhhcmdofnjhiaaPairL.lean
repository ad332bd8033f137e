/- Two rooms: their ids as sets; two boxes. Plain. -/
import Derived.Test.YtdhhcmdofnjhiaaRoomR
namespace Go.Proofs.Ytdhhcmdofnjhiaa
open Go.RowKit

abbrev rmLit (r : Rm) (ev rw wt hd st rc ty : Value) : Array Value := #[.string r.id, ev, rw, wt, hd, st, .int .i64 r.next, rc, ty]
theorem RmC.lit {w : World} {cs : Array Value} {r : Rm} (h : RmC w cs r) : ∃ ev rw wt hd st rc ty, cs = rmLit r ev rw wt hd st rc ty := by
  obtain ⟨evs, rows, wait, heads, st, rcps, typs, rfl, -⟩ := h
  exact ⟨_, _, _, _, _, _, _, rfl⟩

def idsOf (r : Rm) : List Int := sortU (evIds r.events)
theorem idsOf_length (r : Rm) : (idsOf r).length ≤ r.events.length := by
  have := putsTo_length [] (evIds r.events) (evIds r.events).length
  unfold putsTo at this; rw [List.take_length] at this
  have h2 := evIds_length r.events
  unfold idsOf sortU
  rw [h2] at this; simpa using this
def differU (a b : Rm) : List Int := unionU (minusU (idsOf a) (idsOf b)) (minusU (idsOf b) (idsOf a))
def commonU (a b : Rm) : List Int := minusU (idsOf a) (minusU (idsOf a) (idsOf b))
def behindU (a b : Rm) : Int := (minusU (idsOf b) (idsOf a)).length
def sameU (a b : Rm) : Bool := decide (differU a b = [])
theorem minusU_length (a b : List Int) : (minusU a b).length ≤ a.length := by
  have h1 := List.length_filter_le (fun x => !hasB b x) (sortU a)
  have := putsTo_length [] a a.length
  unfold putsTo at this; rw [List.take_length] at this
  unfold minusU sortU at *
  simp only [List.length_nil] at this
  omega

theorem two_a (w : World) (cs ds : Array Value) (t : TypeId) : ∀ k, ((w.alloc (.cells cs t)).alloc (.cells ds t)).cell? ⟨w.heap.size, k, none⟩ = cs[k]? :=
  box_keep (box_all w cs t) ((Below.refl (w.heap.size + 1) _).alloc (by simp) _) (Nat.lt_succ_self _)
theorem two_b (w : World) (cs ds : Array Value) (t : TypeId) : ∀ k, ((w.alloc (.cells cs t)).alloc (.cells ds t)).cell? ⟨w.heap.size + 1, k, none⟩ = ds[k]? := by
  have h := box_all (w.alloc (.cells cs t)) ds t
  have e : (w.alloc (.cells cs t)).heap.size = w.heap.size + 1 := by simp
  rw [e] at h; exact h
theorem two_size (w : World) (o1 o2 : Obj) : ((w.alloc o1).alloc o2).heap.size = w.heap.size + 2 := by simp

end Go.Proofs.Ytdhhcmdofnjhiaa
