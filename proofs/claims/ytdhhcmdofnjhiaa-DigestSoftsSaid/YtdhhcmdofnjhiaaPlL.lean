/- A small calculus for the typed functions: what a computation gives, loops over lists. No program. No condition. -/
import Derived.Test.YtdhhcmdofnjhiaaAvP
import Derived.Test.YtdhhcmdofnjhiaaNumL
namespace Go.Proofs.Ytdhhcmdofnjhiaa
open Go.RowKit

/-- The computation gives a result with Q. -/
def Tri {R : Type} (o : Option R) (Q : R → Prop) : Prop := ∃ r, o = some r ∧ Q r
section
variable {R A B α : Type} {Q : R → Prop}
theorem Tri.ret {r : R} (h : Q r) : Tri (some r) Q := ⟨r, rfl, h⟩
theorem Tri.bind {o : Option A} {f : A → Option R} {P : A → Prop} (h : Tri o P) (k : ∀ x, P x → Tri (f x) Q) : Tri (o.bind f) Q := by
  obtain ⟨x, rfl, hx⟩ := h; exact k x hx
theorem Tri.mono {o : Option R} {P : R → Prop} (h : Tri o P) (k : ∀ r, P r → Q r) : Tri o Q := by
  obtain ⟨x, rfl, hx⟩ := h; exact ⟨x, rfl, k x hx⟩
theorem Tri.bif {b : Bool} {x y : Option R} (h1 : b = true → Tri x Q) (h2 : b = false → Tri y Q) : Tri (bif b then x else y) Q := by
  cases b with
  | true => exact h1 rfl
  | false => exact h2 rfl
theorem Tri.eq {o : Option R} {r : R} (h : Tri o (· = r)) : o = some r := by obtain ⟨x, rfl, rfl⟩ := h; rfl
theorem Tri.of {o : Option R} {r : R} (h : o = some r) : Tri o (· = r) := ⟨r, h, rfl⟩

theorem gIdx_nat (l : List α) (i : Nat) : gIdx l (i : Int) = l[i]? := by unfold gIdx; rw [if_pos (Int.natCast_nonneg i)]; simp
theorem gIdx_lt {l : List α} {i : Nat} (h : i < l.length) : gIdx l (i : Int) = some l[i] := by rw [gIdx_nat]; simp [h]
theorem gApp_le {b : Nat} {l m : List α} (h : (l.length + m.length) * b ≤ 140737488355328) : gApp b l m = some (l ++ m) := by unfold gApp; rw [if_pos h]
theorem gSub_le {l : List α} {lo hi : Nat} (h1 : lo ≤ hi) (h2 : hi ≤ l.length) : gSub l (lo : Int) (hi : Int) = some ((l.drop lo).take (hi - lo)) := by
  unfold gSub; rw [if_pos ⟨by omega, by omega, by omega⟩]; simp
theorem wrap_succ (i : Nat) (h : i < 4611686018427387904) : IntKind.i64.wrap ((i : Int) + 1) = ((i + 1 : Nat) : Int) := by
  rw [IntKind.wrap_i64]; omega
theorem wrap_id {x : Int} (h1 : -9223372036854775808 ≤ x) (h2 : x ≤ 9223372036854775807) : IntKind.i64.wrap x = x := by
  rw [IntKind.wrap_i64]; omega

/-- A loop whose rounds lower a number. -/
theorem loop1_tri {body : (A → Option R) → A → Option R} (I : Nat → A → Prop) (hs : ∀ m a k, I m a → (∀ m' a', m' < m → I m' a' → Tri (k a') Q) → Tri (body k a) Q) :
    ∀ n m a, m < n → I m a → Tri (loop1 body n a) Q
  | 0, m, a, h, _ => by omega
  | n + 1, m, a, h, hi => hs m a _ hi fun m' a' h' hi' => loop1_tri I hs n m' a' (by omega) hi'
theorem loop2_tri {body : (A → B → Option R) → A → B → Option R} (I : Nat → A → B → Prop) (hs : ∀ m a b k, I m a b → (∀ m' a' b', m' < m → I m' a' b' → Tri (k a' b') Q) → Tri (body k a b) Q) :
    ∀ n m a b, m < n → I m a b → Tri (loop2 body n a b) Q
  | 0, m, a, b, h, _ => by omega
  | n + 1, m, a, b, h, hi => hs m a b _ hi fun m' a' b' h' hi' => loop2_tri I hs n m' a' b' (by omega) hi'

/-- A loop over a list by its places. -/
theorem loop1_at {body : (Int → Option R) → Int → Option R} (N : Nat) (hN : N < fuel) (I : Nat → Prop) (h0 : I 0)
    (hs : ∀ i k, i < N → I i → (I (i + 1) → Tri (k ((i + 1 : Nat) : Int)) Q) → Tri (body k (i : Int)) Q) (he : ∀ k, I N → Tri (body k (N : Int)) Q) : Tri (loop1 body fuel 0) Q := by
  refine loop1_tri (body := body) (Q := Q) (fun m a => ∃ i : Nat, a = i ∧ i + m = N ∧ I i) ?_ fuel N 0 hN ⟨0, rfl, by omega, h0⟩
  rintro m a k ⟨i, rfl, hm, hi⟩ hk
  by_cases e : i < N
  · exact hs i k e hi fun h => hk (m - 1) _ (by omega) ⟨i + 1, rfl, by omega, h⟩
  · have : i = N := by omega
    subst this; exact he k hi
theorem loop2_at {body : (A → Int → Option R) → A → Int → Option R} (N : Nat) (hN : N < fuel) (I : Nat → A → Prop) {a0 : A} (h0 : I 0 a0)
    (hs : ∀ i a k, i < N → I i a → (∀ a', I (i + 1) a' → Tri (k a' ((i + 1 : Nat) : Int)) Q) → Tri (body k a (i : Int)) Q) (he : ∀ a k, I N a → Tri (body k a (N : Int)) Q) : Tri (loop2 body fuel a0 0) Q := by
  refine loop2_tri (body := body) (Q := Q) (fun m a b => ∃ i : Nat, b = i ∧ i + m = N ∧ I i a) ?_ fuel N a0 0 hN ⟨0, rfl, by omega, h0⟩
  rintro m a b k ⟨i, rfl, hm, hi⟩ hk
  by_cases e : i < N
  · exact hs i a k e hi fun a' h => hk (m - 1) _ _ (by omega) ⟨i + 1, rfl, by omega, h⟩
  · have : i = N := by omega
    subst this; exact he a k hi
end
end Go.Proofs.Ytdhhcmdofnjhiaa
