/-
  No cell of these rows narrows 'for every input' (looked for: loops, veiled, ifaces, maps, wideKeys, modest, calm, conditions, laid).
  DERIVED. THE GIVEN ROWS OF THIS SEAT. 6 by the template 'for every input the law returns true; each argument reads behind the call as it read before'; 0 by the template 'total and deterministic' (their statements: YtldfpencimjjlaaGreatTotals.lean).
  GIVEN WITH THE SEED: the statements are not yours to turn. If you find one false, say at which input.
  Laid BY PROGRAM, IN A SANDBOX (cutbox-rows.mjs): the forced cells as the released guide's own fill.sh prints them over the translation ef79c46ef4d04d8c… (all of the seat's roots in one cut). By AI agents, Wed Nov 11 2026. No macro, syntax, notation, axiom, sorry.
-/
import Derived.Test.YtldfpencimjjlaaGreatChecked
import GoSem.Claim
import GoSem.ClaimJoined
import GoSem.ClaimMapViews
import Derived.JoinedTies
import Derived.KernelRfl
namespace Go.Proofs.YtldfpencimjjlaaGreat
/- THE CELL 'sum', in the pinned program and in every row, IS THE sha256 OF THE DUMP (.gsa) THAT YtldfpencimjjlaaGreatProg.lean LOADS. Nothing in Lean hashes anything: it is a label: what it is worth is what the hold of that sum in a sandbox is worth. -/
noncomputable def Tryz.pinned : Pinned := { name := "ytldfpencimjjlaagreat", sum := "ef79c46ef4d04d8c20040e0e602fa4b4f34ec4084ddffd65b1b71f41b7191386", checked := Tryz.checked }
namespace Rows
def none {H : Type} : Left H := { results := [], args := [] }

/-- 'fedchatlaw26.RedactMay': WHATEVER THE INPUT: true; the input reads as it did. -/
def redactMaySpec : ChangeSpec := { name := "redactMay", fn := fun _ => fun
  | [d1, d2] => { results := [.lit (.bool true)], args := [d1, d2] }
  | _ => none }
def redactMayRow : OpenClaim := { program := "ytldfpencimjjlaagreat", sum := "ef79c46ef4d04d8c20040e0e602fa4b4f34ec4084ddffd65b1b71f41b7191386", func := "fedchat/fedchatlaw26.RedactMay", spec := "redactMay", inPlace := ["slices.overlaps[fedchat/api.Event]", "internal/bytealg.IndexByteString", "internal/bytealg.IndexString"], unfollowed := true, recurses := true, named := ["internal/bytealg.MaxLen"], apart := false }
def RedactMaySaid : Prop := redactMayRow.holds Tryz.pinned (OpenSpec.ofChange redactMaySpec)

/-- ITS FALSE NEIGHBOUR: 'it returns false'. Refute it at one input. -/
def redactMayWrong : ChangeSpec := { name := "redactMay", fn := fun _ => fun
  | [d1, d2] => { results := [.lit (.bool false)], args := [d1, d2] }
  | _ => none }
def RedactMayWrongFalsely : Prop := redactMayRow.holds Tryz.pinned (OpenSpec.ofChange redactMayWrong)

/-- 'fedchatlaw26.RedactGone': WHATEVER THE INPUT: true; the input reads as it did. -/
def redactGoneSpec : ChangeSpec := { name := "redactGone", fn := fun _ => fun
  | [d1, d2] => { results := [.lit (.bool true)], args := [d1, d2] }
  | _ => none }
def redactGoneRow : OpenClaim := { program := "ytldfpencimjjlaagreat", sum := "ef79c46ef4d04d8c20040e0e602fa4b4f34ec4084ddffd65b1b71f41b7191386", func := "fedchat/fedchatlaw26.RedactGone", spec := "redactGone", inPlace := ["slices.overlaps[fedchat/api.Event]", "internal/bytealg.IndexByteString", "internal/bytealg.IndexString"], unfollowed := true, recurses := true, named := ["internal/bytealg.MaxLen"], apart := false }
def RedactGoneSaid : Prop := redactGoneRow.holds Tryz.pinned (OpenSpec.ofChange redactGoneSpec)

/-- ITS FALSE NEIGHBOUR: 'it returns false'. Refute it at one input. -/
def redactGoneWrong : ChangeSpec := { name := "redactGone", fn := fun _ => fun
  | [d1, d2] => { results := [.lit (.bool false)], args := [d1, d2] }
  | _ => none }
def RedactGoneWrongFalsely : Prop := redactGoneRow.holds Tryz.pinned (OpenSpec.ofChange redactGoneWrong)

/-- 'fedchatlaw26.RedactApplies': WHATEVER THE INPUT: true; the input reads as it did. -/
def redactAppliesSpec : ChangeSpec := { name := "redactApplies", fn := fun _ => fun
  | [d] => { results := [.lit (.bool true)], args := [d] }
  | _ => none }
def redactAppliesRow : OpenClaim := { program := "ytldfpencimjjlaagreat", sum := "ef79c46ef4d04d8c20040e0e602fa4b4f34ec4084ddffd65b1b71f41b7191386", func := "fedchat/fedchatlaw26.RedactApplies", spec := "redactApplies", inPlace := ["slices.overlaps[fedchat/api.Event]", "internal/bytealg.IndexByteString", "internal/bytealg.IndexString"], unfollowed := true, recurses := true, named := ["internal/bytealg.MaxLen"], apart := false }
def RedactAppliesSaid : Prop := redactAppliesRow.holds Tryz.pinned (OpenSpec.ofChange redactAppliesSpec)

/-- ITS FALSE NEIGHBOUR: 'it returns false'. Refute it at one input. -/
def redactAppliesWrong : ChangeSpec := { name := "redactApplies", fn := fun _ => fun
  | [d] => { results := [.lit (.bool false)], args := [d] }
  | _ => none }
def RedactAppliesWrongFalsely : Prop := redactAppliesRow.holds Tryz.pinned (OpenSpec.ofChange redactAppliesWrong)

/-- 'fedchatlaw26.RedactGrows': WHATEVER THE INPUT: true; the input reads as it did. -/
def redactGrowsSpec : ChangeSpec := { name := "redactGrows", fn := fun _ => fun
  | [d1, d2] => { results := [.lit (.bool true)], args := [d1, d2] }
  | _ => none }
def redactGrowsRow : OpenClaim := { program := "ytldfpencimjjlaagreat", sum := "ef79c46ef4d04d8c20040e0e602fa4b4f34ec4084ddffd65b1b71f41b7191386", func := "fedchat/fedchatlaw26.RedactGrows", spec := "redactGrows", inPlace := ["internal/bytealg.IndexByteString", "internal/bytealg.IndexString", "slices.overlaps[fedchat/api.Event]"], unfollowed := true, recurses := true, named := ["internal/bytealg.MaxLen"], apart := false }
def RedactGrowsSaid : Prop := redactGrowsRow.holds Tryz.pinned (OpenSpec.ofChange redactGrowsSpec)

/-- ITS FALSE NEIGHBOUR: 'it returns false'. Refute it at one input. -/
def redactGrowsWrong : ChangeSpec := { name := "redactGrows", fn := fun _ => fun
  | [d1, d2] => { results := [.lit (.bool false)], args := [d1, d2] }
  | _ => none }
def RedactGrowsWrongFalsely : Prop := redactGrowsRow.holds Tryz.pinned (OpenSpec.ofChange redactGrowsWrong)

/-- 'fedchatlaw26.RedactAllowed': WHATEVER THE INPUT: true; the input reads as it did. -/
def redactAllowedSpec : ChangeSpec := { name := "redactAllowed", fn := fun _ => fun
  | [d] => { results := [.lit (.bool true)], args := [d] }
  | _ => none }
def redactAllowedRow : OpenClaim := { program := "ytldfpencimjjlaagreat", sum := "ef79c46ef4d04d8c20040e0e602fa4b4f34ec4084ddffd65b1b71f41b7191386", func := "fedchat/fedchatlaw26.RedactAllowed", spec := "redactAllowed", inPlace := ["slices.overlaps[fedchat/api.Event]", "internal/bytealg.IndexByteString", "internal/bytealg.IndexString"], unfollowed := true, recurses := true, named := ["internal/bytealg.MaxLen"], apart := false }
def RedactAllowedSaid : Prop := redactAllowedRow.holds Tryz.pinned (OpenSpec.ofChange redactAllowedSpec)

/-- ITS FALSE NEIGHBOUR: 'it returns false'. Refute it at one input. -/
def redactAllowedWrong : ChangeSpec := { name := "redactAllowed", fn := fun _ => fun
  | [d] => { results := [.lit (.bool false)], args := [d] }
  | _ => none }
def RedactAllowedWrongFalsely : Prop := redactAllowedRow.holds Tryz.pinned (OpenSpec.ofChange redactAllowedWrong)

/-- 'fedchatlaw26.RedactStable': WHATEVER THE INPUT: true; the input reads as it did. -/
def redactStableSpec : ChangeSpec := { name := "redactStable", fn := fun _ => fun
  | [d] => { results := [.lit (.bool true)], args := [d] }
  | _ => none }
def redactStableRow : OpenClaim := { program := "ytldfpencimjjlaagreat", sum := "ef79c46ef4d04d8c20040e0e602fa4b4f34ec4084ddffd65b1b71f41b7191386", func := "fedchat/fedchatlaw26.RedactStable", spec := "redactStable", inPlace := ["slices.overlaps[fedchat/api.Event]", "internal/bytealg.IndexByteString", "internal/bytealg.IndexString"], unfollowed := true, recurses := true, named := ["internal/bytealg.MaxLen"], apart := false }
def RedactStableSaid : Prop := redactStableRow.holds Tryz.pinned (OpenSpec.ofChange redactStableSpec)

/-- ITS FALSE NEIGHBOUR: 'it returns false'. Refute it at one input. -/
def redactStableWrong : ChangeSpec := { name := "redactStable", fn := fun _ => fun
  | [d] => { results := [.lit (.bool false)], args := [d] }
  | _ => none }
def RedactStableWrongFalsely : Prop := redactStableRow.holds Tryz.pinned (OpenSpec.ofChange redactStableWrong)

/- THE SECOND FORM. 'bulk': how many values and letters a reading holds, each counted each time it is reached (what is shared counts as often as it is met; a slice's spare places count too). A statement '..UptoSaid' is the law's where the arguments, and the package variables that the reading takes, are together of bulk at most 1048576: NARROWER than '..Said'. Prove '..Said' where nothing that the law and all that it calls make is longer than what came in: it says more and counts as full. Else prove '..UptoSaid'. A law counts once. -/
mutual
def uptoBulk {H : Type} : DataW H → Nat
  | .lit (.string bytes) => bytes.length + 1
  | .lit _ => 1
  | .nil => 1
  | .ptr d => uptoBulk d + 1
  | .slice elems spare => uptoBulkAll elems + uptoBulkAll spare + 1
  | .agg parts => uptoBulkAll parts + 1
  | .iface _ d => uptoBulk d + 1
  | .map entries => uptoBulkEntries entries + 1
  | .held _ => 1
def uptoBulkAll {H : Type} : List (DataW H) → Nat
  | [] => 0
  | d :: r => uptoBulk d + uptoBulkAll r
def uptoBulkEntries {H : Type} : List (Lit × DataW H) → Nat
  | [] => 0
  | x :: r => uptoBulkEntry x + uptoBulkEntries r
def uptoBulkEntry {H : Type} : Lit × DataW H → Nat
  | (.string bytes, d) => bytes.length + uptoBulk d + 1
  | (_, d) => uptoBulk d + 1
 end
def uptoSmall : (H : Type) → List (DataW H) → Bool := fun _ ds => decide (uptoBulkAll ds ≤ 1048576)
def OpenSpec.upto (s : _root_.Go.ChangeSpec) : _root_.Go.OpenSpec := { _root_.Go.OpenSpec.ofChange s with cond := some uptoSmall }

/-- 'fedchatlaw26.RedactMay', WHERE WHAT IT READS IS OF BULK AT MOST 1048576: true; the input reads as it did. -/
def redactMayUptoRow : OpenClaim := { program := "ytldfpencimjjlaagreat", sum := "ef79c46ef4d04d8c20040e0e602fa4b4f34ec4084ddffd65b1b71f41b7191386", func := "fedchat/fedchatlaw26.RedactMay", spec := "redactMay", inPlace := ["slices.overlaps[fedchat/api.Event]", "internal/bytealg.IndexByteString", "internal/bytealg.IndexString"], unfollowed := true, recurses := true, named := ["internal/bytealg.MaxLen"], apart := false, narrowed := true }
def RedactMayUptoSaid : Prop := redactMayUptoRow.holds Tryz.pinned (OpenSpec.upto redactMaySpec)

/-- 'fedchatlaw26.RedactGone', WHERE WHAT IT READS IS OF BULK AT MOST 1048576: true; the input reads as it did. -/
def redactGoneUptoRow : OpenClaim := { program := "ytldfpencimjjlaagreat", sum := "ef79c46ef4d04d8c20040e0e602fa4b4f34ec4084ddffd65b1b71f41b7191386", func := "fedchat/fedchatlaw26.RedactGone", spec := "redactGone", inPlace := ["slices.overlaps[fedchat/api.Event]", "internal/bytealg.IndexByteString", "internal/bytealg.IndexString"], unfollowed := true, recurses := true, named := ["internal/bytealg.MaxLen"], apart := false, narrowed := true }
def RedactGoneUptoSaid : Prop := redactGoneUptoRow.holds Tryz.pinned (OpenSpec.upto redactGoneSpec)

/-- 'fedchatlaw26.RedactApplies', WHERE WHAT IT READS IS OF BULK AT MOST 1048576: true; the input reads as it did. -/
def redactAppliesUptoRow : OpenClaim := { program := "ytldfpencimjjlaagreat", sum := "ef79c46ef4d04d8c20040e0e602fa4b4f34ec4084ddffd65b1b71f41b7191386", func := "fedchat/fedchatlaw26.RedactApplies", spec := "redactApplies", inPlace := ["slices.overlaps[fedchat/api.Event]", "internal/bytealg.IndexByteString", "internal/bytealg.IndexString"], unfollowed := true, recurses := true, named := ["internal/bytealg.MaxLen"], apart := false, narrowed := true }
def RedactAppliesUptoSaid : Prop := redactAppliesUptoRow.holds Tryz.pinned (OpenSpec.upto redactAppliesSpec)

/-- 'fedchatlaw26.RedactGrows', WHERE WHAT IT READS IS OF BULK AT MOST 1048576: true; the input reads as it did. -/
def redactGrowsUptoRow : OpenClaim := { program := "ytldfpencimjjlaagreat", sum := "ef79c46ef4d04d8c20040e0e602fa4b4f34ec4084ddffd65b1b71f41b7191386", func := "fedchat/fedchatlaw26.RedactGrows", spec := "redactGrows", inPlace := ["internal/bytealg.IndexByteString", "internal/bytealg.IndexString", "slices.overlaps[fedchat/api.Event]"], unfollowed := true, recurses := true, named := ["internal/bytealg.MaxLen"], apart := false, narrowed := true }
def RedactGrowsUptoSaid : Prop := redactGrowsUptoRow.holds Tryz.pinned (OpenSpec.upto redactGrowsSpec)

/-- 'fedchatlaw26.RedactAllowed', WHERE WHAT IT READS IS OF BULK AT MOST 1048576: true; the input reads as it did. -/
def redactAllowedUptoRow : OpenClaim := { program := "ytldfpencimjjlaagreat", sum := "ef79c46ef4d04d8c20040e0e602fa4b4f34ec4084ddffd65b1b71f41b7191386", func := "fedchat/fedchatlaw26.RedactAllowed", spec := "redactAllowed", inPlace := ["slices.overlaps[fedchat/api.Event]", "internal/bytealg.IndexByteString", "internal/bytealg.IndexString"], unfollowed := true, recurses := true, named := ["internal/bytealg.MaxLen"], apart := false, narrowed := true }
def RedactAllowedUptoSaid : Prop := redactAllowedUptoRow.holds Tryz.pinned (OpenSpec.upto redactAllowedSpec)

/-- 'fedchatlaw26.RedactStable', WHERE WHAT IT READS IS OF BULK AT MOST 1048576: true; the input reads as it did. -/
def redactStableUptoRow : OpenClaim := { program := "ytldfpencimjjlaagreat", sum := "ef79c46ef4d04d8c20040e0e602fa4b4f34ec4084ddffd65b1b71f41b7191386", func := "fedchat/fedchatlaw26.RedactStable", spec := "redactStable", inPlace := ["slices.overlaps[fedchat/api.Event]", "internal/bytealg.IndexByteString", "internal/bytealg.IndexString"], unfollowed := true, recurses := true, named := ["internal/bytealg.MaxLen"], apart := false, narrowed := true }
def RedactStableUptoSaid : Prop := redactStableUptoRow.holds Tryz.pinned (OpenSpec.upto redactStableSpec)

end Rows
end Go.Proofs.YtldfpencimjjlaaGreat
