/-
  No cell of these rows narrows 'for every input' (looked for: loops, veiled, ifaces, maps, wideKeys, modest, calm, conditions, laid).
  DERIVED. THE GIVEN ROWS OF THIS SEAT. 7 by the template 'for every input the law returns true; each argument reads behind the call as it read before'; 0 by the template 'total and deterministic' (their statements: YtelpgcaiadpjpaaGreatTotals.lean).
  GIVEN WITH THE SEED: the statements are not yours to turn. If you find one false, say at which input.
  Laid BY PROGRAM, IN A SANDBOX (cutbox-rows.mjs): the forced cells as the released guide's own fill.sh prints them over the translation 5fa5e0e3942518e6… (all of the seat's roots in one cut). By AI agents, Wed Nov 11 2026. No macro, syntax, notation, axiom, sorry.
-/
import Derived.Test.YtelpgcaiadpjpaaGreatChecked
import GoSem.Claim
import GoSem.ClaimJoined
import GoSem.ClaimMapViews
import Derived.JoinedTies
import Derived.KernelRfl
namespace Go.Proofs.YtelpgcaiadpjpaaGreat
/- THE CELL 'sum', in the pinned program and in every row, IS THE sha256 OF THE DUMP (.gsa) THAT YtelpgcaiadpjpaaGreatProg.lean LOADS. Nothing in Lean hashes anything: it is a label: what it is worth is what the hold of that sum in a sandbox is worth. -/
noncomputable def Tryz.pinned : Pinned := { name := "ytelpgcaiadpjpaagreat", sum := "5fa5e0e3942518e6d3b7544fb7fca277500f640146ead8f471054334a9eaf0b2", checked := Tryz.checked }
namespace Rows
def none {H : Type} : Left H := { results := [], args := [] }

/-- 'fedchatlaw21.ResolveStates': WHATEVER THE INPUT: true; the input reads as it did. -/
def resolveStatesSpec : ChangeSpec := { name := "resolveStates", fn := fun _ => fun
  | [d1, d2] => { results := [.lit (.bool true)], args := [d1, d2] }
  | _ => none }
def resolveStatesRow : OpenClaim := { program := "ytelpgcaiadpjpaagreat", sum := "5fa5e0e3942518e6d3b7544fb7fca277500f640146ead8f471054334a9eaf0b2", func := "fedchat/fedchatlaw21.ResolveStates", spec := "resolveStates", inPlace := ["internal/bytealg.IndexByteString", "internal/bytealg.IndexString"], unfollowed := true, recurses := true, named := ["internal/bytealg.MaxLen"], apart := false }
def ResolveStatesSaid : Prop := resolveStatesRow.holds Tryz.pinned (OpenSpec.ofChange resolveStatesSpec)

/-- ITS FALSE NEIGHBOUR: 'it returns false'. Refute it at one input. -/
def resolveStatesWrong : ChangeSpec := { name := "resolveStates", fn := fun _ => fun
  | [d1, d2] => { results := [.lit (.bool false)], args := [d1, d2] }
  | _ => none }
def ResolveStatesWrongFalsely : Prop := resolveStatesRow.holds Tryz.pinned (OpenSpec.ofChange resolveStatesWrong)

/-- 'fedchatlaw21.ResolveSides': WHATEVER THE INPUT: true; the input reads as it did. -/
def resolveSidesSpec : ChangeSpec := { name := "resolveSides", fn := fun _ => fun
  | [d1, d2] => { results := [.lit (.bool true)], args := [d1, d2] }
  | _ => none }
def resolveSidesRow : OpenClaim := { program := "ytelpgcaiadpjpaagreat", sum := "5fa5e0e3942518e6d3b7544fb7fca277500f640146ead8f471054334a9eaf0b2", func := "fedchat/fedchatlaw21.ResolveSides", spec := "resolveSides", inPlace := ["internal/bytealg.IndexByteString", "internal/bytealg.IndexString"], unfollowed := true, recurses := true, named := ["internal/bytealg.MaxLen"], apart := false }
def ResolveSidesSaid : Prop := resolveSidesRow.holds Tryz.pinned (OpenSpec.ofChange resolveSidesSpec)

/-- ITS FALSE NEIGHBOUR: 'it returns false'. Refute it at one input. -/
def resolveSidesWrong : ChangeSpec := { name := "resolveSides", fn := fun _ => fun
  | [d1, d2] => { results := [.lit (.bool false)], args := [d1, d2] }
  | _ => none }
def ResolveSidesWrongFalsely : Prop := resolveSidesRow.holds Tryz.pinned (OpenSpec.ofChange resolveSidesWrong)

/-- 'fedchatlaw21.ResolveTwos': WHATEVER THE INPUT: true; the input reads as it did. -/
def resolveTwosSpec : ChangeSpec := { name := "resolveTwos", fn := fun _ => fun
  | [d1, d2, d3] => { results := [.lit (.bool true)], args := [d1, d2, d3] }
  | _ => none }
def resolveTwosRow : OpenClaim := { program := "ytelpgcaiadpjpaagreat", sum := "5fa5e0e3942518e6d3b7544fb7fca277500f640146ead8f471054334a9eaf0b2", func := "fedchat/fedchatlaw21.ResolveTwos", spec := "resolveTwos", inPlace := ["internal/bytealg.IndexByteString", "internal/bytealg.IndexString"], unfollowed := true, recurses := true, named := ["internal/bytealg.MaxLen"], apart := false }
def ResolveTwosSaid : Prop := resolveTwosRow.holds Tryz.pinned (OpenSpec.ofChange resolveTwosSpec)

/-- ITS FALSE NEIGHBOUR: 'it returns false'. Refute it at one input. -/
def resolveTwosWrong : ChangeSpec := { name := "resolveTwos", fn := fun _ => fun
  | [d1, d2, d3] => { results := [.lit (.bool false)], args := [d1, d2, d3] }
  | _ => none }
def ResolveTwosWrongFalsely : Prop := resolveTwosRow.holds Tryz.pinned (OpenSpec.ofChange resolveTwosWrong)

/-- 'fedchatlaw21.ResolveOrders': WHATEVER THE INPUT: true; the input reads as it did. -/
def resolveOrdersSpec : ChangeSpec := { name := "resolveOrders", fn := fun _ => fun
  | [d1, d2] => { results := [.lit (.bool true)], args := [d1, d2] }
  | _ => none }
def resolveOrdersRow : OpenClaim := { program := "ytelpgcaiadpjpaagreat", sum := "5fa5e0e3942518e6d3b7544fb7fca277500f640146ead8f471054334a9eaf0b2", func := "fedchat/fedchatlaw21.ResolveOrders", spec := "resolveOrders", inPlace := ["internal/bytealg.IndexByteString", "internal/bytealg.IndexString"], unfollowed := true, recurses := true, named := ["internal/bytealg.MaxLen"], apart := false }
def ResolveOrdersSaid : Prop := resolveOrdersRow.holds Tryz.pinned (OpenSpec.ofChange resolveOrdersSpec)

/-- ITS FALSE NEIGHBOUR: 'it returns false'. Refute it at one input. -/
def resolveOrdersWrong : ChangeSpec := { name := "resolveOrders", fn := fun _ => fun
  | [d1, d2] => { results := [.lit (.bool false)], args := [d1, d2] }
  | _ => none }
def ResolveOrdersWrongFalsely : Prop := resolveOrdersRow.holds Tryz.pinned (OpenSpec.ofChange resolveOrdersWrong)

/-- 'fedchatlaw21.ResolveKeeps': WHATEVER THE INPUT: true; the input reads as it did. -/
def resolveKeepsSpec : ChangeSpec := { name := "resolveKeeps", fn := fun _ => fun
  | [d1, d2] => { results := [.lit (.bool true)], args := [d1, d2] }
  | _ => none }
def resolveKeepsRow : OpenClaim := { program := "ytelpgcaiadpjpaagreat", sum := "5fa5e0e3942518e6d3b7544fb7fca277500f640146ead8f471054334a9eaf0b2", func := "fedchat/fedchatlaw21.ResolveKeeps", spec := "resolveKeeps", inPlace := ["internal/bytealg.IndexByteString", "internal/bytealg.IndexString"], unfollowed := true, recurses := true, named := ["internal/bytealg.MaxLen"], apart := false }
def ResolveKeepsSaid : Prop := resolveKeepsRow.holds Tryz.pinned (OpenSpec.ofChange resolveKeepsSpec)

/-- ITS FALSE NEIGHBOUR: 'it returns false'. Refute it at one input. -/
def resolveKeepsWrong : ChangeSpec := { name := "resolveKeeps", fn := fun _ => fun
  | [d1, d2] => { results := [.lit (.bool false)], args := [d1, d2] }
  | _ => none }
def ResolveKeepsWrongFalsely : Prop := resolveKeepsRow.holds Tryz.pinned (OpenSpec.ofChange resolveKeepsWrong)

/-- 'fedchatlaw21.ResolveBans': WHATEVER THE INPUT: true; the input reads as it did. -/
def resolveBansSpec : ChangeSpec := { name := "resolveBans", fn := fun _ => fun
  | [d] => { results := [.lit (.bool true)], args := [d] }
  | _ => none }
def resolveBansRow : OpenClaim := { program := "ytelpgcaiadpjpaagreat", sum := "5fa5e0e3942518e6d3b7544fb7fca277500f640146ead8f471054334a9eaf0b2", func := "fedchat/fedchatlaw21.ResolveBans", spec := "resolveBans", inPlace := ["internal/bytealg.IndexByteString", "internal/bytealg.IndexString"], unfollowed := true, recurses := true, named := ["internal/bytealg.MaxLen"], apart := false }
def ResolveBansSaid : Prop := resolveBansRow.holds Tryz.pinned (OpenSpec.ofChange resolveBansSpec)

/-- ITS FALSE NEIGHBOUR: 'it returns false'. Refute it at one input. -/
def resolveBansWrong : ChangeSpec := { name := "resolveBans", fn := fun _ => fun
  | [d] => { results := [.lit (.bool false)], args := [d] }
  | _ => none }
def ResolveBansWrongFalsely : Prop := resolveBansRow.holds Tryz.pinned (OpenSpec.ofChange resolveBansWrong)

/-- 'fedchatlaw21.ResolveDemotes': WHATEVER THE INPUT: true; the input reads as it did. -/
def resolveDemotesSpec : ChangeSpec := { name := "resolveDemotes", fn := fun _ => fun
  | [d] => { results := [.lit (.bool true)], args := [d] }
  | _ => none }
def resolveDemotesRow : OpenClaim := { program := "ytelpgcaiadpjpaagreat", sum := "5fa5e0e3942518e6d3b7544fb7fca277500f640146ead8f471054334a9eaf0b2", func := "fedchat/fedchatlaw21.ResolveDemotes", spec := "resolveDemotes", inPlace := ["internal/bytealg.IndexByteString", "internal/bytealg.IndexString"], unfollowed := true, recurses := true, named := ["internal/bytealg.MaxLen"], apart := false }
def ResolveDemotesSaid : Prop := resolveDemotesRow.holds Tryz.pinned (OpenSpec.ofChange resolveDemotesSpec)

/-- ITS FALSE NEIGHBOUR: 'it returns false'. Refute it at one input. -/
def resolveDemotesWrong : ChangeSpec := { name := "resolveDemotes", fn := fun _ => fun
  | [d] => { results := [.lit (.bool false)], args := [d] }
  | _ => none }
def ResolveDemotesWrongFalsely : Prop := resolveDemotesRow.holds Tryz.pinned (OpenSpec.ofChange resolveDemotesWrong)

/- THE SECOND FORM. 'bulk': how many values and letters a reading holds, each counted each time it is reached (what is shared counts as often as it is met; a slice's spare places count too). A statement '..UptoSaid' is the law's where the arguments, and the package variables that the reading takes, are together of bulk at most 1048576: NARROWER than '..Said'. Prove '..Said' where nothing that the law and all that it calls make is longer than what came in: it says more and counts as full. Else prove '..UptoSaid'. A law counts once. -/
mutual
def uptoBulk {H : Type} : DataW H → Nat
  | .lit (.string bytes) => bytes.length + 1
  | .lit _ => 1
  | .nil => 1
  | .ptr d => uptoBulk d + 1
  | .slice elems spare => uptoBulkAll elems + uptoBulkAll spare + 1
  | .agg parts => uptoBulkAll parts + 1
  | .iface _ d => uptoBulk d + 1
  | .map entries => uptoBulkEntries entries + 1
  | .held _ => 1
def uptoBulkAll {H : Type} : List (DataW H) → Nat
  | [] => 0
  | d :: r => uptoBulk d + uptoBulkAll r
def uptoBulkEntries {H : Type} : List (Lit × DataW H) → Nat
  | [] => 0
  | x :: r => uptoBulkEntry x + uptoBulkEntries r
def uptoBulkEntry {H : Type} : Lit × DataW H → Nat
  | (.string bytes, d) => bytes.length + uptoBulk d + 1
  | (_, d) => uptoBulk d + 1
 end
def uptoSmall : (H : Type) → List (DataW H) → Bool := fun _ ds => decide (uptoBulkAll ds ≤ 1048576)
def OpenSpec.upto (s : _root_.Go.ChangeSpec) : _root_.Go.OpenSpec := { _root_.Go.OpenSpec.ofChange s with cond := some uptoSmall }

/-- 'fedchatlaw21.ResolveStates', WHERE WHAT IT READS IS OF BULK AT MOST 1048576: true; the input reads as it did. -/
def resolveStatesUptoRow : OpenClaim := { program := "ytelpgcaiadpjpaagreat", sum := "5fa5e0e3942518e6d3b7544fb7fca277500f640146ead8f471054334a9eaf0b2", func := "fedchat/fedchatlaw21.ResolveStates", spec := "resolveStates", inPlace := ["internal/bytealg.IndexByteString", "internal/bytealg.IndexString"], unfollowed := true, recurses := true, named := ["internal/bytealg.MaxLen"], apart := false, narrowed := true }
def ResolveStatesUptoSaid : Prop := resolveStatesUptoRow.holds Tryz.pinned (OpenSpec.upto resolveStatesSpec)

/-- 'fedchatlaw21.ResolveSides', WHERE WHAT IT READS IS OF BULK AT MOST 1048576: true; the input reads as it did. -/
def resolveSidesUptoRow : OpenClaim := { program := "ytelpgcaiadpjpaagreat", sum := "5fa5e0e3942518e6d3b7544fb7fca277500f640146ead8f471054334a9eaf0b2", func := "fedchat/fedchatlaw21.ResolveSides", spec := "resolveSides", inPlace := ["internal/bytealg.IndexByteString", "internal/bytealg.IndexString"], unfollowed := true, recurses := true, named := ["internal/bytealg.MaxLen"], apart := false, narrowed := true }
def ResolveSidesUptoSaid : Prop := resolveSidesUptoRow.holds Tryz.pinned (OpenSpec.upto resolveSidesSpec)

/-- 'fedchatlaw21.ResolveTwos', WHERE WHAT IT READS IS OF BULK AT MOST 1048576: true; the input reads as it did. -/
def resolveTwosUptoRow : OpenClaim := { program := "ytelpgcaiadpjpaagreat", sum := "5fa5e0e3942518e6d3b7544fb7fca277500f640146ead8f471054334a9eaf0b2", func := "fedchat/fedchatlaw21.ResolveTwos", spec := "resolveTwos", inPlace := ["internal/bytealg.IndexByteString", "internal/bytealg.IndexString"], unfollowed := true, recurses := true, named := ["internal/bytealg.MaxLen"], apart := false, narrowed := true }
def ResolveTwosUptoSaid : Prop := resolveTwosUptoRow.holds Tryz.pinned (OpenSpec.upto resolveTwosSpec)

/-- 'fedchatlaw21.ResolveOrders', WHERE WHAT IT READS IS OF BULK AT MOST 1048576: true; the input reads as it did. -/
def resolveOrdersUptoRow : OpenClaim := { program := "ytelpgcaiadpjpaagreat", sum := "5fa5e0e3942518e6d3b7544fb7fca277500f640146ead8f471054334a9eaf0b2", func := "fedchat/fedchatlaw21.ResolveOrders", spec := "resolveOrders", inPlace := ["internal/bytealg.IndexByteString", "internal/bytealg.IndexString"], unfollowed := true, recurses := true, named := ["internal/bytealg.MaxLen"], apart := false, narrowed := true }
def ResolveOrdersUptoSaid : Prop := resolveOrdersUptoRow.holds Tryz.pinned (OpenSpec.upto resolveOrdersSpec)

/-- 'fedchatlaw21.ResolveKeeps', WHERE WHAT IT READS IS OF BULK AT MOST 1048576: true; the input reads as it did. -/
def resolveKeepsUptoRow : OpenClaim := { program := "ytelpgcaiadpjpaagreat", sum := "5fa5e0e3942518e6d3b7544fb7fca277500f640146ead8f471054334a9eaf0b2", func := "fedchat/fedchatlaw21.ResolveKeeps", spec := "resolveKeeps", inPlace := ["internal/bytealg.IndexByteString", "internal/bytealg.IndexString"], unfollowed := true, recurses := true, named := ["internal/bytealg.MaxLen"], apart := false, narrowed := true }
def ResolveKeepsUptoSaid : Prop := resolveKeepsUptoRow.holds Tryz.pinned (OpenSpec.upto resolveKeepsSpec)

/-- 'fedchatlaw21.ResolveBans', WHERE WHAT IT READS IS OF BULK AT MOST 1048576: true; the input reads as it did. -/
def resolveBansUptoRow : OpenClaim := { program := "ytelpgcaiadpjpaagreat", sum := "5fa5e0e3942518e6d3b7544fb7fca277500f640146ead8f471054334a9eaf0b2", func := "fedchat/fedchatlaw21.ResolveBans", spec := "resolveBans", inPlace := ["internal/bytealg.IndexByteString", "internal/bytealg.IndexString"], unfollowed := true, recurses := true, named := ["internal/bytealg.MaxLen"], apart := false, narrowed := true }
def ResolveBansUptoSaid : Prop := resolveBansUptoRow.holds Tryz.pinned (OpenSpec.upto resolveBansSpec)

/-- 'fedchatlaw21.ResolveDemotes', WHERE WHAT IT READS IS OF BULK AT MOST 1048576: true; the input reads as it did. -/
def resolveDemotesUptoRow : OpenClaim := { program := "ytelpgcaiadpjpaagreat", sum := "5fa5e0e3942518e6d3b7544fb7fca277500f640146ead8f471054334a9eaf0b2", func := "fedchat/fedchatlaw21.ResolveDemotes", spec := "resolveDemotes", inPlace := ["internal/bytealg.IndexByteString", "internal/bytealg.IndexString"], unfollowed := true, recurses := true, named := ["internal/bytealg.MaxLen"], apart := false, narrowed := true }
def ResolveDemotesUptoSaid : Prop := resolveDemotesUptoRow.holds Tryz.pinned (OpenSpec.upto resolveDemotesSpec)

end Rows
end Go.Proofs.YtelpgcaiadpjpaaGreat
