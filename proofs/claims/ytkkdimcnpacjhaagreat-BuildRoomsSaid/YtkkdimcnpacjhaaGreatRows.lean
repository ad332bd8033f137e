/-
  No cell of these rows narrows 'for every input' (looked for: loops, veiled, ifaces, maps, wideKeys, modest, calm, conditions, laid).
  DERIVED. THE GIVEN ROWS OF THIS SEAT. 7 by the template 'for every input the law returns true; each argument reads behind the call as it read before'; 0 by the template 'total and deterministic' (their statements: YtkkdimcnpacjhaaGreatTotals.lean).
  GIVEN WITH THE SEED: the statements are not yours to turn. If you find one false, say at which input.
  Laid BY PROGRAM, IN A SANDBOX (cutbox-rows.mjs): the forced cells as the released guide's own fill.sh prints them over the translation 5914466a1d9984bc… (all of the seat's roots in one cut). By AI agents, Wed Nov 11 2026. No macro, syntax, notation, axiom, sorry.
-/
import Derived.Test.YtkkdimcnpacjhaaGreatChecked
import GoSem.Claim
import GoSem.ClaimJoined
import GoSem.ClaimMapViews
import Derived.JoinedTies
import Derived.KernelRfl
namespace Go.Proofs.YtkkdimcnpacjhaaGreat
/- THE CELL 'sum', in the pinned program and in every row, IS THE sha256 OF THE DUMP (.gsa) THAT YtkkdimcnpacjhaaGreatProg.lean LOADS. Nothing in Lean hashes anything: it is a label: what it is worth is what the hold of that sum in a sandbox is worth. -/
noncomputable def Tryz.pinned : Pinned := { name := "ytkkdimcnpacjhaagreat", sum := "5914466a1d9984bc2ddce466b1bd22a5b97d561de35950d96761faf52e7c51a6", checked := Tryz.checked }
namespace Rows
def none {H : Type} : Left H := { results := [], args := [] }

/-- 'fedchatlaw23.BuildNexts': WHATEVER THE INPUT: true; the input reads as it did. -/
def buildNextsSpec : ChangeSpec := { name := "buildNexts", fn := fun _ => fun
  | [d1, d2] => { results := [.lit (.bool true)], args := [d1, d2] }
  | _ => none }
def buildNextsRow : OpenClaim := { program := "ytkkdimcnpacjhaagreat", sum := "5914466a1d9984bc2ddce466b1bd22a5b97d561de35950d96761faf52e7c51a6", func := "fedchat/fedchatlaw23.BuildNexts", spec := "buildNexts", inPlace := ["internal/bytealg.IndexByteString", "internal/bytealg.IndexString"], unfollowed := true, recurses := true, named := ["internal/bytealg.MaxLen"], apart := false }
def BuildNextsSaid : Prop := buildNextsRow.holds Tryz.pinned (OpenSpec.ofChange buildNextsSpec)

/-- ITS FALSE NEIGHBOUR: 'it returns false'. Refute it at one input. -/
def buildNextsWrong : ChangeSpec := { name := "buildNexts", fn := fun _ => fun
  | [d1, d2] => { results := [.lit (.bool false)], args := [d1, d2] }
  | _ => none }
def BuildNextsWrongFalsely : Prop := buildNextsRow.holds Tryz.pinned (OpenSpec.ofChange buildNextsWrong)

/-- 'fedchatlaw23.BuildTemplates': WHATEVER THE INPUT: true; the input reads as it did. -/
def buildTemplatesSpec : ChangeSpec := { name := "buildTemplates", fn := fun _ => fun
  | [d1, d2] => { results := [.lit (.bool true)], args := [d1, d2] }
  | _ => none }
def buildTemplatesRow : OpenClaim := { program := "ytkkdimcnpacjhaagreat", sum := "5914466a1d9984bc2ddce466b1bd22a5b97d561de35950d96761faf52e7c51a6", func := "fedchat/fedchatlaw23.BuildTemplates", spec := "buildTemplates", inPlace := ["internal/bytealg.IndexByteString", "internal/bytealg.IndexString"], unfollowed := true, recurses := true, named := ["internal/bytealg.MaxLen"], apart := false }
def BuildTemplatesSaid : Prop := buildTemplatesRow.holds Tryz.pinned (OpenSpec.ofChange buildTemplatesSpec)

/-- ITS FALSE NEIGHBOUR: 'it returns false'. Refute it at one input. -/
def buildTemplatesWrong : ChangeSpec := { name := "buildTemplates", fn := fun _ => fun
  | [d1, d2] => { results := [.lit (.bool false)], args := [d1, d2] }
  | _ => none }
def BuildTemplatesWrongFalsely : Prop := buildTemplatesRow.holds Tryz.pinned (OpenSpec.ofChange buildTemplatesWrong)

/-- 'fedchatlaw26.RedactAllowed': WHATEVER THE INPUT: true; the input reads as it did. -/
def redactAllowedSpec : ChangeSpec := { name := "redactAllowed", fn := fun _ => fun
  | [d] => { results := [.lit (.bool true)], args := [d] }
  | _ => none }
def redactAllowedRow : OpenClaim := { program := "ytkkdimcnpacjhaagreat", sum := "5914466a1d9984bc2ddce466b1bd22a5b97d561de35950d96761faf52e7c51a6", func := "fedchat/fedchatlaw26.RedactAllowed", spec := "redactAllowed", inPlace := ["slices.overlaps[fedchat/api.Event]", "internal/bytealg.IndexByteString", "internal/bytealg.IndexString"], unfollowed := true, recurses := true, named := ["internal/bytealg.MaxLen"], apart := false }
def RedactAllowedSaid : Prop := redactAllowedRow.holds Tryz.pinned (OpenSpec.ofChange redactAllowedSpec)

/-- ITS FALSE NEIGHBOUR: 'it returns false'. Refute it at one input. -/
def redactAllowedWrong : ChangeSpec := { name := "redactAllowed", fn := fun _ => fun
  | [d] => { results := [.lit (.bool false)], args := [d] }
  | _ => none }
def RedactAllowedWrongFalsely : Prop := redactAllowedRow.holds Tryz.pinned (OpenSpec.ofChange redactAllowedWrong)

/-- 'fedchatlaw23.BuildAccepted': WHATEVER THE INPUT: true; the input reads as it did. -/
def buildAcceptedSpec : ChangeSpec := { name := "buildAccepted", fn := fun _ => fun
  | [d1, d2] => { results := [.lit (.bool true)], args := [d1, d2] }
  | _ => none }
def buildAcceptedRow : OpenClaim := { program := "ytkkdimcnpacjhaagreat", sum := "5914466a1d9984bc2ddce466b1bd22a5b97d561de35950d96761faf52e7c51a6", func := "fedchat/fedchatlaw23.BuildAccepted", spec := "buildAccepted", inPlace := ["internal/bytealg.IndexByteString", "internal/bytealg.IndexString", "slices.overlaps[fedchat/api.Event]"], unfollowed := true, recurses := true, named := ["internal/bytealg.MaxLen"], apart := false }
def BuildAcceptedSaid : Prop := buildAcceptedRow.holds Tryz.pinned (OpenSpec.ofChange buildAcceptedSpec)

/-- ITS FALSE NEIGHBOUR: 'it returns false'. Refute it at one input. -/
def buildAcceptedWrong : ChangeSpec := { name := "buildAccepted", fn := fun _ => fun
  | [d1, d2] => { results := [.lit (.bool false)], args := [d1, d2] }
  | _ => none }
def BuildAcceptedWrongFalsely : Prop := buildAcceptedRow.holds Tryz.pinned (OpenSpec.ofChange buildAcceptedWrong)

/-- 'fedchatlaw23.BuildJoins': WHATEVER THE INPUT: true; the input reads as it did. -/
def buildJoinsSpec : ChangeSpec := { name := "buildJoins", fn := fun _ => fun
  | [d1, d2] => { results := [.lit (.bool true)], args := [d1, d2] }
  | _ => none }
def buildJoinsRow : OpenClaim := { program := "ytkkdimcnpacjhaagreat", sum := "5914466a1d9984bc2ddce466b1bd22a5b97d561de35950d96761faf52e7c51a6", func := "fedchat/fedchatlaw23.BuildJoins", spec := "buildJoins", inPlace := ["internal/bytealg.IndexByteString", "internal/bytealg.IndexString", "slices.overlaps[fedchat/api.Event]"], unfollowed := true, recurses := true, named := ["internal/bytealg.MaxLen"], apart := false }
def BuildJoinsSaid : Prop := buildJoinsRow.holds Tryz.pinned (OpenSpec.ofChange buildJoinsSpec)

/-- ITS FALSE NEIGHBOUR: 'it returns false'. Refute it at one input. -/
def buildJoinsWrong : ChangeSpec := { name := "buildJoins", fn := fun _ => fun
  | [d1, d2] => { results := [.lit (.bool false)], args := [d1, d2] }
  | _ => none }
def BuildJoinsWrongFalsely : Prop := buildJoinsRow.holds Tryz.pinned (OpenSpec.ofChange buildJoinsWrong)

/-- 'fedchatlaw23.BuildRooms': WHATEVER THE INPUT: true; the input reads as it did. -/
def buildRoomsSpec : ChangeSpec := { name := "buildRooms", fn := fun _ => fun
  | [d] => { results := [.lit (.bool true)], args := [d] }
  | _ => none }
def buildRoomsRow : OpenClaim := { program := "ytkkdimcnpacjhaagreat", sum := "5914466a1d9984bc2ddce466b1bd22a5b97d561de35950d96761faf52e7c51a6", func := "fedchat/fedchatlaw23.BuildRooms", spec := "buildRooms", inPlace := ["internal/bytealg.IndexByteString", "internal/bytealg.IndexString", "slices.overlaps[fedchat/api.Event]"], unfollowed := true, recurses := true, named := ["internal/bytealg.MaxLen"], apart := false }
def BuildRoomsSaid : Prop := buildRoomsRow.holds Tryz.pinned (OpenSpec.ofChange buildRoomsSpec)

/-- ITS FALSE NEIGHBOUR: 'it returns false'. Refute it at one input. -/
def buildRoomsWrong : ChangeSpec := { name := "buildRooms", fn := fun _ => fun
  | [d] => { results := [.lit (.bool false)], args := [d] }
  | _ => none }
def BuildRoomsWrongFalsely : Prop := buildRoomsRow.holds Tryz.pinned (OpenSpec.ofChange buildRoomsWrong)

/-- 'fedchatlaw23.BuildFounded': WHATEVER THE INPUT: true; the input reads as it did. -/
def buildFoundedSpec : ChangeSpec := { name := "buildFounded", fn := fun _ => fun
  | [d] => { results := [.lit (.bool true)], args := [d] }
  | _ => none }
def buildFoundedRow : OpenClaim := { program := "ytkkdimcnpacjhaagreat", sum := "5914466a1d9984bc2ddce466b1bd22a5b97d561de35950d96761faf52e7c51a6", func := "fedchat/fedchatlaw23.BuildFounded", spec := "buildFounded", inPlace := ["internal/bytealg.IndexByteString", "internal/bytealg.IndexString", "slices.overlaps[fedchat/api.Event]"], unfollowed := true, recurses := true, named := ["internal/bytealg.MaxLen"], apart := false }
def BuildFoundedSaid : Prop := buildFoundedRow.holds Tryz.pinned (OpenSpec.ofChange buildFoundedSpec)

/-- ITS FALSE NEIGHBOUR: 'it returns false'. Refute it at one input. -/
def buildFoundedWrong : ChangeSpec := { name := "buildFounded", fn := fun _ => fun
  | [d] => { results := [.lit (.bool false)], args := [d] }
  | _ => none }
def BuildFoundedWrongFalsely : Prop := buildFoundedRow.holds Tryz.pinned (OpenSpec.ofChange buildFoundedWrong)

/- THE SECOND FORM. 'bulk': how many values and letters a reading holds, each counted each time it is reached (what is shared counts as often as it is met; a slice's spare places count too). A statement '..UptoSaid' is the law's where the arguments, and the package variables that the reading takes, are together of bulk at most 1048576: NARROWER than '..Said'. Prove '..Said' where nothing that the law and all that it calls make is longer than what came in: it says more and counts as full. Else prove '..UptoSaid'. A law counts once. -/
mutual
def uptoBulk {H : Type} : DataW H → Nat
  | .lit (.string bytes) => bytes.length + 1
  | .lit _ => 1
  | .nil => 1
  | .ptr d => uptoBulk d + 1
  | .slice elems spare => uptoBulkAll elems + uptoBulkAll spare + 1
  | .agg parts => uptoBulkAll parts + 1
  | .iface _ d => uptoBulk d + 1
  | .map entries => uptoBulkEntries entries + 1
  | .held _ => 1
def uptoBulkAll {H : Type} : List (DataW H) → Nat
  | [] => 0
  | d :: r => uptoBulk d + uptoBulkAll r
def uptoBulkEntries {H : Type} : List (Lit × DataW H) → Nat
  | [] => 0
  | x :: r => uptoBulkEntry x + uptoBulkEntries r
def uptoBulkEntry {H : Type} : Lit × DataW H → Nat
  | (.string bytes, d) => bytes.length + uptoBulk d + 1
  | (_, d) => uptoBulk d + 1
 end
def uptoSmall : (H : Type) → List (DataW H) → Bool := fun _ ds => decide (uptoBulkAll ds ≤ 1048576)
def OpenSpec.upto (s : _root_.Go.ChangeSpec) : _root_.Go.OpenSpec := { _root_.Go.OpenSpec.ofChange s with cond := some uptoSmall }

/-- 'fedchatlaw23.BuildNexts', WHERE WHAT IT READS IS OF BULK AT MOST 1048576: true; the input reads as it did. -/
def buildNextsUptoRow : OpenClaim := { program := "ytkkdimcnpacjhaagreat", sum := "5914466a1d9984bc2ddce466b1bd22a5b97d561de35950d96761faf52e7c51a6", func := "fedchat/fedchatlaw23.BuildNexts", spec := "buildNexts", inPlace := ["internal/bytealg.IndexByteString", "internal/bytealg.IndexString"], unfollowed := true, recurses := true, named := ["internal/bytealg.MaxLen"], apart := false, narrowed := true }
def BuildNextsUptoSaid : Prop := buildNextsUptoRow.holds Tryz.pinned (OpenSpec.upto buildNextsSpec)

/-- 'fedchatlaw23.BuildTemplates', WHERE WHAT IT READS IS OF BULK AT MOST 1048576: true; the input reads as it did. -/
def buildTemplatesUptoRow : OpenClaim := { program := "ytkkdimcnpacjhaagreat", sum := "5914466a1d9984bc2ddce466b1bd22a5b97d561de35950d96761faf52e7c51a6", func := "fedchat/fedchatlaw23.BuildTemplates", spec := "buildTemplates", inPlace := ["internal/bytealg.IndexByteString", "internal/bytealg.IndexString"], unfollowed := true, recurses := true, named := ["internal/bytealg.MaxLen"], apart := false, narrowed := true }
def BuildTemplatesUptoSaid : Prop := buildTemplatesUptoRow.holds Tryz.pinned (OpenSpec.upto buildTemplatesSpec)

/-- 'fedchatlaw26.RedactAllowed', WHERE WHAT IT READS IS OF BULK AT MOST 1048576: true; the input reads as it did. -/
def redactAllowedUptoRow : OpenClaim := { program := "ytkkdimcnpacjhaagreat", sum := "5914466a1d9984bc2ddce466b1bd22a5b97d561de35950d96761faf52e7c51a6", func := "fedchat/fedchatlaw26.RedactAllowed", spec := "redactAllowed", inPlace := ["slices.overlaps[fedchat/api.Event]", "internal/bytealg.IndexByteString", "internal/bytealg.IndexString"], unfollowed := true, recurses := true, named := ["internal/bytealg.MaxLen"], apart := false, narrowed := true }
def RedactAllowedUptoSaid : Prop := redactAllowedUptoRow.holds Tryz.pinned (OpenSpec.upto redactAllowedSpec)

/-- 'fedchatlaw23.BuildAccepted', WHERE WHAT IT READS IS OF BULK AT MOST 1048576: true; the input reads as it did. -/
def buildAcceptedUptoRow : OpenClaim := { program := "ytkkdimcnpacjhaagreat", sum := "5914466a1d9984bc2ddce466b1bd22a5b97d561de35950d96761faf52e7c51a6", func := "fedchat/fedchatlaw23.BuildAccepted", spec := "buildAccepted", inPlace := ["internal/bytealg.IndexByteString", "internal/bytealg.IndexString", "slices.overlaps[fedchat/api.Event]"], unfollowed := true, recurses := true, named := ["internal/bytealg.MaxLen"], apart := false, narrowed := true }
def BuildAcceptedUptoSaid : Prop := buildAcceptedUptoRow.holds Tryz.pinned (OpenSpec.upto buildAcceptedSpec)

/-- 'fedchatlaw23.BuildJoins', WHERE WHAT IT READS IS OF BULK AT MOST 1048576: true; the input reads as it did. -/
def buildJoinsUptoRow : OpenClaim := { program := "ytkkdimcnpacjhaagreat", sum := "5914466a1d9984bc2ddce466b1bd22a5b97d561de35950d96761faf52e7c51a6", func := "fedchat/fedchatlaw23.BuildJoins", spec := "buildJoins", inPlace := ["internal/bytealg.IndexByteString", "internal/bytealg.IndexString", "slices.overlaps[fedchat/api.Event]"], unfollowed := true, recurses := true, named := ["internal/bytealg.MaxLen"], apart := false, narrowed := true }
def BuildJoinsUptoSaid : Prop := buildJoinsUptoRow.holds Tryz.pinned (OpenSpec.upto buildJoinsSpec)

/-- 'fedchatlaw23.BuildRooms', WHERE WHAT IT READS IS OF BULK AT MOST 1048576: true; the input reads as it did. -/
def buildRoomsUptoRow : OpenClaim := { program := "ytkkdimcnpacjhaagreat", sum := "5914466a1d9984bc2ddce466b1bd22a5b97d561de35950d96761faf52e7c51a6", func := "fedchat/fedchatlaw23.BuildRooms", spec := "buildRooms", inPlace := ["internal/bytealg.IndexByteString", "internal/bytealg.IndexString", "slices.overlaps[fedchat/api.Event]"], unfollowed := true, recurses := true, named := ["internal/bytealg.MaxLen"], apart := false, narrowed := true }
def BuildRoomsUptoSaid : Prop := buildRoomsUptoRow.holds Tryz.pinned (OpenSpec.upto buildRoomsSpec)

/-- 'fedchatlaw23.BuildFounded', WHERE WHAT IT READS IS OF BULK AT MOST 1048576: true; the input reads as it did. -/
def buildFoundedUptoRow : OpenClaim := { program := "ytkkdimcnpacjhaagreat", sum := "5914466a1d9984bc2ddce466b1bd22a5b97d561de35950d96761faf52e7c51a6", func := "fedchat/fedchatlaw23.BuildFounded", spec := "buildFounded", inPlace := ["internal/bytealg.IndexByteString", "internal/bytealg.IndexString", "slices.overlaps[fedchat/api.Event]"], unfollowed := true, recurses := true, named := ["internal/bytealg.MaxLen"], apart := false, narrowed := true }
def BuildFoundedUptoSaid : Prop := buildFoundedUptoRow.holds Tryz.pinned (OpenSpec.upto buildFoundedSpec)

end Rows
end Go.Proofs.YtkkdimcnpacjhaaGreat
