/-
  No cell of these rows narrows 'for every input' (looked for: loops, veiled, ifaces, maps, wideKeys, modest, calm, conditions, laid).
  DERIVED. THE GIVEN ROWS OF THIS SEAT. 6 by the template 'for every input the law returns true; each argument reads behind the call as it read before'; 0 by the template 'total and deterministic' (their statements: YtfmoknlmaldmlaaGreatTotals.lean).
  GIVEN WITH THE SEED: the statements are not yours to turn. If you find one false, say at which input.
  Laid BY PROGRAM, IN A SANDBOX (cutbox-rows.mjs): the forced cells as the released guide's own fill.sh prints them over the translation ad4d65c30ea108cf… (all of the seat's roots in one cut). By AI agents, Wed Nov 11 2026. No macro, syntax, notation, axiom, sorry.
-/
import Derived.Test.YtfmoknlmaldmlaaGreatChecked
import GoSem.Claim
import GoSem.ClaimJoined
import GoSem.ClaimMapViews
import Derived.JoinedTies
import Derived.KernelRfl
namespace Go.Proofs.YtfmoknlmaldmlaaGreat
/- THE CELL 'sum', in the pinned program and in every row, IS THE sha256 OF THE DUMP (.gsa) THAT YtfmoknlmaldmlaaGreatProg.lean LOADS. Nothing in Lean hashes anything: it is a label: what it is worth is what the hold of that sum in a sandbox is worth. -/
noncomputable def Tryz.pinned : Pinned := { name := "ytfmoknlmaldmlaagreat", sum := "ad4d65c30ea108cf2cae481e7800f3807110ccaa771bcc9be3d81072e46c6201", checked := Tryz.checked }
namespace Rows
def none {H : Type} : Left H := { results := [], args := [] }

/-- 'fedchatlaw54.DigestConverges': WHATEVER THE INPUT: true; the input reads as it did. -/
def digestConvergesSpec : ChangeSpec := { name := "digestConverges", fn := fun _ => fun
  | [d1, d2] => { results := [.lit (.bool true)], args := [d1, d2] }
  | _ => none }
def digestConvergesRow : OpenClaim := { program := "ytfmoknlmaldmlaagreat", sum := "ad4d65c30ea108cf2cae481e7800f3807110ccaa771bcc9be3d81072e46c6201", func := "fedchat/fedchatlaw54.DigestConverges", spec := "digestConverges", inPlace := ["internal/bytealg.IndexByteString", "internal/bytealg.IndexString", "slices.overlaps[fedchat/api.Event]"], unfollowed := true, recurses := true, named := ["internal/bytealg.MaxLen"], apart := false }
def DigestConvergesSaid : Prop := digestConvergesRow.holds Tryz.pinned (OpenSpec.ofChange digestConvergesSpec)

/-- ITS FALSE NEIGHBOUR: 'it returns false'. Refute it at one input. -/
def digestConvergesWrong : ChangeSpec := { name := "digestConverges", fn := fun _ => fun
  | [d1, d2] => { results := [.lit (.bool false)], args := [d1, d2] }
  | _ => none }
def DigestConvergesWrongFalsely : Prop := digestConvergesRow.holds Tryz.pinned (OpenSpec.ofChange digestConvergesWrong)

/-- 'fedchatlaw33.EvilRefused': WHATEVER THE INPUT: true; the input reads as it did. -/
def evilRefusedSpec : ChangeSpec := { name := "evilRefused", fn := fun _ => fun
  | [d1, d2, d3] => { results := [.lit (.bool true)], args := [d1, d2, d3] }
  | _ => none }
def evilRefusedRow : OpenClaim := { program := "ytfmoknlmaldmlaagreat", sum := "ad4d65c30ea108cf2cae481e7800f3807110ccaa771bcc9be3d81072e46c6201", func := "fedchat/fedchatlaw33.EvilRefused", spec := "evilRefused", inPlace := ["internal/bytealg.IndexByteString", "internal/bytealg.IndexString", "slices.overlaps[fedchat/api.Event]"], unfollowed := true, recurses := true, named := ["internal/bytealg.MaxLen"], apart := false }
def EvilRefusedSaid : Prop := evilRefusedRow.holds Tryz.pinned (OpenSpec.ofChange evilRefusedSpec)

/-- ITS FALSE NEIGHBOUR: 'it returns false'. Refute it at one input. -/
def evilRefusedWrong : ChangeSpec := { name := "evilRefused", fn := fun _ => fun
  | [d1, d2, d3] => { results := [.lit (.bool false)], args := [d1, d2, d3] }
  | _ => none }
def EvilRefusedWrongFalsely : Prop := evilRefusedRow.holds Tryz.pinned (OpenSpec.ofChange evilRefusedWrong)

/-- 'fedchatlaw24.RoomReceives': WHATEVER THE INPUT: true; the input reads as it did. -/
def roomReceivesSpec : ChangeSpec := { name := "roomReceives", fn := fun _ => fun
  | [d1, d2] => { results := [.lit (.bool true)], args := [d1, d2] }
  | _ => none }
def roomReceivesRow : OpenClaim := { program := "ytfmoknlmaldmlaagreat", sum := "ad4d65c30ea108cf2cae481e7800f3807110ccaa771bcc9be3d81072e46c6201", func := "fedchat/fedchatlaw24.RoomReceives", spec := "roomReceives", inPlace := ["internal/bytealg.IndexByteString", "internal/bytealg.IndexString", "slices.overlaps[fedchat/api.Event]"], unfollowed := true, recurses := true, named := ["internal/bytealg.MaxLen"], apart := false }
def RoomReceivesSaid : Prop := roomReceivesRow.holds Tryz.pinned (OpenSpec.ofChange roomReceivesSpec)

/-- ITS FALSE NEIGHBOUR: 'it returns false'. Refute it at one input. -/
def roomReceivesWrong : ChangeSpec := { name := "roomReceives", fn := fun _ => fun
  | [d1, d2] => { results := [.lit (.bool false)], args := [d1, d2] }
  | _ => none }
def RoomReceivesWrongFalsely : Prop := roomReceivesRow.holds Tryz.pinned (OpenSpec.ofChange roomReceivesWrong)

/-- 'fedchatlaw24.RoomAgain': WHATEVER THE INPUT: true; the input reads as it did. -/
def roomAgainSpec : ChangeSpec := { name := "roomAgain", fn := fun _ => fun
  | [d1, d2] => { results := [.lit (.bool true)], args := [d1, d2] }
  | _ => none }
def roomAgainRow : OpenClaim := { program := "ytfmoknlmaldmlaagreat", sum := "ad4d65c30ea108cf2cae481e7800f3807110ccaa771bcc9be3d81072e46c6201", func := "fedchat/fedchatlaw24.RoomAgain", spec := "roomAgain", inPlace := ["internal/bytealg.IndexByteString", "internal/bytealg.IndexString", "slices.overlaps[fedchat/api.Event]"], unfollowed := true, recurses := true, named := ["internal/bytealg.MaxLen"], apart := false }
def RoomAgainSaid : Prop := roomAgainRow.holds Tryz.pinned (OpenSpec.ofChange roomAgainSpec)

/-- ITS FALSE NEIGHBOUR: 'it returns false'. Refute it at one input. -/
def roomAgainWrong : ChangeSpec := { name := "roomAgain", fn := fun _ => fun
  | [d1, d2] => { results := [.lit (.bool false)], args := [d1, d2] }
  | _ => none }
def RoomAgainWrongFalsely : Prop := roomAgainRow.holds Tryz.pinned (OpenSpec.ofChange roomAgainWrong)

/-- 'fedchatlaw24.RoomKeeps': WHATEVER THE INPUT: true; the input reads as it did. -/
def roomKeepsSpec : ChangeSpec := { name := "roomKeeps", fn := fun _ => fun
  | [d1, d2] => { results := [.lit (.bool true)], args := [d1, d2] }
  | _ => none }
def roomKeepsRow : OpenClaim := { program := "ytfmoknlmaldmlaagreat", sum := "ad4d65c30ea108cf2cae481e7800f3807110ccaa771bcc9be3d81072e46c6201", func := "fedchat/fedchatlaw24.RoomKeeps", spec := "roomKeeps", inPlace := ["internal/bytealg.IndexByteString", "internal/bytealg.IndexString", "slices.overlaps[fedchat/api.Event]"], unfollowed := true, recurses := true, named := ["internal/bytealg.MaxLen"], apart := false }
def RoomKeepsSaid : Prop := roomKeepsRow.holds Tryz.pinned (OpenSpec.ofChange roomKeepsSpec)

/-- ITS FALSE NEIGHBOUR: 'it returns false'. Refute it at one input. -/
def roomKeepsWrong : ChangeSpec := { name := "roomKeeps", fn := fun _ => fun
  | [d1, d2] => { results := [.lit (.bool false)], args := [d1, d2] }
  | _ => none }
def RoomKeepsWrongFalsely : Prop := roomKeepsRow.holds Tryz.pinned (OpenSpec.ofChange roomKeepsWrong)

/-- 'fedchatlaw24.RoomChecks': WHATEVER THE INPUT: true; the input reads as it did. -/
def roomChecksSpec : ChangeSpec := { name := "roomChecks", fn := fun _ => fun
  | [d1, d2, d3] => { results := [.lit (.bool true)], args := [d1, d2, d3] }
  | _ => none }
def roomChecksRow : OpenClaim := { program := "ytfmoknlmaldmlaagreat", sum := "ad4d65c30ea108cf2cae481e7800f3807110ccaa771bcc9be3d81072e46c6201", func := "fedchat/fedchatlaw24.RoomChecks", spec := "roomChecks", inPlace := ["internal/bytealg.IndexByteString", "internal/bytealg.IndexString", "slices.overlaps[fedchat/api.Event]"], unfollowed := true, recurses := true, named := ["internal/bytealg.MaxLen"], apart := false }
def RoomChecksSaid : Prop := roomChecksRow.holds Tryz.pinned (OpenSpec.ofChange roomChecksSpec)

/-- ITS FALSE NEIGHBOUR: 'it returns false'. Refute it at one input. -/
def roomChecksWrong : ChangeSpec := { name := "roomChecks", fn := fun _ => fun
  | [d1, d2, d3] => { results := [.lit (.bool false)], args := [d1, d2, d3] }
  | _ => none }
def RoomChecksWrongFalsely : Prop := roomChecksRow.holds Tryz.pinned (OpenSpec.ofChange roomChecksWrong)

/- THE SECOND FORM. 'bulk': how many values and letters a reading holds, each counted each time it is reached (what is shared counts as often as it is met; a slice's spare places count too). A statement '..UptoSaid' is the law's where the arguments, and the package variables that the reading takes, are together of bulk at most 1048576: NARROWER than '..Said'. Prove '..Said' where nothing that the law and all that it calls make is longer than what came in: it says more and counts as full. Else prove '..UptoSaid'. A law counts once. -/
mutual
def uptoBulk {H : Type} : DataW H → Nat
  | .lit (.string bytes) => bytes.length + 1
  | .lit _ => 1
  | .nil => 1
  | .ptr d => uptoBulk d + 1
  | .slice elems spare => uptoBulkAll elems + uptoBulkAll spare + 1
  | .agg parts => uptoBulkAll parts + 1
  | .iface _ d => uptoBulk d + 1
  | .map entries => uptoBulkEntries entries + 1
  | .held _ => 1
def uptoBulkAll {H : Type} : List (DataW H) → Nat
  | [] => 0
  | d :: r => uptoBulk d + uptoBulkAll r
def uptoBulkEntries {H : Type} : List (Lit × DataW H) → Nat
  | [] => 0
  | x :: r => uptoBulkEntry x + uptoBulkEntries r
def uptoBulkEntry {H : Type} : Lit × DataW H → Nat
  | (.string bytes, d) => bytes.length + uptoBulk d + 1
  | (_, d) => uptoBulk d + 1
 end
def uptoSmall : (H : Type) → List (DataW H) → Bool := fun _ ds => decide (uptoBulkAll ds ≤ 1048576)
def OpenSpec.upto (s : _root_.Go.ChangeSpec) : _root_.Go.OpenSpec := { _root_.Go.OpenSpec.ofChange s with cond := some uptoSmall }

/-- 'fedchatlaw54.DigestConverges', WHERE WHAT IT READS IS OF BULK AT MOST 1048576: true; the input reads as it did. -/
def digestConvergesUptoRow : OpenClaim := { program := "ytfmoknlmaldmlaagreat", sum := "ad4d65c30ea108cf2cae481e7800f3807110ccaa771bcc9be3d81072e46c6201", func := "fedchat/fedchatlaw54.DigestConverges", spec := "digestConverges", inPlace := ["internal/bytealg.IndexByteString", "internal/bytealg.IndexString", "slices.overlaps[fedchat/api.Event]"], unfollowed := true, recurses := true, named := ["internal/bytealg.MaxLen"], apart := false, narrowed := true }
def DigestConvergesUptoSaid : Prop := digestConvergesUptoRow.holds Tryz.pinned (OpenSpec.upto digestConvergesSpec)

/-- 'fedchatlaw33.EvilRefused', WHERE WHAT IT READS IS OF BULK AT MOST 1048576: true; the input reads as it did. -/
def evilRefusedUptoRow : OpenClaim := { program := "ytfmoknlmaldmlaagreat", sum := "ad4d65c30ea108cf2cae481e7800f3807110ccaa771bcc9be3d81072e46c6201", func := "fedchat/fedchatlaw33.EvilRefused", spec := "evilRefused", inPlace := ["internal/bytealg.IndexByteString", "internal/bytealg.IndexString", "slices.overlaps[fedchat/api.Event]"], unfollowed := true, recurses := true, named := ["internal/bytealg.MaxLen"], apart := false, narrowed := true }
def EvilRefusedUptoSaid : Prop := evilRefusedUptoRow.holds Tryz.pinned (OpenSpec.upto evilRefusedSpec)

/-- 'fedchatlaw24.RoomReceives', WHERE WHAT IT READS IS OF BULK AT MOST 1048576: true; the input reads as it did. -/
def roomReceivesUptoRow : OpenClaim := { program := "ytfmoknlmaldmlaagreat", sum := "ad4d65c30ea108cf2cae481e7800f3807110ccaa771bcc9be3d81072e46c6201", func := "fedchat/fedchatlaw24.RoomReceives", spec := "roomReceives", inPlace := ["internal/bytealg.IndexByteString", "internal/bytealg.IndexString", "slices.overlaps[fedchat/api.Event]"], unfollowed := true, recurses := true, named := ["internal/bytealg.MaxLen"], apart := false, narrowed := true }
def RoomReceivesUptoSaid : Prop := roomReceivesUptoRow.holds Tryz.pinned (OpenSpec.upto roomReceivesSpec)

/-- 'fedchatlaw24.RoomAgain', WHERE WHAT IT READS IS OF BULK AT MOST 1048576: true; the input reads as it did. -/
def roomAgainUptoRow : OpenClaim := { program := "ytfmoknlmaldmlaagreat", sum := "ad4d65c30ea108cf2cae481e7800f3807110ccaa771bcc9be3d81072e46c6201", func := "fedchat/fedchatlaw24.RoomAgain", spec := "roomAgain", inPlace := ["internal/bytealg.IndexByteString", "internal/bytealg.IndexString", "slices.overlaps[fedchat/api.Event]"], unfollowed := true, recurses := true, named := ["internal/bytealg.MaxLen"], apart := false, narrowed := true }
def RoomAgainUptoSaid : Prop := roomAgainUptoRow.holds Tryz.pinned (OpenSpec.upto roomAgainSpec)

/-- 'fedchatlaw24.RoomKeeps', WHERE WHAT IT READS IS OF BULK AT MOST 1048576: true; the input reads as it did. -/
def roomKeepsUptoRow : OpenClaim := { program := "ytfmoknlmaldmlaagreat", sum := "ad4d65c30ea108cf2cae481e7800f3807110ccaa771bcc9be3d81072e46c6201", func := "fedchat/fedchatlaw24.RoomKeeps", spec := "roomKeeps", inPlace := ["internal/bytealg.IndexByteString", "internal/bytealg.IndexString", "slices.overlaps[fedchat/api.Event]"], unfollowed := true, recurses := true, named := ["internal/bytealg.MaxLen"], apart := false, narrowed := true }
def RoomKeepsUptoSaid : Prop := roomKeepsUptoRow.holds Tryz.pinned (OpenSpec.upto roomKeepsSpec)

/-- 'fedchatlaw24.RoomChecks', WHERE WHAT IT READS IS OF BULK AT MOST 1048576: true; the input reads as it did. -/
def roomChecksUptoRow : OpenClaim := { program := "ytfmoknlmaldmlaagreat", sum := "ad4d65c30ea108cf2cae481e7800f3807110ccaa771bcc9be3d81072e46c6201", func := "fedchat/fedchatlaw24.RoomChecks", spec := "roomChecks", inPlace := ["internal/bytealg.IndexByteString", "internal/bytealg.IndexString", "slices.overlaps[fedchat/api.Event]"], unfollowed := true, recurses := true, named := ["internal/bytealg.MaxLen"], apart := false, narrowed := true }
def RoomChecksUptoSaid : Prop := roomChecksUptoRow.holds Tryz.pinned (OpenSpec.upto roomChecksSpec)

end Rows
end Go.Proofs.YtfmoknlmaldmlaaGreat
