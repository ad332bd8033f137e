/-
  No cell of these rows narrows 'for every input' (looked for: loops, veiled, ifaces, maps, wideKeys, modest, calm, conditions, laid).
  DERIVED. THE GIVEN ROWS OF THIS SEAT. 5 by the template 'for every input the law returns true; each argument reads behind the call as it read before'; 0 by the template 'total and deterministic' (their statements: YteiakhlfaaifnaaGreatTotals.lean).
  GIVEN WITH THE SEED: the statements are not yours to turn. If you find one false, say at which input.
  Laid BY PROGRAM, IN A SANDBOX (cutbox-rows.mjs): the forced cells as the released guide's own fill.sh prints them over the translation eff442b3a3201c3e… (all of the seat's roots in one cut). By AI agents, Wed Nov 11 2026. No macro, syntax, notation, axiom, sorry.
-/
import Derived.Test.YteiakhlfaaifnaaGreatChecked
import GoSem.Claim
import GoSem.ClaimJoined
import GoSem.ClaimMapViews
import Derived.JoinedTies
import Derived.KernelRfl
namespace Go.Proofs.YteiakhlfaaifnaaGreat
/- THE CELL 'sum', in the pinned program and in every row, IS THE sha256 OF THE DUMP (.gsa) THAT YteiakhlfaaifnaaGreatProg.lean LOADS. Nothing in Lean hashes anything: it is a label: what it is worth is what the hold of that sum in a sandbox is worth. -/
noncomputable def Tryz.pinned : Pinned := { name := "yteiakhlfaaifnaagreat", sum := "eff442b3a3201c3ea422c383657559713512ee831a4ed1c44fdf88abb8035065", checked := Tryz.checked }
namespace Rows
def none {H : Type} : Left H := { results := [], args := [] }

/-- 'fedchatlaw40.TimelinePages': WHATEVER THE INPUT: true; the input reads as it did. -/
def timelinePagesSpec : ChangeSpec := { name := "timelinePages", fn := fun _ => fun
  | [d1, d2] => { results := [.lit (.bool true)], args := [d1, d2] }
  | _ => none }
def timelinePagesRow : OpenClaim := { program := "yteiakhlfaaifnaagreat", sum := "eff442b3a3201c3ea422c383657559713512ee831a4ed1c44fdf88abb8035065", func := "fedchat/fedchatlaw40.TimelinePages", spec := "timelinePages", inPlace := ["internal/bytealg.IndexByteString", "internal/bytealg.IndexString", "slices.overlaps[fedchat/api.Event]"], unfollowed := true, recurses := true, named := ["internal/bytealg.MaxLen"], apart := false }
def TimelinePagesSaid : Prop := timelinePagesRow.holds Tryz.pinned (OpenSpec.ofChange timelinePagesSpec)

/-- ITS FALSE NEIGHBOUR: 'it returns false'. Refute it at one input. -/
def timelinePagesWrong : ChangeSpec := { name := "timelinePages", fn := fun _ => fun
  | [d1, d2] => { results := [.lit (.bool false)], args := [d1, d2] }
  | _ => none }
def TimelinePagesWrongFalsely : Prop := timelinePagesRow.holds Tryz.pinned (OpenSpec.ofChange timelinePagesWrong)

/-- 'fedchatlaw40.TimelineArounds': WHATEVER THE INPUT: true; the input reads as it did. -/
def timelineAroundsSpec : ChangeSpec := { name := "timelineArounds", fn := fun _ => fun
  | [d1, d2] => { results := [.lit (.bool true)], args := [d1, d2] }
  | _ => none }
def timelineAroundsRow : OpenClaim := { program := "yteiakhlfaaifnaagreat", sum := "eff442b3a3201c3ea422c383657559713512ee831a4ed1c44fdf88abb8035065", func := "fedchat/fedchatlaw40.TimelineArounds", spec := "timelineArounds", inPlace := ["internal/bytealg.IndexByteString", "internal/bytealg.IndexString", "slices.overlaps[fedchat/api.Event]"], unfollowed := true, recurses := true, named := ["internal/bytealg.MaxLen"], apart := false }
def TimelineAroundsSaid : Prop := timelineAroundsRow.holds Tryz.pinned (OpenSpec.ofChange timelineAroundsSpec)

/-- ITS FALSE NEIGHBOUR: 'it returns false'. Refute it at one input. -/
def timelineAroundsWrong : ChangeSpec := { name := "timelineArounds", fn := fun _ => fun
  | [d1, d2] => { results := [.lit (.bool false)], args := [d1, d2] }
  | _ => none }
def TimelineAroundsWrongFalsely : Prop := timelineAroundsRow.holds Tryz.pinned (OpenSpec.ofChange timelineAroundsWrong)

/-- 'fedchatlaw40.TimelineShows': WHATEVER THE INPUT: true; the input reads as it did. -/
def timelineShowsSpec : ChangeSpec := { name := "timelineShows", fn := fun _ => fun
  | [d1, d2] => { results := [.lit (.bool true)], args := [d1, d2] }
  | _ => none }
def timelineShowsRow : OpenClaim := { program := "yteiakhlfaaifnaagreat", sum := "eff442b3a3201c3ea422c383657559713512ee831a4ed1c44fdf88abb8035065", func := "fedchat/fedchatlaw40.TimelineShows", spec := "timelineShows", inPlace := ["internal/bytealg.IndexByteString", "internal/bytealg.IndexString", "slices.overlaps[fedchat/api.Event]"], unfollowed := true, recurses := true, named := ["internal/bytealg.MaxLen"], apart := false }
def TimelineShowsSaid : Prop := timelineShowsRow.holds Tryz.pinned (OpenSpec.ofChange timelineShowsSpec)

/-- ITS FALSE NEIGHBOUR: 'it returns false'. Refute it at one input. -/
def timelineShowsWrong : ChangeSpec := { name := "timelineShows", fn := fun _ => fun
  | [d1, d2] => { results := [.lit (.bool false)], args := [d1, d2] }
  | _ => none }
def TimelineShowsWrongFalsely : Prop := timelineShowsRow.holds Tryz.pinned (OpenSpec.ofChange timelineShowsWrong)

/-- 'fedchatlaw40.TimelineFits': WHATEVER THE INPUT: true; the input reads as it did. -/
def timelineFitsSpec : ChangeSpec := { name := "timelineFits", fn := fun _ => fun
  | [d1, d2] => { results := [.lit (.bool true)], args := [d1, d2] }
  | _ => none }
def timelineFitsRow : OpenClaim := { program := "yteiakhlfaaifnaagreat", sum := "eff442b3a3201c3ea422c383657559713512ee831a4ed1c44fdf88abb8035065", func := "fedchat/fedchatlaw40.TimelineFits", spec := "timelineFits", inPlace := ["internal/bytealg.IndexByteString", "internal/bytealg.IndexString", "slices.overlaps[fedchat/api.Event]"], unfollowed := true, recurses := true, named := ["internal/bytealg.MaxLen"], apart := false }
def TimelineFitsSaid : Prop := timelineFitsRow.holds Tryz.pinned (OpenSpec.ofChange timelineFitsSpec)

/-- ITS FALSE NEIGHBOUR: 'it returns false'. Refute it at one input. -/
def timelineFitsWrong : ChangeSpec := { name := "timelineFits", fn := fun _ => fun
  | [d1, d2] => { results := [.lit (.bool false)], args := [d1, d2] }
  | _ => none }
def TimelineFitsWrongFalsely : Prop := timelineFitsRow.holds Tryz.pinned (OpenSpec.ofChange timelineFitsWrong)

/-- 'fedchatlaw40.TimelineSecrets': WHATEVER THE INPUT: true; the input reads as it did. -/
def timelineSecretsSpec : ChangeSpec := { name := "timelineSecrets", fn := fun _ => fun
  | [d1, d2] => { results := [.lit (.bool true)], args := [d1, d2] }
  | _ => none }
def timelineSecretsRow : OpenClaim := { program := "yteiakhlfaaifnaagreat", sum := "eff442b3a3201c3ea422c383657559713512ee831a4ed1c44fdf88abb8035065", func := "fedchat/fedchatlaw40.TimelineSecrets", spec := "timelineSecrets", inPlace := ["internal/bytealg.IndexByteString", "internal/bytealg.IndexString", "slices.overlaps[fedchat/api.Event]"], unfollowed := true, recurses := true, named := ["internal/bytealg.MaxLen"], apart := false }
def TimelineSecretsSaid : Prop := timelineSecretsRow.holds Tryz.pinned (OpenSpec.ofChange timelineSecretsSpec)

/-- ITS FALSE NEIGHBOUR: 'it returns false'. Refute it at one input. -/
def timelineSecretsWrong : ChangeSpec := { name := "timelineSecrets", fn := fun _ => fun
  | [d1, d2] => { results := [.lit (.bool false)], args := [d1, d2] }
  | _ => none }
def TimelineSecretsWrongFalsely : Prop := timelineSecretsRow.holds Tryz.pinned (OpenSpec.ofChange timelineSecretsWrong)

/- THE SECOND FORM. 'bulk': how many values and letters a reading holds, each counted each time it is reached (what is shared counts as often as it is met; a slice's spare places count too). A statement '..UptoSaid' is the law's where the arguments, and the package variables that the reading takes, are together of bulk at most 1048576: NARROWER than '..Said'. Prove '..Said' where nothing that the law and all that it calls make is longer than what came in: it says more and counts as full. Else prove '..UptoSaid'. A law counts once. -/
mutual
def uptoBulk {H : Type} : DataW H → Nat
  | .lit (.string bytes) => bytes.length + 1
  | .lit _ => 1
  | .nil => 1
  | .ptr d => uptoBulk d + 1
  | .slice elems spare => uptoBulkAll elems + uptoBulkAll spare + 1
  | .agg parts => uptoBulkAll parts + 1
  | .iface _ d => uptoBulk d + 1
  | .map entries => uptoBulkEntries entries + 1
  | .held _ => 1
def uptoBulkAll {H : Type} : List (DataW H) → Nat
  | [] => 0
  | d :: r => uptoBulk d + uptoBulkAll r
def uptoBulkEntries {H : Type} : List (Lit × DataW H) → Nat
  | [] => 0
  | x :: r => uptoBulkEntry x + uptoBulkEntries r
def uptoBulkEntry {H : Type} : Lit × DataW H → Nat
  | (.string bytes, d) => bytes.length + uptoBulk d + 1
  | (_, d) => uptoBulk d + 1
 end
def uptoSmall : (H : Type) → List (DataW H) → Bool := fun _ ds => decide (uptoBulkAll ds ≤ 1048576)
def OpenSpec.upto (s : _root_.Go.ChangeSpec) : _root_.Go.OpenSpec := { _root_.Go.OpenSpec.ofChange s with cond := some uptoSmall }

/-- 'fedchatlaw40.TimelinePages', WHERE WHAT IT READS IS OF BULK AT MOST 1048576: true; the input reads as it did. -/
def timelinePagesUptoRow : OpenClaim := { program := "yteiakhlfaaifnaagreat", sum := "eff442b3a3201c3ea422c383657559713512ee831a4ed1c44fdf88abb8035065", func := "fedchat/fedchatlaw40.TimelinePages", spec := "timelinePages", inPlace := ["internal/bytealg.IndexByteString", "internal/bytealg.IndexString", "slices.overlaps[fedchat/api.Event]"], unfollowed := true, recurses := true, named := ["internal/bytealg.MaxLen"], apart := false, narrowed := true }
def TimelinePagesUptoSaid : Prop := timelinePagesUptoRow.holds Tryz.pinned (OpenSpec.upto timelinePagesSpec)

/-- 'fedchatlaw40.TimelineArounds', WHERE WHAT IT READS IS OF BULK AT MOST 1048576: true; the input reads as it did. -/
def timelineAroundsUptoRow : OpenClaim := { program := "yteiakhlfaaifnaagreat", sum := "eff442b3a3201c3ea422c383657559713512ee831a4ed1c44fdf88abb8035065", func := "fedchat/fedchatlaw40.TimelineArounds", spec := "timelineArounds", inPlace := ["internal/bytealg.IndexByteString", "internal/bytealg.IndexString", "slices.overlaps[fedchat/api.Event]"], unfollowed := true, recurses := true, named := ["internal/bytealg.MaxLen"], apart := false, narrowed := true }
def TimelineAroundsUptoSaid : Prop := timelineAroundsUptoRow.holds Tryz.pinned (OpenSpec.upto timelineAroundsSpec)

/-- 'fedchatlaw40.TimelineShows', WHERE WHAT IT READS IS OF BULK AT MOST 1048576: true; the input reads as it did. -/
def timelineShowsUptoRow : OpenClaim := { program := "yteiakhlfaaifnaagreat", sum := "eff442b3a3201c3ea422c383657559713512ee831a4ed1c44fdf88abb8035065", func := "fedchat/fedchatlaw40.TimelineShows", spec := "timelineShows", inPlace := ["internal/bytealg.IndexByteString", "internal/bytealg.IndexString", "slices.overlaps[fedchat/api.Event]"], unfollowed := true, recurses := true, named := ["internal/bytealg.MaxLen"], apart := false, narrowed := true }
def TimelineShowsUptoSaid : Prop := timelineShowsUptoRow.holds Tryz.pinned (OpenSpec.upto timelineShowsSpec)

/-- 'fedchatlaw40.TimelineFits', WHERE WHAT IT READS IS OF BULK AT MOST 1048576: true; the input reads as it did. -/
def timelineFitsUptoRow : OpenClaim := { program := "yteiakhlfaaifnaagreat", sum := "eff442b3a3201c3ea422c383657559713512ee831a4ed1c44fdf88abb8035065", func := "fedchat/fedchatlaw40.TimelineFits", spec := "timelineFits", inPlace := ["internal/bytealg.IndexByteString", "internal/bytealg.IndexString", "slices.overlaps[fedchat/api.Event]"], unfollowed := true, recurses := true, named := ["internal/bytealg.MaxLen"], apart := false, narrowed := true }
def TimelineFitsUptoSaid : Prop := timelineFitsUptoRow.holds Tryz.pinned (OpenSpec.upto timelineFitsSpec)

/-- 'fedchatlaw40.TimelineSecrets', WHERE WHAT IT READS IS OF BULK AT MOST 1048576: true; the input reads as it did. -/
def timelineSecretsUptoRow : OpenClaim := { program := "yteiakhlfaaifnaagreat", sum := "eff442b3a3201c3ea422c383657559713512ee831a4ed1c44fdf88abb8035065", func := "fedchat/fedchatlaw40.TimelineSecrets", spec := "timelineSecrets", inPlace := ["internal/bytealg.IndexByteString", "internal/bytealg.IndexString", "slices.overlaps[fedchat/api.Event]"], unfollowed := true, recurses := true, named := ["internal/bytealg.MaxLen"], apart := false, narrowed := true }
def TimelineSecretsUptoSaid : Prop := timelineSecretsUptoRow.holds Tryz.pinned (OpenSpec.upto timelineSecretsSpec)

end Rows
end Go.Proofs.YteiakhlfaaifnaaGreat
