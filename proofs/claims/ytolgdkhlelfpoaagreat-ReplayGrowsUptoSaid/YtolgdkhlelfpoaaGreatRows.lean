/-
  No cell of these rows narrows 'for every input' (looked for: loops, veiled, ifaces, maps, wideKeys, modest, calm, conditions, laid).
  DERIVED. THE GIVEN ROWS OF THIS SEAT. 11 by the template 'for every input the law returns true; each argument reads behind the call as it read before'; 0 by the template 'total and deterministic' (their statements: YtolgdkhlelfpoaaGreatTotals.lean).
  GIVEN WITH THE SEED: the statements are not yours to turn. If you find one false, say at which input.
  Laid BY PROGRAM, IN A SANDBOX (cutbox-rows.mjs): the forced cells as the released guide's own fill.sh prints them over the translation 9744951983185c98… (all of the seat's roots in one cut). By AI agents, Wed Nov 11 2026. No macro, syntax, notation, axiom, sorry.
-/
import Derived.Test.YtolgdkhlelfpoaaGreatChecked
import GoSem.Claim
import GoSem.ClaimJoined
import GoSem.ClaimMapViews
import Derived.JoinedTies
import Derived.KernelRfl
namespace Go.Proofs.YtolgdkhlelfpoaaGreat
/- THE CELL 'sum', in the pinned program and in every row, IS THE sha256 OF THE DUMP (.gsa) THAT YtolgdkhlelfpoaaGreatProg.lean LOADS. Nothing in Lean hashes anything: it is a label: what it is worth is what the hold of that sum in a sandbox is worth. -/
noncomputable def Tryz.pinned : Pinned := { name := "ytolgdkhlelfpoaagreat", sum := "9744951983185c986a98e576acb8241760e9b70f8fb7a088a998fb3cc3ea6304", checked := Tryz.checked }
namespace Rows
def none {H : Type} : Left H := { results := [], args := [] }

/-- 'fedchatlaw27.RetainAges': WHATEVER THE INPUT: true; the input reads as it did. -/
def retainAgesSpec : ChangeSpec := { name := "retainAges", fn := fun _ => fun
  | [d1, d2] => { results := [.lit (.bool true)], args := [d1, d2] }
  | _ => none }
def retainAgesRow : OpenClaim := { program := "ytolgdkhlelfpoaagreat", sum := "9744951983185c986a98e576acb8241760e9b70f8fb7a088a998fb3cc3ea6304", func := "fedchat/fedchatlaw27.RetainAges", spec := "retainAges", inPlace := ["internal/bytealg.IndexByteString", "internal/bytealg.IndexString"], unfollowed := true, recurses := true, named := ["internal/bytealg.MaxLen"], apart := false }
def RetainAgesSaid : Prop := retainAgesRow.holds Tryz.pinned (OpenSpec.ofChange retainAgesSpec)

/-- ITS FALSE NEIGHBOUR: 'it returns false'. Refute it at one input. -/
def retainAgesWrong : ChangeSpec := { name := "retainAges", fn := fun _ => fun
  | [d1, d2] => { results := [.lit (.bool false)], args := [d1, d2] }
  | _ => none }
def RetainAgesWrongFalsely : Prop := retainAgesRow.holds Tryz.pinned (OpenSpec.ofChange retainAgesWrong)

/-- 'fedchatlaw27.RetainErases': WHATEVER THE INPUT: true; the input reads as it did. -/
def retainErasesSpec : ChangeSpec := { name := "retainErases", fn := fun _ => fun
  | [d1, d2] => { results := [.lit (.bool true)], args := [d1, d2] }
  | _ => none }
def retainErasesRow : OpenClaim := { program := "ytolgdkhlelfpoaagreat", sum := "9744951983185c986a98e576acb8241760e9b70f8fb7a088a998fb3cc3ea6304", func := "fedchat/fedchatlaw27.RetainErases", spec := "retainErases", inPlace := ["internal/bytealg.IndexByteString", "internal/bytealg.IndexString"], unfollowed := true, recurses := true, named := ["internal/bytealg.MaxLen"], apart := false }
def RetainErasesSaid : Prop := retainErasesRow.holds Tryz.pinned (OpenSpec.ofChange retainErasesSpec)

/-- ITS FALSE NEIGHBOUR: 'it returns false'. Refute it at one input. -/
def retainErasesWrong : ChangeSpec := { name := "retainErases", fn := fun _ => fun
  | [d1, d2] => { results := [.lit (.bool false)], args := [d1, d2] }
  | _ => none }
def RetainErasesWrongFalsely : Prop := retainErasesRow.holds Tryz.pinned (OpenSpec.ofChange retainErasesWrong)

/-- 'fedchatlaw27.RetainLater': WHATEVER THE INPUT: true; the input reads as it did. -/
def retainLaterSpec : ChangeSpec := { name := "retainLater", fn := fun _ => fun
  | [d1, d2, d3] => { results := [.lit (.bool true)], args := [d1, d2, d3] }
  | _ => none }
def retainLaterRow : OpenClaim := { program := "ytolgdkhlelfpoaagreat", sum := "9744951983185c986a98e576acb8241760e9b70f8fb7a088a998fb3cc3ea6304", func := "fedchat/fedchatlaw27.RetainLater", spec := "retainLater", inPlace := ["internal/bytealg.IndexByteString", "internal/bytealg.IndexString"], unfollowed := true, recurses := true, named := ["internal/bytealg.MaxLen"], apart := false }
def RetainLaterSaid : Prop := retainLaterRow.holds Tryz.pinned (OpenSpec.ofChange retainLaterSpec)

/-- ITS FALSE NEIGHBOUR: 'it returns false'. Refute it at one input. -/
def retainLaterWrong : ChangeSpec := { name := "retainLater", fn := fun _ => fun
  | [d1, d2, d3] => { results := [.lit (.bool false)], args := [d1, d2, d3] }
  | _ => none }
def RetainLaterWrongFalsely : Prop := retainLaterRow.holds Tryz.pinned (OpenSpec.ofChange retainLaterWrong)

/-- 'fedchatlaw27.RetainExpires': WHATEVER THE INPUT: true; the input reads as it did. -/
def retainExpiresSpec : ChangeSpec := { name := "retainExpires", fn := fun _ => fun
  | [d1, d2] => { results := [.lit (.bool true)], args := [d1, d2] }
  | _ => none }
def retainExpiresRow : OpenClaim := { program := "ytolgdkhlelfpoaagreat", sum := "9744951983185c986a98e576acb8241760e9b70f8fb7a088a998fb3cc3ea6304", func := "fedchat/fedchatlaw27.RetainExpires", spec := "retainExpires", inPlace := ["internal/bytealg.IndexByteString", "internal/bytealg.IndexString"], unfollowed := true, recurses := true, named := ["internal/bytealg.MaxLen"], apart := false }
def RetainExpiresSaid : Prop := retainExpiresRow.holds Tryz.pinned (OpenSpec.ofChange retainExpiresSpec)

/-- ITS FALSE NEIGHBOUR: 'it returns false'. Refute it at one input. -/
def retainExpiresWrong : ChangeSpec := { name := "retainExpires", fn := fun _ => fun
  | [d1, d2] => { results := [.lit (.bool false)], args := [d1, d2] }
  | _ => none }
def RetainExpiresWrongFalsely : Prop := retainExpiresRow.holds Tryz.pinned (OpenSpec.ofChange retainExpiresWrong)

/-- 'fedchatlaw27.RetainAgain': WHATEVER THE INPUT: true; the input reads as it did. -/
def retainAgainSpec : ChangeSpec := { name := "retainAgain", fn := fun _ => fun
  | [d1, d2, d3] => { results := [.lit (.bool true)], args := [d1, d2, d3] }
  | _ => none }
def retainAgainRow : OpenClaim := { program := "ytolgdkhlelfpoaagreat", sum := "9744951983185c986a98e576acb8241760e9b70f8fb7a088a998fb3cc3ea6304", func := "fedchat/fedchatlaw27.RetainAgain", spec := "retainAgain", inPlace := ["internal/bytealg.IndexByteString", "internal/bytealg.IndexString"], unfollowed := true, recurses := true, named := ["internal/bytealg.MaxLen"], apart := false }
def RetainAgainSaid : Prop := retainAgainRow.holds Tryz.pinned (OpenSpec.ofChange retainAgainSpec)

/-- ITS FALSE NEIGHBOUR: 'it returns false'. Refute it at one input. -/
def retainAgainWrong : ChangeSpec := { name := "retainAgain", fn := fun _ => fun
  | [d1, d2, d3] => { results := [.lit (.bool false)], args := [d1, d2, d3] }
  | _ => none }
def RetainAgainWrongFalsely : Prop := retainAgainRow.holds Tryz.pinned (OpenSpec.ofChange retainAgainWrong)

/-- 'fedchatlaw27.RetainStays': WHATEVER THE INPUT: true; the input reads as it did. -/
def retainStaysSpec : ChangeSpec := { name := "retainStays", fn := fun _ => fun
  | [d1, d2, d3] => { results := [.lit (.bool true)], args := [d1, d2, d3] }
  | _ => none }
def retainStaysRow : OpenClaim := { program := "ytolgdkhlelfpoaagreat", sum := "9744951983185c986a98e576acb8241760e9b70f8fb7a088a998fb3cc3ea6304", func := "fedchat/fedchatlaw27.RetainStays", spec := "retainStays", inPlace := ["internal/bytealg.IndexByteString", "internal/bytealg.IndexString"], unfollowed := true, recurses := true, named := ["internal/bytealg.MaxLen"], apart := false }
def RetainStaysSaid : Prop := retainStaysRow.holds Tryz.pinned (OpenSpec.ofChange retainStaysSpec)

/-- ITS FALSE NEIGHBOUR: 'it returns false'. Refute it at one input. -/
def retainStaysWrong : ChangeSpec := { name := "retainStays", fn := fun _ => fun
  | [d1, d2, d3] => { results := [.lit (.bool false)], args := [d1, d2, d3] }
  | _ => none }
def RetainStaysWrongFalsely : Prop := retainStaysRow.holds Tryz.pinned (OpenSpec.ofChange retainStaysWrong)

/-- 'fedchatlaw22.ReplayStates': WHATEVER THE INPUT: true; the input reads as it did. -/
def replayStatesSpec : ChangeSpec := { name := "replayStates", fn := fun _ => fun
  | [d1, d2] => { results := [.lit (.bool true)], args := [d1, d2] }
  | _ => none }
def replayStatesRow : OpenClaim := { program := "ytolgdkhlelfpoaagreat", sum := "9744951983185c986a98e576acb8241760e9b70f8fb7a088a998fb3cc3ea6304", func := "fedchat/fedchatlaw22.ReplayStates", spec := "replayStates", inPlace := ["slices.overlaps[fedchat/api.Event]", "internal/bytealg.IndexByteString", "internal/bytealg.IndexString"], unfollowed := true, recurses := true, named := ["internal/bytealg.MaxLen"], apart := false }
def ReplayStatesSaid : Prop := replayStatesRow.holds Tryz.pinned (OpenSpec.ofChange replayStatesSpec)

/-- ITS FALSE NEIGHBOUR: 'it returns false'. Refute it at one input. -/
def replayStatesWrong : ChangeSpec := { name := "replayStates", fn := fun _ => fun
  | [d1, d2] => { results := [.lit (.bool false)], args := [d1, d2] }
  | _ => none }
def ReplayStatesWrongFalsely : Prop := replayStatesRow.holds Tryz.pinned (OpenSpec.ofChange replayStatesWrong)

/-- 'fedchatlaw22.ReplaySets': WHATEVER THE INPUT: true; the input reads as it did. -/
def replaySetsSpec : ChangeSpec := { name := "replaySets", fn := fun _ => fun
  | [d] => { results := [.lit (.bool true)], args := [d] }
  | _ => none }
def replaySetsRow : OpenClaim := { program := "ytolgdkhlelfpoaagreat", sum := "9744951983185c986a98e576acb8241760e9b70f8fb7a088a998fb3cc3ea6304", func := "fedchat/fedchatlaw22.ReplaySets", spec := "replaySets", inPlace := ["slices.overlaps[fedchat/api.Event]", "internal/bytealg.IndexByteString", "internal/bytealg.IndexString"], unfollowed := true, recurses := true, named := ["internal/bytealg.MaxLen"], apart := false }
def ReplaySetsSaid : Prop := replaySetsRow.holds Tryz.pinned (OpenSpec.ofChange replaySetsSpec)

/-- ITS FALSE NEIGHBOUR: 'it returns false'. Refute it at one input. -/
def replaySetsWrong : ChangeSpec := { name := "replaySets", fn := fun _ => fun
  | [d] => { results := [.lit (.bool false)], args := [d] }
  | _ => none }
def ReplaySetsWrongFalsely : Prop := replaySetsRow.holds Tryz.pinned (OpenSpec.ofChange replaySetsWrong)

/-- 'fedchatlaw22.ReplayAuthorized': WHATEVER THE INPUT: true; the input reads as it did. -/
def replayAuthorizedSpec : ChangeSpec := { name := "replayAuthorized", fn := fun _ => fun
  | [d] => { results := [.lit (.bool true)], args := [d] }
  | _ => none }
def replayAuthorizedRow : OpenClaim := { program := "ytolgdkhlelfpoaagreat", sum := "9744951983185c986a98e576acb8241760e9b70f8fb7a088a998fb3cc3ea6304", func := "fedchat/fedchatlaw22.ReplayAuthorized", spec := "replayAuthorized", inPlace := ["slices.overlaps[fedchat/api.Event]", "internal/bytealg.IndexByteString", "internal/bytealg.IndexString"], unfollowed := true, recurses := true, named := ["internal/bytealg.MaxLen"], apart := false }
def ReplayAuthorizedSaid : Prop := replayAuthorizedRow.holds Tryz.pinned (OpenSpec.ofChange replayAuthorizedSpec)

/-- ITS FALSE NEIGHBOUR: 'it returns false'. Refute it at one input. -/
def replayAuthorizedWrong : ChangeSpec := { name := "replayAuthorized", fn := fun _ => fun
  | [d] => { results := [.lit (.bool false)], args := [d] }
  | _ => none }
def ReplayAuthorizedWrongFalsely : Prop := replayAuthorizedRow.holds Tryz.pinned (OpenSpec.ofChange replayAuthorizedWrong)

/-- 'fedchatlaw22.ReplayGrows': WHATEVER THE INPUT: true; the input reads as it did. -/
def replayGrowsSpec : ChangeSpec := { name := "replayGrows", fn := fun _ => fun
  | [d1, d2] => { results := [.lit (.bool true)], args := [d1, d2] }
  | _ => none }
def replayGrowsRow : OpenClaim := { program := "ytolgdkhlelfpoaagreat", sum := "9744951983185c986a98e576acb8241760e9b70f8fb7a088a998fb3cc3ea6304", func := "fedchat/fedchatlaw22.ReplayGrows", spec := "replayGrows", inPlace := ["slices.overlaps[fedchat/api.Event]", "internal/bytealg.IndexByteString", "internal/bytealg.IndexString"], unfollowed := true, recurses := true, named := ["internal/bytealg.MaxLen"], apart := false }
def ReplayGrowsSaid : Prop := replayGrowsRow.holds Tryz.pinned (OpenSpec.ofChange replayGrowsSpec)

/-- ITS FALSE NEIGHBOUR: 'it returns false'. Refute it at one input. -/
def replayGrowsWrong : ChangeSpec := { name := "replayGrows", fn := fun _ => fun
  | [d1, d2] => { results := [.lit (.bool false)], args := [d1, d2] }
  | _ => none }
def ReplayGrowsWrongFalsely : Prop := replayGrowsRow.holds Tryz.pinned (OpenSpec.ofChange replayGrowsWrong)

/-- 'fedchatlaw22.ReplayStrips': WHATEVER THE INPUT: true; the input reads as it did. -/
def replayStripsSpec : ChangeSpec := { name := "replayStrips", fn := fun _ => fun
  | [d1, d2] => { results := [.lit (.bool true)], args := [d1, d2] }
  | _ => none }
def replayStripsRow : OpenClaim := { program := "ytolgdkhlelfpoaagreat", sum := "9744951983185c986a98e576acb8241760e9b70f8fb7a088a998fb3cc3ea6304", func := "fedchat/fedchatlaw22.ReplayStrips", spec := "replayStrips", inPlace := ["slices.overlaps[fedchat/api.Event]", "internal/bytealg.IndexByteString", "internal/bytealg.IndexString"], unfollowed := true, recurses := true, named := ["internal/bytealg.MaxLen"], apart := false }
def ReplayStripsSaid : Prop := replayStripsRow.holds Tryz.pinned (OpenSpec.ofChange replayStripsSpec)

/-- ITS FALSE NEIGHBOUR: 'it returns false'. Refute it at one input. -/
def replayStripsWrong : ChangeSpec := { name := "replayStrips", fn := fun _ => fun
  | [d1, d2] => { results := [.lit (.bool false)], args := [d1, d2] }
  | _ => none }
def ReplayStripsWrongFalsely : Prop := replayStripsRow.holds Tryz.pinned (OpenSpec.ofChange replayStripsWrong)

/- THE SECOND FORM. 'bulk': how many values and letters a reading holds, each counted each time it is reached (what is shared counts as often as it is met; a slice's spare places count too). A statement '..UptoSaid' is the law's where the arguments, and the package variables that the reading takes, are together of bulk at most 1048576: NARROWER than '..Said'. Prove '..Said' where nothing that the law and all that it calls make is longer than what came in: it says more and counts as full. Else prove '..UptoSaid'. A law counts once. -/
mutual
def uptoBulk {H : Type} : DataW H → Nat
  | .lit (.string bytes) => bytes.length + 1
  | .lit _ => 1
  | .nil => 1
  | .ptr d => uptoBulk d + 1
  | .slice elems spare => uptoBulkAll elems + uptoBulkAll spare + 1
  | .agg parts => uptoBulkAll parts + 1
  | .iface _ d => uptoBulk d + 1
  | .map entries => uptoBulkEntries entries + 1
  | .held _ => 1
def uptoBulkAll {H : Type} : List (DataW H) → Nat
  | [] => 0
  | d :: r => uptoBulk d + uptoBulkAll r
def uptoBulkEntries {H : Type} : List (Lit × DataW H) → Nat
  | [] => 0
  | x :: r => uptoBulkEntry x + uptoBulkEntries r
def uptoBulkEntry {H : Type} : Lit × DataW H → Nat
  | (.string bytes, d) => bytes.length + uptoBulk d + 1
  | (_, d) => uptoBulk d + 1
 end
def uptoSmall : (H : Type) → List (DataW H) → Bool := fun _ ds => decide (uptoBulkAll ds ≤ 1048576)
def OpenSpec.upto (s : _root_.Go.ChangeSpec) : _root_.Go.OpenSpec := { _root_.Go.OpenSpec.ofChange s with cond := some uptoSmall }

/-- 'fedchatlaw27.RetainAges', WHERE WHAT IT READS IS OF BULK AT MOST 1048576: true; the input reads as it did. -/
def retainAgesUptoRow : OpenClaim := { program := "ytolgdkhlelfpoaagreat", sum := "9744951983185c986a98e576acb8241760e9b70f8fb7a088a998fb3cc3ea6304", func := "fedchat/fedchatlaw27.RetainAges", spec := "retainAges", inPlace := ["internal/bytealg.IndexByteString", "internal/bytealg.IndexString"], unfollowed := true, recurses := true, named := ["internal/bytealg.MaxLen"], apart := false, narrowed := true }
def RetainAgesUptoSaid : Prop := retainAgesUptoRow.holds Tryz.pinned (OpenSpec.upto retainAgesSpec)

/-- 'fedchatlaw27.RetainErases', WHERE WHAT IT READS IS OF BULK AT MOST 1048576: true; the input reads as it did. -/
def retainErasesUptoRow : OpenClaim := { program := "ytolgdkhlelfpoaagreat", sum := "9744951983185c986a98e576acb8241760e9b70f8fb7a088a998fb3cc3ea6304", func := "fedchat/fedchatlaw27.RetainErases", spec := "retainErases", inPlace := ["internal/bytealg.IndexByteString", "internal/bytealg.IndexString"], unfollowed := true, recurses := true, named := ["internal/bytealg.MaxLen"], apart := false, narrowed := true }
def RetainErasesUptoSaid : Prop := retainErasesUptoRow.holds Tryz.pinned (OpenSpec.upto retainErasesSpec)

/-- 'fedchatlaw27.RetainLater', WHERE WHAT IT READS IS OF BULK AT MOST 1048576: true; the input reads as it did. -/
def retainLaterUptoRow : OpenClaim := { program := "ytolgdkhlelfpoaagreat", sum := "9744951983185c986a98e576acb8241760e9b70f8fb7a088a998fb3cc3ea6304", func := "fedchat/fedchatlaw27.RetainLater", spec := "retainLater", inPlace := ["internal/bytealg.IndexByteString", "internal/bytealg.IndexString"], unfollowed := true, recurses := true, named := ["internal/bytealg.MaxLen"], apart := false, narrowed := true }
def RetainLaterUptoSaid : Prop := retainLaterUptoRow.holds Tryz.pinned (OpenSpec.upto retainLaterSpec)

/-- 'fedchatlaw27.RetainExpires', WHERE WHAT IT READS IS OF BULK AT MOST 1048576: true; the input reads as it did. -/
def retainExpiresUptoRow : OpenClaim := { program := "ytolgdkhlelfpoaagreat", sum := "9744951983185c986a98e576acb8241760e9b70f8fb7a088a998fb3cc3ea6304", func := "fedchat/fedchatlaw27.RetainExpires", spec := "retainExpires", inPlace := ["internal/bytealg.IndexByteString", "internal/bytealg.IndexString"], unfollowed := true, recurses := true, named := ["internal/bytealg.MaxLen"], apart := false, narrowed := true }
def RetainExpiresUptoSaid : Prop := retainExpiresUptoRow.holds Tryz.pinned (OpenSpec.upto retainExpiresSpec)

/-- 'fedchatlaw27.RetainAgain', WHERE WHAT IT READS IS OF BULK AT MOST 1048576: true; the input reads as it did. -/
def retainAgainUptoRow : OpenClaim := { program := "ytolgdkhlelfpoaagreat", sum := "9744951983185c986a98e576acb8241760e9b70f8fb7a088a998fb3cc3ea6304", func := "fedchat/fedchatlaw27.RetainAgain", spec := "retainAgain", inPlace := ["internal/bytealg.IndexByteString", "internal/bytealg.IndexString"], unfollowed := true, recurses := true, named := ["internal/bytealg.MaxLen"], apart := false, narrowed := true }
def RetainAgainUptoSaid : Prop := retainAgainUptoRow.holds Tryz.pinned (OpenSpec.upto retainAgainSpec)

/-- 'fedchatlaw27.RetainStays', WHERE WHAT IT READS IS OF BULK AT MOST 1048576: true; the input reads as it did. -/
def retainStaysUptoRow : OpenClaim := { program := "ytolgdkhlelfpoaagreat", sum := "9744951983185c986a98e576acb8241760e9b70f8fb7a088a998fb3cc3ea6304", func := "fedchat/fedchatlaw27.RetainStays", spec := "retainStays", inPlace := ["internal/bytealg.IndexByteString", "internal/bytealg.IndexString"], unfollowed := true, recurses := true, named := ["internal/bytealg.MaxLen"], apart := false, narrowed := true }
def RetainStaysUptoSaid : Prop := retainStaysUptoRow.holds Tryz.pinned (OpenSpec.upto retainStaysSpec)

/-- 'fedchatlaw22.ReplayStates', WHERE WHAT IT READS IS OF BULK AT MOST 1048576: true; the input reads as it did. -/
def replayStatesUptoRow : OpenClaim := { program := "ytolgdkhlelfpoaagreat", sum := "9744951983185c986a98e576acb8241760e9b70f8fb7a088a998fb3cc3ea6304", func := "fedchat/fedchatlaw22.ReplayStates", spec := "replayStates", inPlace := ["slices.overlaps[fedchat/api.Event]", "internal/bytealg.IndexByteString", "internal/bytealg.IndexString"], unfollowed := true, recurses := true, named := ["internal/bytealg.MaxLen"], apart := false, narrowed := true }
def ReplayStatesUptoSaid : Prop := replayStatesUptoRow.holds Tryz.pinned (OpenSpec.upto replayStatesSpec)

/-- 'fedchatlaw22.ReplaySets', WHERE WHAT IT READS IS OF BULK AT MOST 1048576: true; the input reads as it did. -/
def replaySetsUptoRow : OpenClaim := { program := "ytolgdkhlelfpoaagreat", sum := "9744951983185c986a98e576acb8241760e9b70f8fb7a088a998fb3cc3ea6304", func := "fedchat/fedchatlaw22.ReplaySets", spec := "replaySets", inPlace := ["slices.overlaps[fedchat/api.Event]", "internal/bytealg.IndexByteString", "internal/bytealg.IndexString"], unfollowed := true, recurses := true, named := ["internal/bytealg.MaxLen"], apart := false, narrowed := true }
def ReplaySetsUptoSaid : Prop := replaySetsUptoRow.holds Tryz.pinned (OpenSpec.upto replaySetsSpec)

/-- 'fedchatlaw22.ReplayAuthorized', WHERE WHAT IT READS IS OF BULK AT MOST 1048576: true; the input reads as it did. -/
def replayAuthorizedUptoRow : OpenClaim := { program := "ytolgdkhlelfpoaagreat", sum := "9744951983185c986a98e576acb8241760e9b70f8fb7a088a998fb3cc3ea6304", func := "fedchat/fedchatlaw22.ReplayAuthorized", spec := "replayAuthorized", inPlace := ["slices.overlaps[fedchat/api.Event]", "internal/bytealg.IndexByteString", "internal/bytealg.IndexString"], unfollowed := true, recurses := true, named := ["internal/bytealg.MaxLen"], apart := false, narrowed := true }
def ReplayAuthorizedUptoSaid : Prop := replayAuthorizedUptoRow.holds Tryz.pinned (OpenSpec.upto replayAuthorizedSpec)

/-- 'fedchatlaw22.ReplayGrows', WHERE WHAT IT READS IS OF BULK AT MOST 1048576: true; the input reads as it did. -/
def replayGrowsUptoRow : OpenClaim := { program := "ytolgdkhlelfpoaagreat", sum := "9744951983185c986a98e576acb8241760e9b70f8fb7a088a998fb3cc3ea6304", func := "fedchat/fedchatlaw22.ReplayGrows", spec := "replayGrows", inPlace := ["slices.overlaps[fedchat/api.Event]", "internal/bytealg.IndexByteString", "internal/bytealg.IndexString"], unfollowed := true, recurses := true, named := ["internal/bytealg.MaxLen"], apart := false, narrowed := true }
def ReplayGrowsUptoSaid : Prop := replayGrowsUptoRow.holds Tryz.pinned (OpenSpec.upto replayGrowsSpec)

/-- 'fedchatlaw22.ReplayStrips', WHERE WHAT IT READS IS OF BULK AT MOST 1048576: true; the input reads as it did. -/
def replayStripsUptoRow : OpenClaim := { program := "ytolgdkhlelfpoaagreat", sum := "9744951983185c986a98e576acb8241760e9b70f8fb7a088a998fb3cc3ea6304", func := "fedchat/fedchatlaw22.ReplayStrips", spec := "replayStrips", inPlace := ["slices.overlaps[fedchat/api.Event]", "internal/bytealg.IndexByteString", "internal/bytealg.IndexString"], unfollowed := true, recurses := true, named := ["internal/bytealg.MaxLen"], apart := false, narrowed := true }
def ReplayStripsUptoSaid : Prop := replayStripsUptoRow.holds Tryz.pinned (OpenSpec.upto replayStripsSpec)

end Rows
end Go.Proofs.YtolgdkhlelfpoaaGreat
