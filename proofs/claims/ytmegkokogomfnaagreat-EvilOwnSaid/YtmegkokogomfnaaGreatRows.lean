/-
  No cell of these rows narrows 'for every input' (looked for: loops, veiled, ifaces, maps, wideKeys, modest, calm, conditions, laid).
  DERIVED. THE GIVEN ROWS OF THIS SEAT. 3 by the template 'for every input the law returns true; each argument reads behind the call as it read before'; 0 by the template 'total and deterministic' (their statements: YtmegkokogomfnaaGreatTotals.lean).
  GIVEN WITH THE SEED: the statements are not yours to turn. If you find one false, say at which input.
  Laid BY PROGRAM, IN A SANDBOX (cutbox-rows.mjs): the forced cells as the released guide's own fill.sh prints them over the translation 699ef9521b145aee… (all of the seat's roots in one cut). By AI agents, Wed Nov 11 2026. No macro, syntax, notation, axiom, sorry.
-/
import Derived.Test.YtmegkokogomfnaaGreatChecked
import GoSem.Claim
import GoSem.ClaimJoined
import GoSem.ClaimMapViews
import Derived.JoinedTies
import Derived.KernelRfl
namespace Go.Proofs.YtmegkokogomfnaaGreat
/- THE CELL 'sum', in the pinned program and in every row, IS THE sha256 OF THE DUMP (.gsa) THAT YtmegkokogomfnaaGreatProg.lean LOADS. Nothing in Lean hashes anything: it is a label: what it is worth is what the hold of that sum in a sandbox is worth. -/
noncomputable def Tryz.pinned : Pinned := { name := "ytmegkokogomfnaagreat", sum := "699ef9521b145aee2b1b14a8e86536d485950331b34a2770ed99218ebe8b8114", checked := Tryz.checked }
namespace Rows
def none {H : Type} : Left H := { results := [], args := [] }

/-- 'fedchatlaw33.EvilForges': WHATEVER THE INPUT: true; the input reads as it did. -/
def evilForgesSpec : ChangeSpec := { name := "evilForges", fn := fun _ => fun
  | [d1, d2] => { results := [.lit (.bool true)], args := [d1, d2] }
  | _ => none }
def evilForgesRow : OpenClaim := { program := "ytmegkokogomfnaagreat", sum := "699ef9521b145aee2b1b14a8e86536d485950331b34a2770ed99218ebe8b8114", func := "fedchat/fedchatlaw33.EvilForges", spec := "evilForges", inPlace := ["internal/bytealg.IndexByteString", "internal/bytealg.IndexString"], unfollowed := true, recurses := true, named := ["internal/bytealg.MaxLen"], apart := false }
def EvilForgesSaid : Prop := evilForgesRow.holds Tryz.pinned (OpenSpec.ofChange evilForgesSpec)

/-- ITS FALSE NEIGHBOUR: 'it returns false'. Refute it at one input. -/
def evilForgesWrong : ChangeSpec := { name := "evilForges", fn := fun _ => fun
  | [d1, d2] => { results := [.lit (.bool false)], args := [d1, d2] }
  | _ => none }
def EvilForgesWrongFalsely : Prop := evilForgesRow.holds Tryz.pinned (OpenSpec.ofChange evilForgesWrong)

/-- 'fedchatlaw33.EvilSigned': WHATEVER THE INPUT: true; the input reads as it did. -/
def evilSignedSpec : ChangeSpec := { name := "evilSigned", fn := fun _ => fun
  | [d1, d2] => { results := [.lit (.bool true)], args := [d1, d2] }
  | _ => none }
def evilSignedRow : OpenClaim := { program := "ytmegkokogomfnaagreat", sum := "699ef9521b145aee2b1b14a8e86536d485950331b34a2770ed99218ebe8b8114", func := "fedchat/fedchatlaw33.EvilSigned", spec := "evilSigned", inPlace := ["internal/bytealg.IndexByteString", "internal/bytealg.IndexString"], unfollowed := true, recurses := true, named := ["internal/bytealg.MaxLen"], apart := false }
def EvilSignedSaid : Prop := evilSignedRow.holds Tryz.pinned (OpenSpec.ofChange evilSignedSpec)

/-- ITS FALSE NEIGHBOUR: 'it returns false'. Refute it at one input. -/
def evilSignedWrong : ChangeSpec := { name := "evilSigned", fn := fun _ => fun
  | [d1, d2] => { results := [.lit (.bool false)], args := [d1, d2] }
  | _ => none }
def EvilSignedWrongFalsely : Prop := evilSignedRow.holds Tryz.pinned (OpenSpec.ofChange evilSignedWrong)

/-- 'fedchatlaw33.EvilOwn': WHATEVER THE INPUT: true; the input reads as it did. -/
def evilOwnSpec : ChangeSpec := { name := "evilOwn", fn := fun _ => fun
  | [d1, d2] => { results := [.lit (.bool true)], args := [d1, d2] }
  | _ => none }
def evilOwnRow : OpenClaim := { program := "ytmegkokogomfnaagreat", sum := "699ef9521b145aee2b1b14a8e86536d485950331b34a2770ed99218ebe8b8114", func := "fedchat/fedchatlaw33.EvilOwn", spec := "evilOwn", inPlace := ["internal/bytealg.IndexByteString", "internal/bytealg.IndexString"], unfollowed := true, recurses := true, named := ["internal/bytealg.MaxLen"], apart := false }
def EvilOwnSaid : Prop := evilOwnRow.holds Tryz.pinned (OpenSpec.ofChange evilOwnSpec)

/-- ITS FALSE NEIGHBOUR: 'it returns false'. Refute it at one input. -/
def evilOwnWrong : ChangeSpec := { name := "evilOwn", fn := fun _ => fun
  | [d1, d2] => { results := [.lit (.bool false)], args := [d1, d2] }
  | _ => none }
def EvilOwnWrongFalsely : Prop := evilOwnRow.holds Tryz.pinned (OpenSpec.ofChange evilOwnWrong)

/- THE SECOND FORM. 'bulk': how many values and letters a reading holds, each counted each time it is reached (what is shared counts as often as it is met; a slice's spare places count too). A statement '..UptoSaid' is the law's where the arguments, and the package variables that the reading takes, are together of bulk at most 1048576: NARROWER than '..Said'. Prove '..Said' where nothing that the law and all that it calls make is longer than what came in: it says more and counts as full. Else prove '..UptoSaid'. A law counts once. -/
mutual
def uptoBulk {H : Type} : DataW H → Nat
  | .lit (.string bytes) => bytes.length + 1
  | .lit _ => 1
  | .nil => 1
  | .ptr d => uptoBulk d + 1
  | .slice elems spare => uptoBulkAll elems + uptoBulkAll spare + 1
  | .agg parts => uptoBulkAll parts + 1
  | .iface _ d => uptoBulk d + 1
  | .map entries => uptoBulkEntries entries + 1
  | .held _ => 1
def uptoBulkAll {H : Type} : List (DataW H) → Nat
  | [] => 0
  | d :: r => uptoBulk d + uptoBulkAll r
def uptoBulkEntries {H : Type} : List (Lit × DataW H) → Nat
  | [] => 0
  | x :: r => uptoBulkEntry x + uptoBulkEntries r
def uptoBulkEntry {H : Type} : Lit × DataW H → Nat
  | (.string bytes, d) => bytes.length + uptoBulk d + 1
  | (_, d) => uptoBulk d + 1
 end
def uptoSmall : (H : Type) → List (DataW H) → Bool := fun _ ds => decide (uptoBulkAll ds ≤ 1048576)
def OpenSpec.upto (s : _root_.Go.ChangeSpec) : _root_.Go.OpenSpec := { _root_.Go.OpenSpec.ofChange s with cond := some uptoSmall }

/-- 'fedchatlaw33.EvilForges', WHERE WHAT IT READS IS OF BULK AT MOST 1048576: true; the input reads as it did. -/
def evilForgesUptoRow : OpenClaim := { program := "ytmegkokogomfnaagreat", sum := "699ef9521b145aee2b1b14a8e86536d485950331b34a2770ed99218ebe8b8114", func := "fedchat/fedchatlaw33.EvilForges", spec := "evilForges", inPlace := ["internal/bytealg.IndexByteString", "internal/bytealg.IndexString"], unfollowed := true, recurses := true, named := ["internal/bytealg.MaxLen"], apart := false, narrowed := true }
def EvilForgesUptoSaid : Prop := evilForgesUptoRow.holds Tryz.pinned (OpenSpec.upto evilForgesSpec)

/-- 'fedchatlaw33.EvilSigned', WHERE WHAT IT READS IS OF BULK AT MOST 1048576: true; the input reads as it did. -/
def evilSignedUptoRow : OpenClaim := { program := "ytmegkokogomfnaagreat", sum := "699ef9521b145aee2b1b14a8e86536d485950331b34a2770ed99218ebe8b8114", func := "fedchat/fedchatlaw33.EvilSigned", spec := "evilSigned", inPlace := ["internal/bytealg.IndexByteString", "internal/bytealg.IndexString"], unfollowed := true, recurses := true, named := ["internal/bytealg.MaxLen"], apart := false, narrowed := true }
def EvilSignedUptoSaid : Prop := evilSignedUptoRow.holds Tryz.pinned (OpenSpec.upto evilSignedSpec)

/-- 'fedchatlaw33.EvilOwn', WHERE WHAT IT READS IS OF BULK AT MOST 1048576: true; the input reads as it did. -/
def evilOwnUptoRow : OpenClaim := { program := "ytmegkokogomfnaagreat", sum := "699ef9521b145aee2b1b14a8e86536d485950331b34a2770ed99218ebe8b8114", func := "fedchat/fedchatlaw33.EvilOwn", spec := "evilOwn", inPlace := ["internal/bytealg.IndexByteString", "internal/bytealg.IndexString"], unfollowed := true, recurses := true, named := ["internal/bytealg.MaxLen"], apart := false, narrowed := true }
def EvilOwnUptoSaid : Prop := evilOwnUptoRow.holds Tryz.pinned (OpenSpec.upto evilOwnSpec)

end Rows
end Go.Proofs.YtmegkokogomfnaaGreat
