/-
  No cell of these rows narrows 'for every input' (looked for: loops, veiled, ifaces, maps, wideKeys, modest, calm, conditions, laid).
  DERIVED. THE GIVEN ROWS OF THIS SEAT. 4 by the template 'for every input the law returns true; each argument reads behind the call as it read before'; 0 by the template 'total and deterministic' (their statements: YtdhhcmdofnjhiaaTotals.lean).
  GIVEN WITH THE SEED: the statements are not yours to turn. If you find one false, say at which input.
  Laid BY PROGRAM, IN A SANDBOX (cutbox-rows.mjs): the forced cells as the released guide's own fill.sh prints them over the translation 32c82ee345e8a707… (all of the seat's roots in one cut). By AI agents, Wed Nov 11 2026. No macro, syntax, notation, axiom, sorry.
-/
import Derived.Test.YtdhhcmdofnjhiaaChecked
import GoSem.Claim
import GoSem.ClaimJoined
import GoSem.ClaimMapViews
import Derived.JoinedTies
import Derived.KernelRfl
namespace Go.Proofs.Ytdhhcmdofnjhiaa
/- THE CELL 'sum', in the pinned program and in every row, IS THE sha256 OF THE DUMP (.gsa) THAT YtdhhcmdofnjhiaaProg.lean LOADS. Nothing in Lean hashes anything: it is a label: what it is worth is what the hold of that sum in a sandbox is worth. -/
noncomputable def Try.pinned : Pinned := { name := "ytdhhcmdofnjhiaa", sum := "32c82ee345e8a70756f8999edf928fa12e3fdd55a8081e0777e8ecf4f926d134", checked := Try.checked }
namespace Rows
def none {H : Type} : Left H := { results := [], args := [] }

/-- 'fedchatlaw54.DigestRooms': WHATEVER THE INPUT: true; the input reads as it did. -/
def digestRoomsSpec : ChangeSpec := { name := "digestRooms", fn := fun _ => fun
  | [d] => { results := [.lit (.bool true)], args := [d] }
  | _ => none }
def digestRoomsRow : OpenClaim := { program := "ytdhhcmdofnjhiaa", sum := "32c82ee345e8a70756f8999edf928fa12e3fdd55a8081e0777e8ecf4f926d134", func := "fedchat/fedchatlaw54.DigestRooms", spec := "digestRooms", recurses := true, apart := false }
def DigestRoomsSaid : Prop := digestRoomsRow.holds Try.pinned (OpenSpec.ofChange digestRoomsSpec)

/-- ITS FALSE NEIGHBOUR: 'it returns false'. Refute it at one input. -/
def digestRoomsWrong : ChangeSpec := { name := "digestRooms", fn := fun _ => fun
  | [d] => { results := [.lit (.bool false)], args := [d] }
  | _ => none }
def DigestRoomsWrongFalsely : Prop := digestRoomsRow.holds Try.pinned (OpenSpec.ofChange digestRoomsWrong)

/-- 'fedchatlaw54.DigestDiffers': WHATEVER THE INPUT: true; the input reads as it did. -/
def digestDiffersSpec : ChangeSpec := { name := "digestDiffers", fn := fun _ => fun
  | [d1, d2] => { results := [.lit (.bool true)], args := [d1, d2] }
  | _ => none }
def digestDiffersRow : OpenClaim := { program := "ytdhhcmdofnjhiaa", sum := "32c82ee345e8a70756f8999edf928fa12e3fdd55a8081e0777e8ecf4f926d134", func := "fedchat/fedchatlaw54.DigestDiffers", spec := "digestDiffers", recurses := true, apart := false }
def DigestDiffersSaid : Prop := digestDiffersRow.holds Try.pinned (OpenSpec.ofChange digestDiffersSpec)

/-- ITS FALSE NEIGHBOUR: 'it returns false'. Refute it at one input. -/
def digestDiffersWrong : ChangeSpec := { name := "digestDiffers", fn := fun _ => fun
  | [d1, d2] => { results := [.lit (.bool false)], args := [d1, d2] }
  | _ => none }
def DigestDiffersWrongFalsely : Prop := digestDiffersRow.holds Try.pinned (OpenSpec.ofChange digestDiffersWrong)

/-- 'fedchatlaw54.DigestCounts': WHATEVER THE INPUT: true; the input reads as it did. -/
def digestCountsSpec : ChangeSpec := { name := "digestCounts", fn := fun _ => fun
  | [d1, d2] => { results := [.lit (.bool true)], args := [d1, d2] }
  | _ => none }
def digestCountsRow : OpenClaim := { program := "ytdhhcmdofnjhiaa", sum := "32c82ee345e8a70756f8999edf928fa12e3fdd55a8081e0777e8ecf4f926d134", func := "fedchat/fedchatlaw54.DigestCounts", spec := "digestCounts", recurses := true, apart := false }
def DigestCountsSaid : Prop := digestCountsRow.holds Try.pinned (OpenSpec.ofChange digestCountsSpec)

/-- ITS FALSE NEIGHBOUR: 'it returns false'. Refute it at one input. -/
def digestCountsWrong : ChangeSpec := { name := "digestCounts", fn := fun _ => fun
  | [d1, d2] => { results := [.lit (.bool false)], args := [d1, d2] }
  | _ => none }
def DigestCountsWrongFalsely : Prop := digestCountsRow.holds Try.pinned (OpenSpec.ofChange digestCountsWrong)

/-- 'fedchatlaw54.DigestSofts': WHATEVER THE INPUT: true; the input reads as it did. -/
def digestSoftsSpec : ChangeSpec := { name := "digestSofts", fn := fun _ => fun
  | [d] => { results := [.lit (.bool true)], args := [d] }
  | _ => none }
def digestSoftsRow : OpenClaim := { program := "ytdhhcmdofnjhiaa", sum := "32c82ee345e8a70756f8999edf928fa12e3fdd55a8081e0777e8ecf4f926d134", func := "fedchat/fedchatlaw54.DigestSofts", spec := "digestSofts", recurses := true, apart := false }
def DigestSoftsSaid : Prop := digestSoftsRow.holds Try.pinned (OpenSpec.ofChange digestSoftsSpec)

/-- ITS FALSE NEIGHBOUR: 'it returns false'. Refute it at one input. -/
def digestSoftsWrong : ChangeSpec := { name := "digestSofts", fn := fun _ => fun
  | [d] => { results := [.lit (.bool false)], args := [d] }
  | _ => none }
def DigestSoftsWrongFalsely : Prop := digestSoftsRow.holds Try.pinned (OpenSpec.ofChange digestSoftsWrong)

/- THE SECOND FORM. 'bulk': how many values and letters a reading holds, each counted each time it is reached (what is shared counts as often as it is met; a slice's spare places count too). A statement '..UptoSaid' is the law's where the arguments, and the package variables that the reading takes, are together of bulk at most 1048576: NARROWER than '..Said'. Prove '..Said' where nothing that the law and all that it calls make is longer than what came in: it says more and counts as full. Else prove '..UptoSaid'. A law counts once. -/
mutual
def uptoBulk {H : Type} : DataW H → Nat
  | .lit (.string bytes) => bytes.length + 1
  | .lit _ => 1
  | .nil => 1
  | .ptr d => uptoBulk d + 1
  | .slice elems spare => uptoBulkAll elems + uptoBulkAll spare + 1
  | .agg parts => uptoBulkAll parts + 1
  | .iface _ d => uptoBulk d + 1
  | .map entries => uptoBulkEntries entries + 1
  | .held _ => 1
def uptoBulkAll {H : Type} : List (DataW H) → Nat
  | [] => 0
  | d :: r => uptoBulk d + uptoBulkAll r
def uptoBulkEntries {H : Type} : List (Lit × DataW H) → Nat
  | [] => 0
  | x :: r => uptoBulkEntry x + uptoBulkEntries r
def uptoBulkEntry {H : Type} : Lit × DataW H → Nat
  | (.string bytes, d) => bytes.length + uptoBulk d + 1
  | (_, d) => uptoBulk d + 1
 end
def uptoSmall : (H : Type) → List (DataW H) → Bool := fun _ ds => decide (uptoBulkAll ds ≤ 1048576)
def OpenSpec.upto (s : _root_.Go.ChangeSpec) : _root_.Go.OpenSpec := { _root_.Go.OpenSpec.ofChange s with cond := some uptoSmall }

/-- 'fedchatlaw54.DigestRooms', WHERE WHAT IT READS IS OF BULK AT MOST 1048576: true; the input reads as it did. -/
def digestRoomsUptoRow : OpenClaim := { program := "ytdhhcmdofnjhiaa", sum := "32c82ee345e8a70756f8999edf928fa12e3fdd55a8081e0777e8ecf4f926d134", func := "fedchat/fedchatlaw54.DigestRooms", spec := "digestRooms", recurses := true, apart := false, narrowed := true }
def DigestRoomsUptoSaid : Prop := digestRoomsUptoRow.holds Try.pinned (OpenSpec.upto digestRoomsSpec)

/-- 'fedchatlaw54.DigestDiffers', WHERE WHAT IT READS IS OF BULK AT MOST 1048576: true; the input reads as it did. -/
def digestDiffersUptoRow : OpenClaim := { program := "ytdhhcmdofnjhiaa", sum := "32c82ee345e8a70756f8999edf928fa12e3fdd55a8081e0777e8ecf4f926d134", func := "fedchat/fedchatlaw54.DigestDiffers", spec := "digestDiffers", recurses := true, apart := false, narrowed := true }
def DigestDiffersUptoSaid : Prop := digestDiffersUptoRow.holds Try.pinned (OpenSpec.upto digestDiffersSpec)

/-- 'fedchatlaw54.DigestCounts', WHERE WHAT IT READS IS OF BULK AT MOST 1048576: true; the input reads as it did. -/
def digestCountsUptoRow : OpenClaim := { program := "ytdhhcmdofnjhiaa", sum := "32c82ee345e8a70756f8999edf928fa12e3fdd55a8081e0777e8ecf4f926d134", func := "fedchat/fedchatlaw54.DigestCounts", spec := "digestCounts", recurses := true, apart := false, narrowed := true }
def DigestCountsUptoSaid : Prop := digestCountsUptoRow.holds Try.pinned (OpenSpec.upto digestCountsSpec)

/-- 'fedchatlaw54.DigestSofts', WHERE WHAT IT READS IS OF BULK AT MOST 1048576: true; the input reads as it did. -/
def digestSoftsUptoRow : OpenClaim := { program := "ytdhhcmdofnjhiaa", sum := "32c82ee345e8a70756f8999edf928fa12e3fdd55a8081e0777e8ecf4f926d134", func := "fedchat/fedchatlaw54.DigestSofts", spec := "digestSofts", recurses := true, apart := false, narrowed := true }
def DigestSoftsUptoSaid : Prop := digestSoftsUptoRow.holds Try.pinned (OpenSpec.upto digestSoftsSpec)

end Rows
end Go.Proofs.Ytdhhcmdofnjhiaa
