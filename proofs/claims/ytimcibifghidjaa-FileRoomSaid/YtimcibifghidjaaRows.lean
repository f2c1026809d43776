/-
  No cell of these rows narrows 'for every input' (looked for: loops, veiled, ifaces, maps, wideKeys, modest, calm, conditions, laid).
  DERIVED. THE GIVEN ROWS OF THIS SEAT. 8 by the template 'for every input the law returns true; each argument reads behind the call as it read before'; 0 by the template 'total and deterministic' (their statements: YtimcibifghidjaaTotals.lean).
  GIVEN WITH THE SEED: the statements are not yours to turn. If you find one false, say at which input.
  Laid BY PROGRAM, IN A SANDBOX (cutbox-rows.mjs): the forced cells as the released guide's own fill.sh prints them over the translation 3a37ff188a63bc2b… (all of the seat's roots in one cut). By AI agents, Wed Nov 11 2026. No macro, syntax, notation, axiom, sorry.
-/
import Derived.Test.YtimcibifghidjaaChecked
import GoSem.Claim
import GoSem.ClaimJoined
import GoSem.ClaimMapViews
import Derived.JoinedTies
import Derived.KernelRfl
namespace Go.Proofs.Ytimcibifghidjaa
/- THE CELL 'sum', in the pinned program and in every row, IS THE sha256 OF THE DUMP (.gsa) THAT YtimcibifghidjaaProg.lean LOADS. Nothing in Lean hashes anything: it is a label: what it is worth is what the hold of that sum in a sandbox is worth. -/
noncomputable def Try.pinned : Pinned := { name := "ytimcibifghidjaa", sum := "3a37ff188a63bc2b7f194f700511cf86f1841160fb72f132c5397adcd58fd046", checked := Try.checked }
namespace Rows
def none {H : Type} : Left H := { results := [], args := [] }

/-- 'cornucopialaw4.FileOrder': WHATEVER THE INPUT: true; the input reads as it did. -/
def fileOrderSpec : ChangeSpec := { name := "fileOrder", fn := fun _ => fun
  | [d1, d2] => { results := [.lit (.bool true)], args := [d1, d2] }
  | _ => none }
def fileOrderRow : OpenClaim := { program := "ytimcibifghidjaa", sum := "3a37ff188a63bc2b7f194f700511cf86f1841160fb72f132c5397adcd58fd046", func := "cornucopia/cornucopialaw4.FileOrder", spec := "fileOrder", inPlace := ["maps.clone"], unfollowed := true, recurses := true, apart := false }
def FileOrderSaid : Prop := fileOrderRow.holds Try.pinned (OpenSpec.ofChange fileOrderSpec)

/-- ITS FALSE NEIGHBOUR: 'it returns false'. Refute it at one input. -/
def fileOrderWrong : ChangeSpec := { name := "fileOrder", fn := fun _ => fun
  | [d1, d2] => { results := [.lit (.bool false)], args := [d1, d2] }
  | _ => none }
def FileOrderWrongFalsely : Prop := fileOrderRow.holds Try.pinned (OpenSpec.ofChange fileOrderWrong)

/-- 'cornucopialaw4.FileFuses': WHATEVER THE INPUT: true; the input reads as it did. -/
def fileFusesSpec : ChangeSpec := { name := "fileFuses", fn := fun _ => fun
  | [d] => { results := [.lit (.bool true)], args := [d] }
  | _ => none }
def fileFusesRow : OpenClaim := { program := "ytimcibifghidjaa", sum := "3a37ff188a63bc2b7f194f700511cf86f1841160fb72f132c5397adcd58fd046", func := "cornucopia/cornucopialaw4.FileFuses", spec := "fileFuses", inPlace := ["maps.clone"], unfollowed := true, recurses := true, apart := false }
def FileFusesSaid : Prop := fileFusesRow.holds Try.pinned (OpenSpec.ofChange fileFusesSpec)

/-- ITS FALSE NEIGHBOUR: 'it returns false'. Refute it at one input. -/
def fileFusesWrong : ChangeSpec := { name := "fileFuses", fn := fun _ => fun
  | [d] => { results := [.lit (.bool false)], args := [d] }
  | _ => none }
def FileFusesWrongFalsely : Prop := fileFusesRow.holds Try.pinned (OpenSpec.ofChange fileFusesWrong)

/-- 'cornucopialaw4.FileRoom': WHATEVER THE INPUT: true; the input reads as it did. -/
def fileRoomSpec : ChangeSpec := { name := "fileRoom", fn := fun _ => fun
  | [d1, d2] => { results := [.lit (.bool true)], args := [d1, d2] }
  | _ => none }
def fileRoomRow : OpenClaim := { program := "ytimcibifghidjaa", sum := "3a37ff188a63bc2b7f194f700511cf86f1841160fb72f132c5397adcd58fd046", func := "cornucopia/cornucopialaw4.FileRoom", spec := "fileRoom", inPlace := ["maps.clone"], unfollowed := true, recurses := true, apart := false }
def FileRoomSaid : Prop := fileRoomRow.holds Try.pinned (OpenSpec.ofChange fileRoomSpec)

/-- ITS FALSE NEIGHBOUR: 'it returns false'. Refute it at one input. -/
def fileRoomWrong : ChangeSpec := { name := "fileRoom", fn := fun _ => fun
  | [d1, d2] => { results := [.lit (.bool false)], args := [d1, d2] }
  | _ => none }
def FileRoomWrongFalsely : Prop := fileRoomRow.holds Try.pinned (OpenSpec.ofChange fileRoomWrong)

/-- 'cornucopialaw4.FileKeeps': WHATEVER THE INPUT: true; the input reads as it did. -/
def fileKeepsSpec : ChangeSpec := { name := "fileKeeps", fn := fun _ => fun
  | [d1, d2, d3, d4] => { results := [.lit (.bool true)], args := [d1, d2, d3, d4] }
  | _ => none }
def fileKeepsRow : OpenClaim := { program := "ytimcibifghidjaa", sum := "3a37ff188a63bc2b7f194f700511cf86f1841160fb72f132c5397adcd58fd046", func := "cornucopia/cornucopialaw4.FileKeeps", spec := "fileKeeps", inPlace := ["maps.clone"], unfollowed := true, recurses := true, apart := false }
def FileKeepsSaid : Prop := fileKeepsRow.holds Try.pinned (OpenSpec.ofChange fileKeepsSpec)

/-- ITS FALSE NEIGHBOUR: 'it returns false'. Refute it at one input. -/
def fileKeepsWrong : ChangeSpec := { name := "fileKeeps", fn := fun _ => fun
  | [d1, d2, d3, d4] => { results := [.lit (.bool false)], args := [d1, d2, d3, d4] }
  | _ => none }
def FileKeepsWrongFalsely : Prop := fileKeepsRow.holds Try.pinned (OpenSpec.ofChange fileKeepsWrong)

/-- 'cornucopialaw4.FileRenames': WHATEVER THE INPUT: true; the input reads as it did. -/
def fileRenamesSpec : ChangeSpec := { name := "fileRenames", fn := fun _ => fun
  | [d1, d2, d3, d4] => { results := [.lit (.bool true)], args := [d1, d2, d3, d4] }
  | _ => none }
def fileRenamesRow : OpenClaim := { program := "ytimcibifghidjaa", sum := "3a37ff188a63bc2b7f194f700511cf86f1841160fb72f132c5397adcd58fd046", func := "cornucopia/cornucopialaw4.FileRenames", spec := "fileRenames", inPlace := ["maps.clone"], unfollowed := true, recurses := true, apart := false }
def FileRenamesSaid : Prop := fileRenamesRow.holds Try.pinned (OpenSpec.ofChange fileRenamesSpec)

/-- ITS FALSE NEIGHBOUR: 'it returns false'. Refute it at one input. -/
def fileRenamesWrong : ChangeSpec := { name := "fileRenames", fn := fun _ => fun
  | [d1, d2, d3, d4] => { results := [.lit (.bool false)], args := [d1, d2, d3, d4] }
  | _ => none }
def FileRenamesWrongFalsely : Prop := fileRenamesRow.holds Try.pinned (OpenSpec.ofChange fileRenamesWrong)

/-- 'cornucopialaw4.FileBad': WHATEVER THE INPUT: true; the input reads as it did. -/
def fileBadSpec : ChangeSpec := { name := "fileBad", fn := fun _ => fun
  | [d1, d2, d3] => { results := [.lit (.bool true)], args := [d1, d2, d3] }
  | _ => none }
def fileBadRow : OpenClaim := { program := "ytimcibifghidjaa", sum := "3a37ff188a63bc2b7f194f700511cf86f1841160fb72f132c5397adcd58fd046", func := "cornucopia/cornucopialaw4.FileBad", spec := "fileBad", inPlace := ["maps.clone"], unfollowed := true, recurses := true, apart := false }
def FileBadSaid : Prop := fileBadRow.holds Try.pinned (OpenSpec.ofChange fileBadSpec)

/-- ITS FALSE NEIGHBOUR: 'it returns false'. Refute it at one input. -/
def fileBadWrong : ChangeSpec := { name := "fileBad", fn := fun _ => fun
  | [d1, d2, d3] => { results := [.lit (.bool false)], args := [d1, d2, d3] }
  | _ => none }
def FileBadWrongFalsely : Prop := fileBadRow.holds Try.pinned (OpenSpec.ofChange fileBadWrong)

/-- 'cornucopialaw4.FileTwins': WHATEVER THE INPUT: true; the input reads as it did. -/
def fileTwinsSpec : ChangeSpec := { name := "fileTwins", fn := fun _ => fun
  | [d1, d2] => { results := [.lit (.bool true)], args := [d1, d2] }
  | _ => none }
def fileTwinsRow : OpenClaim := { program := "ytimcibifghidjaa", sum := "3a37ff188a63bc2b7f194f700511cf86f1841160fb72f132c5397adcd58fd046", func := "cornucopia/cornucopialaw4.FileTwins", spec := "fileTwins", inPlace := ["maps.clone"], unfollowed := true, recurses := true, apart := false }
def FileTwinsSaid : Prop := fileTwinsRow.holds Try.pinned (OpenSpec.ofChange fileTwinsSpec)

/-- ITS FALSE NEIGHBOUR: 'it returns false'. Refute it at one input. -/
def fileTwinsWrong : ChangeSpec := { name := "fileTwins", fn := fun _ => fun
  | [d1, d2] => { results := [.lit (.bool false)], args := [d1, d2] }
  | _ => none }
def FileTwinsWrongFalsely : Prop := fileTwinsRow.holds Try.pinned (OpenSpec.ofChange fileTwinsWrong)

/-- 'cornucopialaw4.FileNone': WHATEVER THE INPUT: true; the input reads as it did. -/
def fileNoneSpec : ChangeSpec := { name := "fileNone", fn := fun _ => fun
  | [d1, d2] => { results := [.lit (.bool true)], args := [d1, d2] }
  | _ => none }
def fileNoneRow : OpenClaim := { program := "ytimcibifghidjaa", sum := "3a37ff188a63bc2b7f194f700511cf86f1841160fb72f132c5397adcd58fd046", func := "cornucopia/cornucopialaw4.FileNone", spec := "fileNone", inPlace := ["maps.clone"], unfollowed := true, recurses := true, apart := false }
def FileNoneSaid : Prop := fileNoneRow.holds Try.pinned (OpenSpec.ofChange fileNoneSpec)

/-- ITS FALSE NEIGHBOUR: 'it returns false'. Refute it at one input. -/
def fileNoneWrong : ChangeSpec := { name := "fileNone", fn := fun _ => fun
  | [d1, d2] => { results := [.lit (.bool false)], args := [d1, d2] }
  | _ => none }
def FileNoneWrongFalsely : Prop := fileNoneRow.holds Try.pinned (OpenSpec.ofChange fileNoneWrong)

/- THE SECOND FORM. 'bulk': how many values and letters a reading holds, each counted each time it is reached (what is shared counts as often as it is met; a slice's spare places count too). A statement '..UptoSaid' is the law's where the arguments, and the package variables that the reading takes, are together of bulk at most 1048576: NARROWER than '..Said'. Prove '..Said' where nothing that the law and all that it calls make is longer than what came in: it says more and counts as full. Else prove '..UptoSaid'. A law counts once. -/
mutual
def uptoBulk {H : Type} : DataW H → Nat
  | .lit (.string bytes) => bytes.length + 1
  | .lit _ => 1
  | .nil => 1
  | .ptr d => uptoBulk d + 1
  | .slice elems spare => uptoBulkAll elems + uptoBulkAll spare + 1
  | .agg parts => uptoBulkAll parts + 1
  | .iface _ d => uptoBulk d + 1
  | .map entries => uptoBulkEntries entries + 1
  | .held _ => 1
def uptoBulkAll {H : Type} : List (DataW H) → Nat
  | [] => 0
  | d :: r => uptoBulk d + uptoBulkAll r
def uptoBulkEntries {H : Type} : List (Lit × DataW H) → Nat
  | [] => 0
  | x :: r => uptoBulkEntry x + uptoBulkEntries r
def uptoBulkEntry {H : Type} : Lit × DataW H → Nat
  | (.string bytes, d) => bytes.length + uptoBulk d + 1
  | (_, d) => uptoBulk d + 1
 end
def uptoSmall : (H : Type) → List (DataW H) → Bool := fun _ ds => decide (uptoBulkAll ds ≤ 1048576)
def OpenSpec.upto (s : _root_.Go.ChangeSpec) : _root_.Go.OpenSpec := { _root_.Go.OpenSpec.ofChange s with cond := some uptoSmall }

/-- 'cornucopialaw4.FileOrder', WHERE WHAT IT READS IS OF BULK AT MOST 1048576: true; the input reads as it did. -/
def fileOrderUptoRow : OpenClaim := { program := "ytimcibifghidjaa", sum := "3a37ff188a63bc2b7f194f700511cf86f1841160fb72f132c5397adcd58fd046", func := "cornucopia/cornucopialaw4.FileOrder", spec := "fileOrder", inPlace := ["maps.clone"], unfollowed := true, recurses := true, apart := false, narrowed := true }
def FileOrderUptoSaid : Prop := fileOrderUptoRow.holds Try.pinned (OpenSpec.upto fileOrderSpec)

/-- 'cornucopialaw4.FileFuses', WHERE WHAT IT READS IS OF BULK AT MOST 1048576: true; the input reads as it did. -/
def fileFusesUptoRow : OpenClaim := { program := "ytimcibifghidjaa", sum := "3a37ff188a63bc2b7f194f700511cf86f1841160fb72f132c5397adcd58fd046", func := "cornucopia/cornucopialaw4.FileFuses", spec := "fileFuses", inPlace := ["maps.clone"], unfollowed := true, recurses := true, apart := false, narrowed := true }
def FileFusesUptoSaid : Prop := fileFusesUptoRow.holds Try.pinned (OpenSpec.upto fileFusesSpec)

/-- 'cornucopialaw4.FileRoom', WHERE WHAT IT READS IS OF BULK AT MOST 1048576: true; the input reads as it did. -/
def fileRoomUptoRow : OpenClaim := { program := "ytimcibifghidjaa", sum := "3a37ff188a63bc2b7f194f700511cf86f1841160fb72f132c5397adcd58fd046", func := "cornucopia/cornucopialaw4.FileRoom", spec := "fileRoom", inPlace := ["maps.clone"], unfollowed := true, recurses := true, apart := false, narrowed := true }
def FileRoomUptoSaid : Prop := fileRoomUptoRow.holds Try.pinned (OpenSpec.upto fileRoomSpec)

/-- 'cornucopialaw4.FileKeeps', WHERE WHAT IT READS IS OF BULK AT MOST 1048576: true; the input reads as it did. -/
def fileKeepsUptoRow : OpenClaim := { program := "ytimcibifghidjaa", sum := "3a37ff188a63bc2b7f194f700511cf86f1841160fb72f132c5397adcd58fd046", func := "cornucopia/cornucopialaw4.FileKeeps", spec := "fileKeeps", inPlace := ["maps.clone"], unfollowed := true, recurses := true, apart := false, narrowed := true }
def FileKeepsUptoSaid : Prop := fileKeepsUptoRow.holds Try.pinned (OpenSpec.upto fileKeepsSpec)

/-- 'cornucopialaw4.FileRenames', WHERE WHAT IT READS IS OF BULK AT MOST 1048576: true; the input reads as it did. -/
def fileRenamesUptoRow : OpenClaim := { program := "ytimcibifghidjaa", sum := "3a37ff188a63bc2b7f194f700511cf86f1841160fb72f132c5397adcd58fd046", func := "cornucopia/cornucopialaw4.FileRenames", spec := "fileRenames", inPlace := ["maps.clone"], unfollowed := true, recurses := true, apart := false, narrowed := true }
def FileRenamesUptoSaid : Prop := fileRenamesUptoRow.holds Try.pinned (OpenSpec.upto fileRenamesSpec)

/-- 'cornucopialaw4.FileBad', WHERE WHAT IT READS IS OF BULK AT MOST 1048576: true; the input reads as it did. -/
def fileBadUptoRow : OpenClaim := { program := "ytimcibifghidjaa", sum := "3a37ff188a63bc2b7f194f700511cf86f1841160fb72f132c5397adcd58fd046", func := "cornucopia/cornucopialaw4.FileBad", spec := "fileBad", inPlace := ["maps.clone"], unfollowed := true, recurses := true, apart := false, narrowed := true }
def FileBadUptoSaid : Prop := fileBadUptoRow.holds Try.pinned (OpenSpec.upto fileBadSpec)

/-- 'cornucopialaw4.FileTwins', WHERE WHAT IT READS IS OF BULK AT MOST 1048576: true; the input reads as it did. -/
def fileTwinsUptoRow : OpenClaim := { program := "ytimcibifghidjaa", sum := "3a37ff188a63bc2b7f194f700511cf86f1841160fb72f132c5397adcd58fd046", func := "cornucopia/cornucopialaw4.FileTwins", spec := "fileTwins", inPlace := ["maps.clone"], unfollowed := true, recurses := true, apart := false, narrowed := true }
def FileTwinsUptoSaid : Prop := fileTwinsUptoRow.holds Try.pinned (OpenSpec.upto fileTwinsSpec)

/-- 'cornucopialaw4.FileNone', WHERE WHAT IT READS IS OF BULK AT MOST 1048576: true; the input reads as it did. -/
def fileNoneUptoRow : OpenClaim := { program := "ytimcibifghidjaa", sum := "3a37ff188a63bc2b7f194f700511cf86f1841160fb72f132c5397adcd58fd046", func := "cornucopia/cornucopialaw4.FileNone", spec := "fileNone", inPlace := ["maps.clone"], unfollowed := true, recurses := true, apart := false, narrowed := true }
def FileNoneUptoSaid : Prop := fileNoneUptoRow.holds Try.pinned (OpenSpec.upto fileNoneSpec)

end Rows
end Go.Proofs.Ytimcibifghidjaa
