/-
  No cell of these rows narrows 'for every input' (looked for: loops, veiled, ifaces, maps, wideKeys, modest, calm, conditions, laid).
  DERIVED. THE GIVEN ROWS OF THIS SEAT. 6 by the template 'for every input the law returns true; each argument reads behind the call as it read before'; 0 by the template 'total and deterministic' (their statements: YtchgpcgolgcfdaaGreatTotals.lean).
  GIVEN WITH THE SEED: the statements are not yours to turn. If you find one false, say at which input.
  Laid BY PROGRAM, IN A SANDBOX (cutbox-rows.mjs): the forced cells as the released guide's own fill.sh prints them over the translation 10bd8ac7af058c8b… (all of the seat's roots in one cut). By AI agents, Wed Nov 11 2026. No macro, syntax, notation, axiom, sorry.
-/
import Derived.Test.YtchgpcgolgcfdaaGreatChecked
import GoSem.Claim
import GoSem.ClaimJoined
import GoSem.ClaimMapViews
import Derived.JoinedTies
import Derived.KernelRfl
namespace Go.Proofs.YtchgpcgolgcfdaaGreat
/- THE CELL 'sum', in the pinned program and in every row, IS THE sha256 OF THE DUMP (.gsa) THAT YtchgpcgolgcfdaaGreatProg.lean LOADS. Nothing in Lean hashes anything: it is a label: what it is worth is what the hold of that sum in a sandbox is worth. -/
noncomputable def Tryz.pinned : Pinned := { name := "ytchgpcgolgcfdaagreat", sum := "10bd8ac7af058c8bd3d6bb25489a02fde4d2ca6326ee8fac83984a65dd21a356", checked := Tryz.checked }
namespace Rows
def none {H : Type} : Left H := { results := [], args := [] }

/-- 'cornucopialaw7.SkipPlays': WHATEVER THE INPUT: true; the input reads as it did. -/
def skipPlaysSpec : ChangeSpec := { name := "skipPlays", fn := fun _ => fun
  | [d1, d2, d3, d4, d5] => { results := [.lit (.bool true)], args := [d1, d2, d3, d4, d5] }
  | _ => none }
def skipPlaysRow : OpenClaim := { program := "ytchgpcgolgcfdaagreat", sum := "10bd8ac7af058c8bd3d6bb25489a02fde4d2ca6326ee8fac83984a65dd21a356", func := "cornucopia/cornucopialaw7.SkipPlays", spec := "skipPlays", inPlace := ["internal/bytealg.abigen_runtime_cmpstring"], unfollowed := true, recurses := true, plainKeys := false, apart := false }
def SkipPlaysSaid : Prop := skipPlaysRow.holds Tryz.pinned (OpenSpec.ofChange skipPlaysSpec)

/-- ITS FALSE NEIGHBOUR: 'it returns false'. Refute it at one input. -/
def skipPlaysWrong : ChangeSpec := { name := "skipPlays", fn := fun _ => fun
  | [d1, d2, d3, d4, d5] => { results := [.lit (.bool false)], args := [d1, d2, d3, d4, d5] }
  | _ => none }
def SkipPlaysWrongFalsely : Prop := skipPlaysRow.holds Tryz.pinned (OpenSpec.ofChange skipPlaysWrong)

/-- 'cornucopialaw14.MergeTells': WHATEVER THE INPUT: true; the input reads as it did. -/
def mergeTellsSpec : ChangeSpec := { name := "mergeTells", fn := fun _ => fun
  | [d1, d2, d3] => { results := [.lit (.bool true)], args := [d1, d2, d3] }
  | _ => none }
def mergeTellsRow : OpenClaim := { program := "ytchgpcgolgcfdaagreat", sum := "10bd8ac7af058c8bd3d6bb25489a02fde4d2ca6326ee8fac83984a65dd21a356", func := "cornucopia/cornucopialaw14.MergeTells", spec := "mergeTells", unfollowed := true, recurses := true, plainKeys := false, apart := false }
def MergeTellsSaid : Prop := mergeTellsRow.holds Tryz.pinned (OpenSpec.ofChange mergeTellsSpec)

/-- ITS FALSE NEIGHBOUR: 'it returns false'. Refute it at one input. -/
def mergeTellsWrong : ChangeSpec := { name := "mergeTells", fn := fun _ => fun
  | [d1, d2, d3] => { results := [.lit (.bool false)], args := [d1, d2, d3] }
  | _ => none }
def MergeTellsWrongFalsely : Prop := mergeTellsRow.holds Tryz.pinned (OpenSpec.ofChange mergeTellsWrong)

/-- 'cornucopialaw5.IkeyTells': WHATEVER THE INPUT: true; the input reads as it did. -/
def ikeyTellsSpec : ChangeSpec := { name := "ikeyTells", fn := fun _ => fun
  | [d1, d2, d3, d4, d5] => { results := [.lit (.bool true)], args := [d1, d2, d3, d4, d5] }
  | _ => none }
def ikeyTellsRow : OpenClaim := { program := "ytchgpcgolgcfdaagreat", sum := "10bd8ac7af058c8bd3d6bb25489a02fde4d2ca6326ee8fac83984a65dd21a356", func := "cornucopia/cornucopialaw5.IkeyTells", spec := "ikeyTells", inPlace := ["internal/bytealg.abigen_runtime_cmpstring", "internal/abi.NoEscape"], plainKeys := false, apart := false }
def IkeyTellsSaid : Prop := ikeyTellsRow.holds Tryz.pinned (OpenSpec.ofChange ikeyTellsSpec)

/-- ITS FALSE NEIGHBOUR: 'it returns false'. Refute it at one input. -/
def ikeyTellsWrong : ChangeSpec := { name := "ikeyTells", fn := fun _ => fun
  | [d1, d2, d3, d4, d5] => { results := [.lit (.bool false)], args := [d1, d2, d3, d4, d5] }
  | _ => none }
def IkeyTellsWrongFalsely : Prop := ikeyTellsRow.holds Tryz.pinned (OpenSpec.ofChange ikeyTellsWrong)

/-- 'cornucopialaw8.MemPlays': WHATEVER THE INPUT: true; the input reads as it did. -/
def memPlaysSpec : ChangeSpec := { name := "memPlays", fn := fun _ => fun
  | [d1, d2, d3] => { results := [.lit (.bool true)], args := [d1, d2, d3] }
  | _ => none }
def memPlaysRow : OpenClaim := { program := "ytchgpcgolgcfdaagreat", sum := "10bd8ac7af058c8bd3d6bb25489a02fde4d2ca6326ee8fac83984a65dd21a356", func := "cornucopia/cornucopialaw8.MemPlays", spec := "memPlays", inPlace := ["internal/abi.NoEscape", "internal/bytealg.abigen_runtime_cmpstring"], unfollowed := true, recurses := true, plainKeys := false, apart := false }
def MemPlaysSaid : Prop := memPlaysRow.holds Tryz.pinned (OpenSpec.ofChange memPlaysSpec)

/-- ITS FALSE NEIGHBOUR: 'it returns false'. Refute it at one input. -/
def memPlaysWrong : ChangeSpec := { name := "memPlays", fn := fun _ => fun
  | [d1, d2, d3] => { results := [.lit (.bool false)], args := [d1, d2, d3] }
  | _ => none }
def MemPlaysWrongFalsely : Prop := memPlaysRow.holds Tryz.pinned (OpenSpec.ofChange memPlaysWrong)

/-- 'cornucopialaw10.BlockTells': WHATEVER THE INPUT: true; the input reads as it did. -/
def blockTellsSpec : ChangeSpec := { name := "blockTells", fn := fun _ => fun
  | [d1, d2, d3, d4] => { results := [.lit (.bool true)], args := [d1, d2, d3, d4] }
  | _ => none }
def blockTellsRow : OpenClaim := { program := "ytchgpcgolgcfdaagreat", sum := "10bd8ac7af058c8bd3d6bb25489a02fde4d2ca6326ee8fac83984a65dd21a356", func := "cornucopia/cornucopialaw10.BlockTells", spec := "blockTells", inPlace := ["internal/bytealg.abigen_runtime_cmpstring", "internal/abi.NoEscape"], plainKeys := false, apart := false }
def BlockTellsSaid : Prop := blockTellsRow.holds Tryz.pinned (OpenSpec.ofChange blockTellsSpec)

/-- ITS FALSE NEIGHBOUR: 'it returns false'. Refute it at one input. -/
def blockTellsWrong : ChangeSpec := { name := "blockTells", fn := fun _ => fun
  | [d1, d2, d3, d4] => { results := [.lit (.bool false)], args := [d1, d2, d3, d4] }
  | _ => none }
def BlockTellsWrongFalsely : Prop := blockTellsRow.holds Tryz.pinned (OpenSpec.ofChange blockTellsWrong)

/-- 'cornucopialaw20.BatchPlays': WHATEVER THE INPUT: true; the input reads as it did. -/
def batchPlaysSpec : ChangeSpec := { name := "batchPlays", fn := fun _ => fun
  | [d1, d2, d3, d4, d5] => { results := [.lit (.bool true)], args := [d1, d2, d3, d4, d5] }
  | _ => none }
def batchPlaysRow : OpenClaim := { program := "ytchgpcgolgcfdaagreat", sum := "10bd8ac7af058c8bd3d6bb25489a02fde4d2ca6326ee8fac83984a65dd21a356", func := "cornucopia/cornucopialaw20.BatchPlays", spec := "batchPlays", unfollowed := true, recurses := true, plainKeys := false, apart := false }
def BatchPlaysSaid : Prop := batchPlaysRow.holds Tryz.pinned (OpenSpec.ofChange batchPlaysSpec)

/-- ITS FALSE NEIGHBOUR: 'it returns false'. Refute it at one input. -/
def batchPlaysWrong : ChangeSpec := { name := "batchPlays", fn := fun _ => fun
  | [d1, d2, d3, d4, d5] => { results := [.lit (.bool false)], args := [d1, d2, d3, d4, d5] }
  | _ => none }
def BatchPlaysWrongFalsely : Prop := batchPlaysRow.holds Tryz.pinned (OpenSpec.ofChange batchPlaysWrong)

/- THE SECOND FORM. 'bulk': how many values and letters a reading holds, each counted each time it is reached (what is shared counts as often as it is met; a slice's spare places count too). A statement '..UptoSaid' is the law's where the arguments, and the package variables that the reading takes, are together of bulk at most 1048576: NARROWER than '..Said'. Prove '..Said' where nothing that the law and all that it calls make is longer than what came in: it says more and counts as full. Else prove '..UptoSaid'. A law counts once. -/
mutual
def uptoBulk {H : Type} : DataW H → Nat
  | .lit (.string bytes) => bytes.length + 1
  | .lit _ => 1
  | .nil => 1
  | .ptr d => uptoBulk d + 1
  | .slice elems spare => uptoBulkAll elems + uptoBulkAll spare + 1
  | .agg parts => uptoBulkAll parts + 1
  | .iface _ d => uptoBulk d + 1
  | .map entries => uptoBulkEntries entries + 1
  | .held _ => 1
def uptoBulkAll {H : Type} : List (DataW H) → Nat
  | [] => 0
  | d :: r => uptoBulk d + uptoBulkAll r
def uptoBulkEntries {H : Type} : List (Lit × DataW H) → Nat
  | [] => 0
  | x :: r => uptoBulkEntry x + uptoBulkEntries r
def uptoBulkEntry {H : Type} : Lit × DataW H → Nat
  | (.string bytes, d) => bytes.length + uptoBulk d + 1
  | (_, d) => uptoBulk d + 1
 end
def uptoSmall : (H : Type) → List (DataW H) → Bool := fun _ ds => decide (uptoBulkAll ds ≤ 1048576)
def OpenSpec.upto (s : _root_.Go.ChangeSpec) : _root_.Go.OpenSpec := { _root_.Go.OpenSpec.ofChange s with cond := some uptoSmall }

/-- 'cornucopialaw7.SkipPlays', WHERE WHAT IT READS IS OF BULK AT MOST 1048576: true; the input reads as it did. -/
def skipPlaysUptoRow : OpenClaim := { program := "ytchgpcgolgcfdaagreat", sum := "10bd8ac7af058c8bd3d6bb25489a02fde4d2ca6326ee8fac83984a65dd21a356", func := "cornucopia/cornucopialaw7.SkipPlays", spec := "skipPlays", inPlace := ["internal/bytealg.abigen_runtime_cmpstring"], unfollowed := true, recurses := true, plainKeys := false, apart := false, narrowed := true }
def SkipPlaysUptoSaid : Prop := skipPlaysUptoRow.holds Tryz.pinned (OpenSpec.upto skipPlaysSpec)

/-- 'cornucopialaw14.MergeTells', WHERE WHAT IT READS IS OF BULK AT MOST 1048576: true; the input reads as it did. -/
def mergeTellsUptoRow : OpenClaim := { program := "ytchgpcgolgcfdaagreat", sum := "10bd8ac7af058c8bd3d6bb25489a02fde4d2ca6326ee8fac83984a65dd21a356", func := "cornucopia/cornucopialaw14.MergeTells", spec := "mergeTells", unfollowed := true, recurses := true, plainKeys := false, apart := false, narrowed := true }
def MergeTellsUptoSaid : Prop := mergeTellsUptoRow.holds Tryz.pinned (OpenSpec.upto mergeTellsSpec)

/-- 'cornucopialaw5.IkeyTells', WHERE WHAT IT READS IS OF BULK AT MOST 1048576: true; the input reads as it did. -/
def ikeyTellsUptoRow : OpenClaim := { program := "ytchgpcgolgcfdaagreat", sum := "10bd8ac7af058c8bd3d6bb25489a02fde4d2ca6326ee8fac83984a65dd21a356", func := "cornucopia/cornucopialaw5.IkeyTells", spec := "ikeyTells", inPlace := ["internal/bytealg.abigen_runtime_cmpstring", "internal/abi.NoEscape"], plainKeys := false, apart := false, narrowed := true }
def IkeyTellsUptoSaid : Prop := ikeyTellsUptoRow.holds Tryz.pinned (OpenSpec.upto ikeyTellsSpec)

/-- 'cornucopialaw8.MemPlays', WHERE WHAT IT READS IS OF BULK AT MOST 1048576: true; the input reads as it did. -/
def memPlaysUptoRow : OpenClaim := { program := "ytchgpcgolgcfdaagreat", sum := "10bd8ac7af058c8bd3d6bb25489a02fde4d2ca6326ee8fac83984a65dd21a356", func := "cornucopia/cornucopialaw8.MemPlays", spec := "memPlays", inPlace := ["internal/abi.NoEscape", "internal/bytealg.abigen_runtime_cmpstring"], unfollowed := true, recurses := true, plainKeys := false, apart := false, narrowed := true }
def MemPlaysUptoSaid : Prop := memPlaysUptoRow.holds Tryz.pinned (OpenSpec.upto memPlaysSpec)

/-- 'cornucopialaw10.BlockTells', WHERE WHAT IT READS IS OF BULK AT MOST 1048576: true; the input reads as it did. -/
def blockTellsUptoRow : OpenClaim := { program := "ytchgpcgolgcfdaagreat", sum := "10bd8ac7af058c8bd3d6bb25489a02fde4d2ca6326ee8fac83984a65dd21a356", func := "cornucopia/cornucopialaw10.BlockTells", spec := "blockTells", inPlace := ["internal/bytealg.abigen_runtime_cmpstring", "internal/abi.NoEscape"], plainKeys := false, apart := false, narrowed := true }
def BlockTellsUptoSaid : Prop := blockTellsUptoRow.holds Tryz.pinned (OpenSpec.upto blockTellsSpec)

/-- 'cornucopialaw20.BatchPlays', WHERE WHAT IT READS IS OF BULK AT MOST 1048576: true; the input reads as it did. -/
def batchPlaysUptoRow : OpenClaim := { program := "ytchgpcgolgcfdaagreat", sum := "10bd8ac7af058c8bd3d6bb25489a02fde4d2ca6326ee8fac83984a65dd21a356", func := "cornucopia/cornucopialaw20.BatchPlays", spec := "batchPlays", unfollowed := true, recurses := true, plainKeys := false, apart := false, narrowed := true }
def BatchPlaysUptoSaid : Prop := batchPlaysUptoRow.holds Tryz.pinned (OpenSpec.upto batchPlaysSpec)

end Rows
end Go.Proofs.YtchgpcgolgcfdaaGreat
