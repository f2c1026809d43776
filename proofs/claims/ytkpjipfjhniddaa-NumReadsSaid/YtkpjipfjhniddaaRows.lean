/-
  No cell of these rows narrows 'for every input' (looked for: loops, veiled, ifaces, maps, wideKeys, modest, calm, conditions, laid).
  DERIVED. THE GIVEN ROWS OF THIS SEAT. 10 by the template 'for every input the law returns true; each argument reads behind the call as it read before'; 0 by the template 'total and deterministic' (their statements: YtkpjipfjhniddaaTotals.lean).
  GIVEN WITH THE SEED: the statements are not yours to turn. If you find one false, say at which input.
  Laid BY PROGRAM, IN A SANDBOX (cutbox-rows.mjs): the forced cells as the released guide's own fill.sh prints them over the translation ff14cbfba07d160f… (all of the seat's roots in one cut). By AI agents, Wed Nov 11 2026. No macro, syntax, notation, axiom, sorry.
-/
import Derived.Test.YtkpjipfjhniddaaChecked
import GoSem.Claim
import GoSem.ClaimJoined
import GoSem.ClaimMapViews
import Derived.JoinedTies
import Derived.KernelRfl
namespace Go.Proofs.Ytkpjipfjhniddaa
/- THE CELL 'sum', in the pinned program and in every row, IS THE sha256 OF THE DUMP (.gsa) THAT YtkpjipfjhniddaaProg.lean LOADS. Nothing in Lean hashes anything: it is a label: what it is worth is what the hold of that sum in a sandbox is worth. -/
noncomputable def Try.pinned : Pinned := { name := "ytkpjipfjhniddaa", sum := "ff14cbfba07d160f0b7f770ddab0177ee26ef5c406ac4ce29c094c7305bfd6f7", checked := Try.checked }
namespace Rows
def none {H : Type} : Left H := { results := [], args := [] }

/-- 'cornucopialaw5.IkeyShadows': WHATEVER THE INPUT: true; the input reads as it did. -/
def ikeyShadowsSpec : ChangeSpec := { name := "ikeyShadows", fn := fun _ => fun
  | [d1, d2, d3, d4] => { results := [.lit (.bool true)], args := [d1, d2, d3, d4] }
  | _ => none }
def ikeyShadowsRow : OpenClaim := { program := "ytkpjipfjhniddaa", sum := "ff14cbfba07d160f0b7f770ddab0177ee26ef5c406ac4ce29c094c7305bfd6f7", func := "cornucopia/cornucopialaw5.IkeyShadows", spec := "ikeyShadows", inPlace := ["internal/bytealg.abigen_runtime_cmpstring"], apart := false }
def IkeyShadowsSaid : Prop := ikeyShadowsRow.holds Try.pinned (OpenSpec.ofChange ikeyShadowsSpec)

/-- ITS FALSE NEIGHBOUR: 'it returns false'. Refute it at one input. -/
def ikeyShadowsWrong : ChangeSpec := { name := "ikeyShadows", fn := fun _ => fun
  | [d1, d2, d3, d4] => { results := [.lit (.bool false)], args := [d1, d2, d3, d4] }
  | _ => none }
def IkeyShadowsWrongFalsely : Prop := ikeyShadowsRow.holds Try.pinned (OpenSpec.ofChange ikeyShadowsWrong)

/-- 'cornucopialaw5.IkeyOrder': WHATEVER THE INPUT: true; the input reads as it did. -/
def ikeyOrderSpec : ChangeSpec := { name := "ikeyOrder", fn := fun _ => fun
  | [d1, d2, d3] => { results := [.lit (.bool true)], args := [d1, d2, d3] }
  | _ => none }
def ikeyOrderRow : OpenClaim := { program := "ytkpjipfjhniddaa", sum := "ff14cbfba07d160f0b7f770ddab0177ee26ef5c406ac4ce29c094c7305bfd6f7", func := "cornucopia/cornucopialaw5.IkeyOrder", spec := "ikeyOrder", inPlace := ["internal/bytealg.abigen_runtime_cmpstring"], apart := false }
def IkeyOrderSaid : Prop := ikeyOrderRow.holds Try.pinned (OpenSpec.ofChange ikeyOrderSpec)

/-- ITS FALSE NEIGHBOUR: 'it returns false'. Refute it at one input. -/
def ikeyOrderWrong : ChangeSpec := { name := "ikeyOrder", fn := fun _ => fun
  | [d1, d2, d3] => { results := [.lit (.bool false)], args := [d1, d2, d3] }
  | _ => none }
def IkeyOrderWrongFalsely : Prop := ikeyOrderRow.holds Try.pinned (OpenSpec.ofChange ikeyOrderWrong)

/-- 'cornucopialaw1.NumShort': WHATEVER THE INPUT: true; the input reads as it did. -/
def numShortSpec : ChangeSpec := { name := "numShort", fn := fun _ => fun
  | [d1, d2] => { results := [.lit (.bool true)], args := [d1, d2] }
  | _ => none }
def numShortRow : OpenClaim := { program := "ytkpjipfjhniddaa", sum := "ff14cbfba07d160f0b7f770ddab0177ee26ef5c406ac4ce29c094c7305bfd6f7", func := "cornucopia/cornucopialaw1.NumShort", spec := "numShort", apart := false }
def NumShortSaid : Prop := numShortRow.holds Try.pinned (OpenSpec.ofChange numShortSpec)

/-- ITS FALSE NEIGHBOUR: 'it returns false'. Refute it at one input. -/
def numShortWrong : ChangeSpec := { name := "numShort", fn := fun _ => fun
  | [d1, d2] => { results := [.lit (.bool false)], args := [d1, d2] }
  | _ => none }
def NumShortWrongFalsely : Prop := numShortRow.holds Try.pinned (OpenSpec.ofChange numShortWrong)

/-- 'cornucopialaw1.NumDigits': WHATEVER THE INPUT: true; the input reads as it did. -/
def numDigitsSpec : ChangeSpec := { name := "numDigits", fn := fun _ => fun
  | [d1, d2] => { results := [.lit (.bool true)], args := [d1, d2] }
  | _ => none }
def numDigitsRow : OpenClaim := { program := "ytkpjipfjhniddaa", sum := "ff14cbfba07d160f0b7f770ddab0177ee26ef5c406ac4ce29c094c7305bfd6f7", func := "cornucopia/cornucopialaw1.NumDigits", spec := "numDigits", apart := false }
def NumDigitsSaid : Prop := numDigitsRow.holds Try.pinned (OpenSpec.ofChange numDigitsSpec)

/-- ITS FALSE NEIGHBOUR: 'it returns false'. Refute it at one input. -/
def numDigitsWrong : ChangeSpec := { name := "numDigits", fn := fun _ => fun
  | [d1, d2] => { results := [.lit (.bool false)], args := [d1, d2] }
  | _ => none }
def NumDigitsWrongFalsely : Prop := numDigitsRow.holds Try.pinned (OpenSpec.ofChange numDigitsWrong)

/-- 'cornucopialaw1.NumTells': WHATEVER THE INPUT: true; the input reads as it did. -/
def numTellsSpec : ChangeSpec := { name := "numTells", fn := fun _ => fun
  | [d1, d2, d3, d4, d5, d6, d7] => { results := [.lit (.bool true)], args := [d1, d2, d3, d4, d5, d6, d7] }
  | _ => none }
def numTellsRow : OpenClaim := { program := "ytkpjipfjhniddaa", sum := "ff14cbfba07d160f0b7f770ddab0177ee26ef5c406ac4ce29c094c7305bfd6f7", func := "cornucopia/cornucopialaw1.NumTells", spec := "numTells", inPlace := ["internal/abi.NoEscape"], apart := false }
def NumTellsSaid : Prop := numTellsRow.holds Try.pinned (OpenSpec.ofChange numTellsSpec)

/-- ITS FALSE NEIGHBOUR: 'it returns false'. Refute it at one input. -/
def numTellsWrong : ChangeSpec := { name := "numTells", fn := fun _ => fun
  | [d1, d2, d3, d4, d5, d6, d7] => { results := [.lit (.bool false)], args := [d1, d2, d3, d4, d5, d6, d7] }
  | _ => none }
def NumTellsWrongFalsely : Prop := numTellsRow.holds Try.pinned (OpenSpec.ofChange numTellsWrong)

/-- 'cornucopialaw1.NumFirst': WHATEVER THE INPUT: true; the input reads as it did. -/
def numFirstSpec : ChangeSpec := { name := "numFirst", fn := fun _ => fun
  | [d1, d2] => { results := [.lit (.bool true)], args := [d1, d2] }
  | _ => none }
def numFirstRow : OpenClaim := { program := "ytkpjipfjhniddaa", sum := "ff14cbfba07d160f0b7f770ddab0177ee26ef5c406ac4ce29c094c7305bfd6f7", func := "cornucopia/cornucopialaw1.NumFirst", spec := "numFirst", apart := false }
def NumFirstSaid : Prop := numFirstRow.holds Try.pinned (OpenSpec.ofChange numFirstSpec)

/-- ITS FALSE NEIGHBOUR: 'it returns false'. Refute it at one input. -/
def numFirstWrong : ChangeSpec := { name := "numFirst", fn := fun _ => fun
  | [d1, d2] => { results := [.lit (.bool false)], args := [d1, d2] }
  | _ => none }
def NumFirstWrongFalsely : Prop := numFirstRow.holds Try.pinned (OpenSpec.ofChange numFirstWrong)

/-- 'cornucopialaw1.NumReads': WHATEVER THE INPUT: true; the input reads as it did. -/
def numReadsSpec : ChangeSpec := { name := "numReads", fn := fun _ => fun
  | [d1, d2, d3] => { results := [.lit (.bool true)], args := [d1, d2, d3] }
  | _ => none }
def numReadsRow : OpenClaim := { program := "ytkpjipfjhniddaa", sum := "ff14cbfba07d160f0b7f770ddab0177ee26ef5c406ac4ce29c094c7305bfd6f7", func := "cornucopia/cornucopialaw1.NumReads", spec := "numReads", apart := false }
def NumReadsSaid : Prop := numReadsRow.holds Try.pinned (OpenSpec.ofChange numReadsSpec)

/-- ITS FALSE NEIGHBOUR: 'it returns false'. Refute it at one input. -/
def numReadsWrong : ChangeSpec := { name := "numReads", fn := fun _ => fun
  | [d1, d2, d3] => { results := [.lit (.bool false)], args := [d1, d2, d3] }
  | _ => none }
def NumReadsWrongFalsely : Prop := numReadsRow.holds Try.pinned (OpenSpec.ofChange numReadsWrong)

/-- 'cornucopialaw1.NumNone': WHATEVER THE INPUT: true; the input reads as it did. -/
def numNoneSpec : ChangeSpec := { name := "numNone", fn := fun _ => fun
  | [d] => { results := [.lit (.bool true)], args := [d] }
  | _ => none }
def numNoneRow : OpenClaim := { program := "ytkpjipfjhniddaa", sum := "ff14cbfba07d160f0b7f770ddab0177ee26ef5c406ac4ce29c094c7305bfd6f7", func := "cornucopia/cornucopialaw1.NumNone", spec := "numNone", apart := false }
def NumNoneSaid : Prop := numNoneRow.holds Try.pinned (OpenSpec.ofChange numNoneSpec)

/-- ITS FALSE NEIGHBOUR: 'it returns false'. Refute it at one input. -/
def numNoneWrong : ChangeSpec := { name := "numNone", fn := fun _ => fun
  | [d] => { results := [.lit (.bool false)], args := [d] }
  | _ => none }
def NumNoneWrongFalsely : Prop := numNoneRow.holds Try.pinned (OpenSpec.ofChange numNoneWrong)

/-- 'cornucopialaw1.NumBack': WHATEVER THE INPUT: true; the input reads as it did. -/
def numBackSpec : ChangeSpec := { name := "numBack", fn := fun _ => fun
  | [d1, d2, d3, d4, d5] => { results := [.lit (.bool true)], args := [d1, d2, d3, d4, d5] }
  | _ => none }
def numBackRow : OpenClaim := { program := "ytkpjipfjhniddaa", sum := "ff14cbfba07d160f0b7f770ddab0177ee26ef5c406ac4ce29c094c7305bfd6f7", func := "cornucopia/cornucopialaw1.NumBack", spec := "numBack", inPlace := ["internal/abi.NoEscape"], apart := false }
def NumBackSaid : Prop := numBackRow.holds Try.pinned (OpenSpec.ofChange numBackSpec)

/-- ITS FALSE NEIGHBOUR: 'it returns false'. Refute it at one input. -/
def numBackWrong : ChangeSpec := { name := "numBack", fn := fun _ => fun
  | [d1, d2, d3, d4, d5] => { results := [.lit (.bool false)], args := [d1, d2, d3, d4, d5] }
  | _ => none }
def NumBackWrongFalsely : Prop := numBackRow.holds Try.pinned (OpenSpec.ofChange numBackWrong)

/-- 'cornucopialaw5.IkeyBack': WHATEVER THE INPUT: true; the input reads as it did. -/
def ikeyBackSpec : ChangeSpec := { name := "ikeyBack", fn := fun _ => fun
  | [d] => { results := [.lit (.bool true)], args := [d] }
  | _ => none }
def ikeyBackRow : OpenClaim := { program := "ytkpjipfjhniddaa", sum := "ff14cbfba07d160f0b7f770ddab0177ee26ef5c406ac4ce29c094c7305bfd6f7", func := "cornucopia/cornucopialaw5.IkeyBack", spec := "ikeyBack", inPlace := ["internal/bytealg.abigen_runtime_cmpstring", "internal/abi.NoEscape"], apart := false }
def IkeyBackSaid : Prop := ikeyBackRow.holds Try.pinned (OpenSpec.ofChange ikeyBackSpec)

/-- ITS FALSE NEIGHBOUR: 'it returns false'. Refute it at one input. -/
def ikeyBackWrong : ChangeSpec := { name := "ikeyBack", fn := fun _ => fun
  | [d] => { results := [.lit (.bool false)], args := [d] }
  | _ => none }
def IkeyBackWrongFalsely : Prop := ikeyBackRow.holds Try.pinned (OpenSpec.ofChange ikeyBackWrong)

/- THE SECOND FORM. 'bulk': how many values and letters a reading holds, each counted each time it is reached (what is shared counts as often as it is met; a slice's spare places count too). A statement '..UptoSaid' is the law's where the arguments, and the package variables that the reading takes, are together of bulk at most 1048576: NARROWER than '..Said'. Prove '..Said' where nothing that the law and all that it calls make is longer than what came in: it says more and counts as full. Else prove '..UptoSaid'. A law counts once. -/
mutual
def uptoBulk {H : Type} : DataW H → Nat
  | .lit (.string bytes) => bytes.length + 1
  | .lit _ => 1
  | .nil => 1
  | .ptr d => uptoBulk d + 1
  | .slice elems spare => uptoBulkAll elems + uptoBulkAll spare + 1
  | .agg parts => uptoBulkAll parts + 1
  | .iface _ d => uptoBulk d + 1
  | .map entries => uptoBulkEntries entries + 1
  | .held _ => 1
def uptoBulkAll {H : Type} : List (DataW H) → Nat
  | [] => 0
  | d :: r => uptoBulk d + uptoBulkAll r
def uptoBulkEntries {H : Type} : List (Lit × DataW H) → Nat
  | [] => 0
  | x :: r => uptoBulkEntry x + uptoBulkEntries r
def uptoBulkEntry {H : Type} : Lit × DataW H → Nat
  | (.string bytes, d) => bytes.length + uptoBulk d + 1
  | (_, d) => uptoBulk d + 1
 end
def uptoSmall : (H : Type) → List (DataW H) → Bool := fun _ ds => decide (uptoBulkAll ds ≤ 1048576)
def OpenSpec.upto (s : _root_.Go.ChangeSpec) : _root_.Go.OpenSpec := { _root_.Go.OpenSpec.ofChange s with cond := some uptoSmall }

/-- 'cornucopialaw5.IkeyShadows', WHERE WHAT IT READS IS OF BULK AT MOST 1048576: true; the input reads as it did. -/
def ikeyShadowsUptoRow : OpenClaim := { program := "ytkpjipfjhniddaa", sum := "ff14cbfba07d160f0b7f770ddab0177ee26ef5c406ac4ce29c094c7305bfd6f7", func := "cornucopia/cornucopialaw5.IkeyShadows", spec := "ikeyShadows", inPlace := ["internal/bytealg.abigen_runtime_cmpstring"], apart := false, narrowed := true }
def IkeyShadowsUptoSaid : Prop := ikeyShadowsUptoRow.holds Try.pinned (OpenSpec.upto ikeyShadowsSpec)

/-- 'cornucopialaw5.IkeyOrder', WHERE WHAT IT READS IS OF BULK AT MOST 1048576: true; the input reads as it did. -/
def ikeyOrderUptoRow : OpenClaim := { program := "ytkpjipfjhniddaa", sum := "ff14cbfba07d160f0b7f770ddab0177ee26ef5c406ac4ce29c094c7305bfd6f7", func := "cornucopia/cornucopialaw5.IkeyOrder", spec := "ikeyOrder", inPlace := ["internal/bytealg.abigen_runtime_cmpstring"], apart := false, narrowed := true }
def IkeyOrderUptoSaid : Prop := ikeyOrderUptoRow.holds Try.pinned (OpenSpec.upto ikeyOrderSpec)

/-- 'cornucopialaw1.NumShort', WHERE WHAT IT READS IS OF BULK AT MOST 1048576: true; the input reads as it did. -/
def numShortUptoRow : OpenClaim := { program := "ytkpjipfjhniddaa", sum := "ff14cbfba07d160f0b7f770ddab0177ee26ef5c406ac4ce29c094c7305bfd6f7", func := "cornucopia/cornucopialaw1.NumShort", spec := "numShort", apart := false, narrowed := true }
def NumShortUptoSaid : Prop := numShortUptoRow.holds Try.pinned (OpenSpec.upto numShortSpec)

/-- 'cornucopialaw1.NumDigits', WHERE WHAT IT READS IS OF BULK AT MOST 1048576: true; the input reads as it did. -/
def numDigitsUptoRow : OpenClaim := { program := "ytkpjipfjhniddaa", sum := "ff14cbfba07d160f0b7f770ddab0177ee26ef5c406ac4ce29c094c7305bfd6f7", func := "cornucopia/cornucopialaw1.NumDigits", spec := "numDigits", apart := false, narrowed := true }
def NumDigitsUptoSaid : Prop := numDigitsUptoRow.holds Try.pinned (OpenSpec.upto numDigitsSpec)

/-- 'cornucopialaw1.NumTells', WHERE WHAT IT READS IS OF BULK AT MOST 1048576: true; the input reads as it did. -/
def numTellsUptoRow : OpenClaim := { program := "ytkpjipfjhniddaa", sum := "ff14cbfba07d160f0b7f770ddab0177ee26ef5c406ac4ce29c094c7305bfd6f7", func := "cornucopia/cornucopialaw1.NumTells", spec := "numTells", inPlace := ["internal/abi.NoEscape"], apart := false, narrowed := true }
def NumTellsUptoSaid : Prop := numTellsUptoRow.holds Try.pinned (OpenSpec.upto numTellsSpec)

/-- 'cornucopialaw1.NumFirst', WHERE WHAT IT READS IS OF BULK AT MOST 1048576: true; the input reads as it did. -/
def numFirstUptoRow : OpenClaim := { program := "ytkpjipfjhniddaa", sum := "ff14cbfba07d160f0b7f770ddab0177ee26ef5c406ac4ce29c094c7305bfd6f7", func := "cornucopia/cornucopialaw1.NumFirst", spec := "numFirst", apart := false, narrowed := true }
def NumFirstUptoSaid : Prop := numFirstUptoRow.holds Try.pinned (OpenSpec.upto numFirstSpec)

/-- 'cornucopialaw1.NumReads', WHERE WHAT IT READS IS OF BULK AT MOST 1048576: true; the input reads as it did. -/
def numReadsUptoRow : OpenClaim := { program := "ytkpjipfjhniddaa", sum := "ff14cbfba07d160f0b7f770ddab0177ee26ef5c406ac4ce29c094c7305bfd6f7", func := "cornucopia/cornucopialaw1.NumReads", spec := "numReads", apart := false, narrowed := true }
def NumReadsUptoSaid : Prop := numReadsUptoRow.holds Try.pinned (OpenSpec.upto numReadsSpec)

/-- 'cornucopialaw1.NumNone', WHERE WHAT IT READS IS OF BULK AT MOST 1048576: true; the input reads as it did. -/
def numNoneUptoRow : OpenClaim := { program := "ytkpjipfjhniddaa", sum := "ff14cbfba07d160f0b7f770ddab0177ee26ef5c406ac4ce29c094c7305bfd6f7", func := "cornucopia/cornucopialaw1.NumNone", spec := "numNone", apart := false, narrowed := true }
def NumNoneUptoSaid : Prop := numNoneUptoRow.holds Try.pinned (OpenSpec.upto numNoneSpec)

/-- 'cornucopialaw1.NumBack', WHERE WHAT IT READS IS OF BULK AT MOST 1048576: true; the input reads as it did. -/
def numBackUptoRow : OpenClaim := { program := "ytkpjipfjhniddaa", sum := "ff14cbfba07d160f0b7f770ddab0177ee26ef5c406ac4ce29c094c7305bfd6f7", func := "cornucopia/cornucopialaw1.NumBack", spec := "numBack", inPlace := ["internal/abi.NoEscape"], apart := false, narrowed := true }
def NumBackUptoSaid : Prop := numBackUptoRow.holds Try.pinned (OpenSpec.upto numBackSpec)

/-- 'cornucopialaw5.IkeyBack', WHERE WHAT IT READS IS OF BULK AT MOST 1048576: true; the input reads as it did. -/
def ikeyBackUptoRow : OpenClaim := { program := "ytkpjipfjhniddaa", sum := "ff14cbfba07d160f0b7f770ddab0177ee26ef5c406ac4ce29c094c7305bfd6f7", func := "cornucopia/cornucopialaw5.IkeyBack", spec := "ikeyBack", inPlace := ["internal/bytealg.abigen_runtime_cmpstring", "internal/abi.NoEscape"], apart := false, narrowed := true }
def IkeyBackUptoSaid : Prop := ikeyBackUptoRow.holds Try.pinned (OpenSpec.upto ikeyBackSpec)

end Rows
end Go.Proofs.Ytkpjipfjhniddaa
