/-
  No cell of these rows narrows 'for every input' (looked for: loops, veiled, ifaces, maps, wideKeys, modest, calm, conditions, laid).
  DERIVED. THE GIVEN ROWS OF THIS SEAT. 3 by the template 'for every input the law returns true; each argument reads behind the call as it read before'; 0 by the template 'total and deterministic' (their statements: YtmfnnialhegjmaaTotals.lean).
  GIVEN WITH THE SEED: the statements are not yours to turn. If you find one false, say at which input.
  Laid BY PROGRAM, IN A SANDBOX (cutbox-rows.mjs): the forced cells as the released guide's own fill.sh prints them over the translation 869a89c7f3c3e487… (all of the seat's roots in one cut). By AI agents, Wed Nov 11 2026. No macro, syntax, notation, axiom, sorry.
-/
import Derived.Test.YtmfnnialhegjmaaChecked
import GoSem.Claim
import GoSem.ClaimJoined
import GoSem.ClaimMapViews
import Derived.JoinedTies
import Derived.KernelRfl
namespace Go.Proofs.Ytmfnnialhegjmaa
/- THE CELL 'sum', in the pinned program and in every row, IS THE sha256 OF THE DUMP (.gsa) THAT YtmfnnialhegjmaaProg.lean LOADS. Nothing in Lean hashes anything: it is a label: what it is worth is what the hold of that sum in a sandbox is worth. -/
noncomputable def Try.pinned : Pinned := { name := "ytmfnnialhegjmaa", sum := "869a89c7f3c3e487f4f3c9f8f9b66b76b98e368ab00f68730c9bcaaa71bbb5af", checked := Try.checked }
namespace Rows
def none {H : Type} : Left H := { results := [], args := [] }

/-- 'cornucopialaw9.BloomTells': WHATEVER THE INPUT: true; the input reads as it did. -/
def bloomTellsSpec : ChangeSpec := { name := "bloomTells", fn := fun _ => fun
  | [d1, d2, d3, d4, d5, d6] => { results := [.lit (.bool true)], args := [d1, d2, d3, d4, d5, d6] }
  | _ => none }
def bloomTellsRow : OpenClaim := { program := "ytmfnnialhegjmaa", sum := "869a89c7f3c3e487f4f3c9f8f9b66b76b98e368ab00f68730c9bcaaa71bbb5af", func := "cornucopia/cornucopialaw9.BloomTells", spec := "bloomTells", apart := false }
def BloomTellsSaid : Prop := bloomTellsRow.holds Try.pinned (OpenSpec.ofChange bloomTellsSpec)

/-- ITS FALSE NEIGHBOUR: 'it returns false'. Refute it at one input. -/
def bloomTellsWrong : ChangeSpec := { name := "bloomTells", fn := fun _ => fun
  | [d1, d2, d3, d4, d5, d6] => { results := [.lit (.bool false)], args := [d1, d2, d3, d4, d5, d6] }
  | _ => none }
def BloomTellsWrongFalsely : Prop := bloomTellsRow.holds Try.pinned (OpenSpec.ofChange bloomTellsWrong)

/-- 'cornucopialaw9.BloomHolds': WHATEVER THE INPUT: true; the input reads as it did. -/
def bloomHoldsSpec : ChangeSpec := { name := "bloomHolds", fn := fun _ => fun
  | [d1, d2, d3, d4] => { results := [.lit (.bool true)], args := [d1, d2, d3, d4] }
  | _ => none }
def bloomHoldsRow : OpenClaim := { program := "ytmfnnialhegjmaa", sum := "869a89c7f3c3e487f4f3c9f8f9b66b76b98e368ab00f68730c9bcaaa71bbb5af", func := "cornucopia/cornucopialaw9.BloomHolds", spec := "bloomHolds", apart := false }
def BloomHoldsSaid : Prop := bloomHoldsRow.holds Try.pinned (OpenSpec.ofChange bloomHoldsSpec)

/-- ITS FALSE NEIGHBOUR: 'it returns false'. Refute it at one input. -/
def bloomHoldsWrong : ChangeSpec := { name := "bloomHolds", fn := fun _ => fun
  | [d1, d2, d3, d4] => { results := [.lit (.bool false)], args := [d1, d2, d3, d4] }
  | _ => none }
def BloomHoldsWrongFalsely : Prop := bloomHoldsRow.holds Try.pinned (OpenSpec.ofChange bloomHoldsWrong)

/-- 'cornucopialaw9.BloomOrders': WHATEVER THE INPUT: true; the input reads as it did. -/
def bloomOrdersSpec : ChangeSpec := { name := "bloomOrders", fn := fun _ => fun
  | [d1, d2, d3] => { results := [.lit (.bool true)], args := [d1, d2, d3] }
  | _ => none }
def bloomOrdersRow : OpenClaim := { program := "ytmfnnialhegjmaa", sum := "869a89c7f3c3e487f4f3c9f8f9b66b76b98e368ab00f68730c9bcaaa71bbb5af", func := "cornucopia/cornucopialaw9.BloomOrders", spec := "bloomOrders", apart := false }
def BloomOrdersSaid : Prop := bloomOrdersRow.holds Try.pinned (OpenSpec.ofChange bloomOrdersSpec)

/-- ITS FALSE NEIGHBOUR: 'it returns false'. Refute it at one input. -/
def bloomOrdersWrong : ChangeSpec := { name := "bloomOrders", fn := fun _ => fun
  | [d1, d2, d3] => { results := [.lit (.bool false)], args := [d1, d2, d3] }
  | _ => none }
def BloomOrdersWrongFalsely : Prop := bloomOrdersRow.holds Try.pinned (OpenSpec.ofChange bloomOrdersWrong)

/- THE SECOND FORM. 'bulk': how many values and letters a reading holds, each counted each time it is reached (what is shared counts as often as it is met; a slice's spare places count too). A statement '..UptoSaid' is the law's where the arguments, and the package variables that the reading takes, are together of bulk at most 1048576: NARROWER than '..Said'. Prove '..Said' where nothing that the law and all that it calls make is longer than what came in: it says more and counts as full. Else prove '..UptoSaid'. A law counts once. -/
mutual
def uptoBulk {H : Type} : DataW H → Nat
  | .lit (.string bytes) => bytes.length + 1
  | .lit _ => 1
  | .nil => 1
  | .ptr d => uptoBulk d + 1
  | .slice elems spare => uptoBulkAll elems + uptoBulkAll spare + 1
  | .agg parts => uptoBulkAll parts + 1
  | .iface _ d => uptoBulk d + 1
  | .map entries => uptoBulkEntries entries + 1
  | .held _ => 1
def uptoBulkAll {H : Type} : List (DataW H) → Nat
  | [] => 0
  | d :: r => uptoBulk d + uptoBulkAll r
def uptoBulkEntries {H : Type} : List (Lit × DataW H) → Nat
  | [] => 0
  | x :: r => uptoBulkEntry x + uptoBulkEntries r
def uptoBulkEntry {H : Type} : Lit × DataW H → Nat
  | (.string bytes, d) => bytes.length + uptoBulk d + 1
  | (_, d) => uptoBulk d + 1
 end
def uptoSmall : (H : Type) → List (DataW H) → Bool := fun _ ds => decide (uptoBulkAll ds ≤ 1048576)
def OpenSpec.upto (s : _root_.Go.ChangeSpec) : _root_.Go.OpenSpec := { _root_.Go.OpenSpec.ofChange s with cond := some uptoSmall }

/-- 'cornucopialaw9.BloomTells', WHERE WHAT IT READS IS OF BULK AT MOST 1048576: true; the input reads as it did. -/
def bloomTellsUptoRow : OpenClaim := { program := "ytmfnnialhegjmaa", sum := "869a89c7f3c3e487f4f3c9f8f9b66b76b98e368ab00f68730c9bcaaa71bbb5af", func := "cornucopia/cornucopialaw9.BloomTells", spec := "bloomTells", apart := false, narrowed := true }
def BloomTellsUptoSaid : Prop := bloomTellsUptoRow.holds Try.pinned (OpenSpec.upto bloomTellsSpec)

/-- 'cornucopialaw9.BloomHolds', WHERE WHAT IT READS IS OF BULK AT MOST 1048576: true; the input reads as it did. -/
def bloomHoldsUptoRow : OpenClaim := { program := "ytmfnnialhegjmaa", sum := "869a89c7f3c3e487f4f3c9f8f9b66b76b98e368ab00f68730c9bcaaa71bbb5af", func := "cornucopia/cornucopialaw9.BloomHolds", spec := "bloomHolds", apart := false, narrowed := true }
def BloomHoldsUptoSaid : Prop := bloomHoldsUptoRow.holds Try.pinned (OpenSpec.upto bloomHoldsSpec)

/-- 'cornucopialaw9.BloomOrders', WHERE WHAT IT READS IS OF BULK AT MOST 1048576: true; the input reads as it did. -/
def bloomOrdersUptoRow : OpenClaim := { program := "ytmfnnialhegjmaa", sum := "869a89c7f3c3e487f4f3c9f8f9b66b76b98e368ab00f68730c9bcaaa71bbb5af", func := "cornucopia/cornucopialaw9.BloomOrders", spec := "bloomOrders", apart := false, narrowed := true }
def BloomOrdersUptoSaid : Prop := bloomOrdersUptoRow.holds Try.pinned (OpenSpec.upto bloomOrdersSpec)

end Rows
end Go.Proofs.Ytmfnnialhegjmaa
