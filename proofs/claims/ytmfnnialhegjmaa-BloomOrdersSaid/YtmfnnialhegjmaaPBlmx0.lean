/- A walk, written by a program of this session out of the translation (a printed Lean function, and that the Go code comes to its answer). Lean checks it. -/
import Derived.Test.YtmfnnialhegjmaaProg
import Derived.Below
import Derived.Deep.Draws
import Derived.Deep.AppendLies
import Derived.Maps.AppendAt
import Derived.OwnWalk
import Derived.Laws.BytesArg
import Derived.Laws.MakeOwn
import Derived.Laws.OwnMore
import Derived.Deep.OwnRows
import Derived.Tactics
import Derived.Lib.ConvBytes
import Derived.Laws.Slices
import Derived.WalkKit
import Derived.KernelRfl
import Derived.RowKit3
import Derived.Deep.LoopGhost
import Derived.Deep.QuietTactic
import Derived.BigQuiet
import Derived.WideLaws
import Derived.Deep.DeepCutAuto
import Derived.Deep.CutBlock
import Derived.Deep.RegionHeld3
import Derived.Laws.Rows
import Derived.Lib.AppendStr
import Derived.ArgAppend
import Derived.Laws.IdiomCopy
import Derived.OrdersHeld
import Derived.Laws.BitsLemmas
import Derived.RowKit
import Derived.Test.YtmfnnialhegjmaaWWords
import Derived.Test.YtmfnnialhegjmaaWLast
import Derived.Test.YtmfnnialhegjmaaWTab
import Derived.Test.YtmfnnialhegjmaaWFour
import Derived.Test.YtmfnnialhegjmaaWQPut
import Derived.Test.YtmfnnialhegjmaaWApart
import Derived.Test.YtmfnnialhegjmaaWArr
import Derived.Test.YtmfnnialhegjmaaWZeros
import Derived.Test.YtmfnnialhegjmaaWFoot
import Derived.Test.YtmfnnialhegjmaaWKept
import Derived.Test.YtmfnnialhegjmaaWShare
import Derived.Test.YtmfnnialhegjmaaWN
import Derived.Test.YtmfnnialhegjmaaWFootNe
import Derived.Test.YtmfnnialhegjmaaWAt
import Derived.Test.YtmfnnialhegjmaaWEqStruct
import Derived.Test.YtmfnnialhegjmaaWRepsOne
import Derived.Test.YtmfnnialhegjmaaWInv
import Derived.Test.YtmfnnialhegjmaaWInvWords
import Derived.Test.YtmfnnialhegjmaaWGuard
import Derived.Test.YtmfnnialhegjmaaWNEv
import Derived.Test.YtmfnnialhegjmaaWMore
namespace Go.Proofs.Ytmfnnialhegjmaa.PBlm
open Go.RowKit Go.Proofs.YtmfnnialhegjmaaW.PrintWords Go.Proofs.YtmfnnialhegjmaaW.PrintLast Go.Proofs.YtmfnnialhegjmaaW.PrintMore
attribute [local go_sem] max2_int min2_int max_two min_two max_three min_three max_four min_four   -- for this text's walks alone
set_option linter.unusedVariables false
set_option linter.unusedSimpArgs false



def errW : Option Int → Value
  | none => .nilIface
  | some c => .iface 0 (.int .i64 c)
theorem errW_none : errW none = .nilIface := rfl
theorem errW_some (c : Int) : errW (some c) = .iface 0 (.int .i64 c) := rfl

theorem info3 : (Try.prog.info? 3).map (fun i => (i.zero, i.size, i.bytes)) = some (some (.int .i64 0), 1, 8) := by kernel_rfl
theorem info5 : (Try.prog.info? 5).map (fun i => (i.zero, i.size, i.bytes)) = some (some (.int .u8 0), 1, 1) := by kernel_rfl
theorem info9 : (Try.prog.info? 9).map (fun i => (i.zero, i.size, i.bytes)) = some (some (.string ⟨#[]⟩), 1, 16) := by kernel_rfl
theorem info42 : (Try.prog.info? 42).map (fun i => (i.zero, i.size, i.bytes)) = some (some (.int .u64 0), 1, 8) := by kernel_rfl
-- the values' own types


end Go.Proofs.Ytmfnnialhegjmaa.PBlm
