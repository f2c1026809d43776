/- Helpers of chapter 8's laws. -/
import Derived.Test.YtapgbpghdeimpaaMt4
import Derived.Test.YtapgbpghdeimpaaPuSw
import Derived.Deep.RegionHeld3
import Derived.Test.YtapgbpghdeimpaaPNumx3
namespace Go.Proofs.Ytapgbpghdeimpaa.Mt
open Go Go.RowKit Go.Proofs.Ytapgbpghdeimpaa.PNum Go.Proofs.Ytapgbpghdeimpaa.RkM Go.Proofs.Ytapgbpghdeimpaa.Rk Go.Proofs.YtapgbpghdeimpaaW.PrintWords Go.Proofs.YtapgbpghdeimpaaW.PrintLast Go.Proofs.YtapgbpghdeimpaaW.PrintMore
set_option linter.unusedVariables false
set_option linter.unusedSimpArgs false
theorem size_nil' (w : World) : Calls Try.prog 12 #[.pointer none] w fun e w' => e = .returned (.int .i64 0) ∧ Below w.heap.size w w' := (size_nil w).mono (fun e w' h => ⟨h.1, by rw [h.2]; exact Below.refl _ _⟩)
theorem last_nil' (w : World) : Calls Try.prog 14 #[.pointer none] w fun e w' => e = .returned (.int .u64 0) ∧ Below w.heap.size w w' := (last_nil w).mono (fun e w' h => ⟨h.1, by rw [h.2]; exact Below.refl _ _⟩)
theorem tlen_nil' (w : World) : Calls Try.prog 13 #[.pointer none] w fun e w' => e = .returned (.int .i64 0) ∧ Below w.heap.size w w' := (tlen_nil w).mono (fun e w' h => ⟨h.1, by rw [h.2]; exact Below.refl _ _⟩)
theorem range_nil' (w : World) (from_ to_ : ByteArray) : Calls Try.prog 11 #[.pointer none, .string from_, .string to_] w fun e w' => e = .returned (.slice none 0 0) ∧ Below w.heap.size w w' := (range_nil w from_ to_).mono (fun e w' h => ⟨h.1, by rw [h.2]; exact Below.refl _ _⟩)
end Go.Proofs.Ytapgbpghdeimpaa.Mt
