/- MemNone, in plain words: it is true for whatever number and writes. -/
import Derived.Test.YtapgbpghdeimpaaPNumx7
namespace Go.Proofs.Ytapgbpghdeimpaa.Pure
open Go Go.RowKit Go.Proofs.Ytapgbpghdeimpaa.PNum
theorem MemNone : cornucopialaw8_MemNone.Pure := by
  intro a0 l1 _ _ h
  unfold cornucopialaw8_MemNone.f
  exact if_pos (List.all_eq_true.2 fun e he => decide_eq_true ⟨(h e he).1, (h e he).2.1⟩)
end Go.Proofs.Ytapgbpghdeimpaa.Pure
