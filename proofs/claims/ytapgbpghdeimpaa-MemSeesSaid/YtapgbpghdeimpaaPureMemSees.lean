/- MemSees, in plain words: it is true for whatever writes and key. -/
import Derived.Test.YtapgbpghdeimpaaPNumx8
namespace Go.Proofs.Ytapgbpghdeimpaa.Pure
open Go Go.RowKit Go.Proofs.Ytapgbpghdeimpaa.PNum
theorem MemSees : cornucopialaw8_MemSees.Pure := by
  intro l0 a1 _ h _
  unfold cornucopialaw8_MemSees.f
  exact if_pos (List.all_eq_true.2 fun e he => decide_eq_true ⟨(h e he).1, (h e he).2.1⟩)
end Go.Proofs.Ytapgbpghdeimpaa.Pure
