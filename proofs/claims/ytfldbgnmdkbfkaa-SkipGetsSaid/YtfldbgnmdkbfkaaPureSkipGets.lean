/- SkipGets, in plain words: it is true for whatever versions, key and number. -/
import Derived.Test.YtfldbgnmdkbfkaaPNumx9
namespace Go.Proofs.Ytfldbgnmdkbfkaa.Pure
open Go Go.RowKit Go.Proofs.Ytfldbgnmdkbfkaa.PNum
theorem SkipGets : cornucopialaw7_SkipGets.Pure := by
  intro l0 a1 a2 _ h _ _
  unfold cornucopialaw7_SkipGets.f
  exact if_pos (List.all_eq_true.2 fun e he => decide_eq_true ⟨(h e he).1, (h e he).2.2.2⟩)
end Go.Proofs.Ytfldbgnmdkbfkaa.Pure
