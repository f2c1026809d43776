/- SkipLevels, in plain words: it is true for whatever versions, levels, key and number. -/
import Derived.Test.YtfldbgnmdkbfkaaPNumx8
namespace Go.Proofs.Ytfldbgnmdkbfkaa.Pure
open Go Go.RowKit Go.Proofs.Ytfldbgnmdkbfkaa.PNum
theorem SkipLevels : cornucopialaw7_SkipLevels.Pure := by
  intro l0 l1 l2 a3 a4 _ h _ _ _ _ _ _
  unfold cornucopialaw7_SkipLevels.f
  exact if_pos (List.all_eq_true.2 fun e he => decide_eq_true ⟨(h e he).1, (h e he).2.2.2⟩)
end Go.Proofs.Ytfldbgnmdkbfkaa.Pure
