/- SkipNone, in plain words: it is true for whatever version and whatever level. -/
import Derived.Test.YtfldbgnmdkbfkaaPNumx6
namespace Go.Proofs.Ytfldbgnmdkbfkaa.Pure
open Go Go.RowKit Go.Proofs.Ytfldbgnmdkbfkaa.PNum
theorem SkipNone : cornucopialaw7_SkipNone.Pure := by
  intro s0 a1 h _
  unfold cornucopialaw7_SkipNone.f
  exact if_pos ⟨h.1, h.2.2.2⟩
end Go.Proofs.Ytfldbgnmdkbfkaa.Pure
