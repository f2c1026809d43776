/- BatchLast, in plain words: it is true for whatever writes and whatever key. -/
import Derived.Test.YtnaojalieecaeaaPBatx10
namespace Go.Proofs.Ytnaojalieecaeaa.Pure
open Go Go.RowKit Go.Proofs.Ytnaojalieecaeaa.PBat
theorem BatchLast : cornucopialaw20_BatchLast.Pure := fun _ _ _ _ _ => rfl
end Go.Proofs.Ytnaojalieecaeaa.Pure
