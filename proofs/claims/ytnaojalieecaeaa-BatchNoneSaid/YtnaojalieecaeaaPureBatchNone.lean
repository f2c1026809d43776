/- BatchNone, in plain words: it is true for whatever key. -/
import Derived.Test.YtnaojalieecaeaaPBatx12
namespace Go.Proofs.Ytnaojalieecaeaa.Pure
open Go Go.RowKit Go.Proofs.Ytnaojalieecaeaa.PBat
theorem BatchNone : cornucopialaw20_BatchNone.Pure := fun _ _ => rfl
end Go.Proofs.Ytnaojalieecaeaa.Pure
