/- FileOrder, in plain words: it is true for whatever is given. -/
import Derived.Test.YtimcibifghidjaaPFilx10
namespace Go.Proofs.Ytimcibifghidjaa.Pure
open Go Go.RowKit Go.Proofs.Ytimcibifghidjaa.PFil
theorem FileOrder : cornucopialaw4_FileOrder.Pure := by
  unfold cornucopialaw4_FileOrder.Pure
  intros
  rfl
end Go.Proofs.Ytimcibifghidjaa.Pure
