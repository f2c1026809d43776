/- FileKeeps, in plain words: it is true for whatever is given. -/
import Derived.Test.YtimcibifghidjaaPFilx16
namespace Go.Proofs.Ytimcibifghidjaa.Pure
open Go Go.RowKit Go.Proofs.Ytimcibifghidjaa.PFil
theorem FileKeeps : cornucopialaw4_FileKeeps.Pure := by
  unfold cornucopialaw4_FileKeeps.Pure
  intros
  rfl
end Go.Proofs.Ytimcibifghidjaa.Pure
