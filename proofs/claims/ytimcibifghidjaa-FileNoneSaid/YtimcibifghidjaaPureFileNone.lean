/- FileNone, in plain words: it is true for whatever is given. -/
import Derived.Test.YtimcibifghidjaaPFilx24
namespace Go.Proofs.Ytimcibifghidjaa.Pure
open Go Go.RowKit Go.Proofs.Ytimcibifghidjaa.PFil
theorem FileNone : cornucopialaw4_FileNone.Pure := by
  unfold cornucopialaw4_FileNone.Pure
  intros
  rfl
end Go.Proofs.Ytimcibifghidjaa.Pure
