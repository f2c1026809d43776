/- FileRenames, in plain words: it is true for whatever is given. -/
import Derived.Test.YtimcibifghidjaaPFilx17
namespace Go.Proofs.Ytimcibifghidjaa.Pure
open Go Go.RowKit Go.Proofs.Ytimcibifghidjaa.PFil
theorem FileRenames : cornucopialaw4_FileRenames.Pure := by
  unfold cornucopialaw4_FileRenames.Pure
  intros
  rfl
end Go.Proofs.Ytimcibifghidjaa.Pure
