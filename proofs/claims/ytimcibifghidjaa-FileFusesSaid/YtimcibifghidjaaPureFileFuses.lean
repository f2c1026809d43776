/- FileFuses, in plain words: it is true for whatever is given. -/
import Derived.Test.YtimcibifghidjaaPFilx12
namespace Go.Proofs.Ytimcibifghidjaa.Pure
open Go Go.RowKit Go.Proofs.Ytimcibifghidjaa.PFil
theorem FileFuses : cornucopialaw4_FileFuses.Pure := by
  unfold cornucopialaw4_FileFuses.Pure
  intros
  rfl
end Go.Proofs.Ytimcibifghidjaa.Pure
