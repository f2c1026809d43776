/- FileBad, in plain words: it is true for whatever is given. -/
import Derived.Test.YtimcibifghidjaaPFilx19
namespace Go.Proofs.Ytimcibifghidjaa.Pure
open Go Go.RowKit Go.Proofs.Ytimcibifghidjaa.PFil
theorem FileBad : cornucopialaw4_FileBad.Pure := by
  unfold cornucopialaw4_FileBad.Pure
  intros
  rfl
end Go.Proofs.Ytimcibifghidjaa.Pure
