/- FileRoom, in plain words: it is true for whatever is given. -/
import Derived.Test.YtimcibifghidjaaPFilx14
namespace Go.Proofs.Ytimcibifghidjaa.Pure
open Go Go.RowKit Go.Proofs.Ytimcibifghidjaa.PFil
theorem FileRoom : cornucopialaw4_FileRoom.Pure := by
  unfold cornucopialaw4_FileRoom.Pure
  intros
  rfl
end Go.Proofs.Ytimcibifghidjaa.Pure
