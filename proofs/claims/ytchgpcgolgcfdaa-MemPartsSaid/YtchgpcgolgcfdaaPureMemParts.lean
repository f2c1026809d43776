/- MemParts, in plain words: it is true for whatever batches, keys and draws. -/
import Derived.Test.YtchgpcgolgcfdaaPNumx11
namespace Go.Proofs.Ytchgpcgolgcfdaa.Pure
open Go Go.RowKit Go.Proofs.Ytchgpcgolgcfdaa.PNum
theorem MemParts : cornucopialaw8_MemParts.Pure := by
  unfold cornucopialaw8_MemParts.Pure
  intros
  rfl
end Go.Proofs.Ytchgpcgolgcfdaa.Pure
