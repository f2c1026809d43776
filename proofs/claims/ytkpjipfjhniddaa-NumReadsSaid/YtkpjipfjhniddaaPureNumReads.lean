/- NumReads, in plain words: it is true for whatever bytes and whatever operations. -/
import Derived.Test.YtkpjipfjhniddaaPNumx19
namespace Go.Proofs.Ytkpjipfjhniddaa.Pure
open Go Go.RowKit Go.Proofs.Ytkpjipfjhniddaa.PNum
theorem NumReads : cornucopialaw1_NumReads.Pure := by
  intro a0 a1 l2 _ _ h
  unfold cornucopialaw1_NumReads.f
  exact if_pos (fun x hx => (h x hx).2)
end Go.Proofs.Ytkpjipfjhniddaa.Pure
