/- Texts of this claim, put together and cut down to what is used (PureSkipPlays). -/
import Derived.Test.YtchgpcgolgcfdaaGreatMgPNumx40
section
namespace Go.Proofs.YtchgpcgolgcfdaaGreat.Pure
open Go Go.RowKit Go.Proofs.YtchgpcgolgcfdaaGreat.PNum
theorem SkipPlays : cornucopialaw7_SkipPlays.Pure := by
  intro a0 l1 l2 l3 a4 _ h _ _ _ h3 _
  unfold cornucopialaw7_SkipPlays.f
  exact if_pos (Bool.and_eq_true_iff.2 ⟨List.all_eq_true.2 fun e he => decide_eq_true ⟨(h e he).1, (h e he).2.2.2⟩, List.all_eq_true.2 fun s hs => decide_eq_true (h3 s hs)⟩)
end Go.Proofs.YtchgpcgolgcfdaaGreat.Pure
end
