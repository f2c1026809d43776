/- NumNone, in plain numbers. -/
import Derived.Test.YtkpjipfjhniddaaPNumx19
import Derived.Test.YtkpjipfjhniddaaPuNum
namespace Go.Proofs.Ytkpjipfjhniddaa.Pure
open Go Go.RowKit Go.Proofs.Ytkpjipfjhniddaa Go.Proofs.Ytkpjipfjhniddaa.PNum Go.Proofs.Ytkpjipfjhniddaa.PuNum Go.Proofs.YtkpjipfjhniddaaW.PrintWords Go.Proofs.YtkpjipfjhniddaaW.PrintLast Go.Proofs.YtkpjipfjhniddaaW.PrintMore Go.Proofs.YtkpjipfjhniddaaW.Pu
theorem NumNone : cornucopialaw1_NumNone.Pure := by
  intro n _
  refine Ev.rounds (Ev.congr (fun k => by rw [cornucopialaw1_NumNone.f]) ?_)
  refine ev_call (show NilR.Fail.f 4 = some () from rfl) (Ev.bind alive_ev (ev_pos rfl ?_))
  refine ev_call (show NilR.Var.f = some 0 from rfl) (ev_call (show NilR.Fix.f n = some 0 from rfl) (ev_pos (by rw [wu64_id (by omega)]; rfl) ?_))
  refine ev_call (show NilR.Int.f = some 0 from rfl) (ev_call (show NilR.Count.f n = some 0 from rfl) (ev_call (show NilR.Left.f = some 0 from rfl) (ev_pos (by have z : wrap64 (0 + 0) = 0 := wrap64_id (by omega); rw [z, z]) ?_)))
  refine ev_call (show NilR.Text.f n = some ⟨#[]⟩ from rfl) (ev_pos (by rw [toList_data]) ?_)
  refine ev_call (show NilR.Bool.f = some false from rfl) (ev_neg (by simp) ?_)
  refine ev_call (show NilR.Err.f = some 1 from rfl) (ev_pos rfl ?_)
  exact ev_call (show NilR.End.f = some 1 from rfl) (ev_const rfl)
end Go.Proofs.Ytkpjipfjhniddaa.Pure
