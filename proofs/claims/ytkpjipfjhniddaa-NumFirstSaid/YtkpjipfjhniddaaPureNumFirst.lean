/- NumFirst, in plain numbers: the first error of a reader stays, and nothing is read any more. -/
import Derived.Test.YtkpjipfjhniddaaPNumx12
import Derived.Test.YtkpjipfjhniddaaPuNum
import Derived.Test.YtkpjipfjhniddaaPuRead
namespace Go.Proofs.Ytkpjipfjhniddaa.Pure
open Go Go.RowKit Go.Proofs.Ytkpjipfjhniddaa.PNum Go.Proofs.Ytkpjipfjhniddaa.PuNum Go.Proofs.Ytkpjipfjhniddaa.PuRead Go.Proofs.YtkpjipfjhniddaaW.PrintWords Go.Proofs.YtkpjipfjhniddaaW.PrintLast Go.Proofs.YtkpjipfjhniddaaW.PrintMore Go.Proofs.YtkpjipfjhniddaaW.Pu
theorem NumFirst : cornucopialaw1_NumFirst.Pure := by
  intro a0 a1 h0 h1
  have g1 := i64_wf h1
  refine Ev.rounds (Ev.congr (fun k => by rw [cornucopialaw1_NumFirst.f]) ?_)
  by_cases hl : (a0.size : Int) > 3000
  · exact ev_pos hl (Ev.bind alive_ev (ev_const rfl))
  · refine ev_neg hl (ev_call (New_eq a0 (by omega)) ?_)
    have hc := Count_ev (ok8_of a0) 0 a1 g1
    rw [S_of] at hc
    refine Ev.bind hc (ev_call (Err_eq _ _) (ev_call (Left_eq _ _) ?_))
    have hok := rCount_ok (e := 0) (most := a1) (ok8_of a0)
    generalize rCount (bytesOf a0) 0 a1 = r at *
    obtain ⟨c, b, e⟩ := r
    simp only at hok ⊢
    by_cases he : e = 0
    · exact ev_pos he (Ev.bind alive_ev (ev_const rfl))
    · refine ev_neg he (ev_call (Fail_eq _ _ _) ?_)
      simp only [if_neg he]
      have nil : ((strOfNums []).toList = ([] : List UInt8)) := by rw [S_toList]; rfl
      have hV := Var_ev hok e
      rw [rVar_off b he] at hV
      have hT := Text_ev hok e 9 (by omega)
      rw [rText_off b he] at hT
      have hB := Bool_eq hok e
      rw [rBool_off b he] at hB
      have hE := End_eq b e
      rw [if_neg he] at hE
      refine Ev.bind alive_ev (ev_pos rfl (Ev.bind hV (ev_pos rfl (Ev.bind hT (ev_pos nil (ev_call hB (ev_neg (by simp) (Ev.bind (Fix_off _ he 1) (ev_pos rfl ?_)))))))))
      refine ev_call (Err_eq _ _) (ev_pos rfl (ev_call hE (ev_pos rfl (ev_call (Left_eq _ _) (ev_const ?_)))))
      simp
end Go.Proofs.Ytkpjipfjhniddaa.Pure
