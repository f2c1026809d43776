/- NumDigits, in plain numbers: a number's digits are read as it was, if they are few enough; two numbers have the same digits just if they are the same. -/
import Derived.Test.YtkpjipfjhniddaaPNumx10
import Derived.Test.YtkpjipfjhniddaaPuNum
import Derived.Test.YtkpjipfjhniddaaPuDig
namespace Go.Proofs.Ytkpjipfjhniddaa.Pure
open Go Go.RowKit Go.Proofs.Ytkpjipfjhniddaa.PNum Go.Proofs.Ytkpjipfjhniddaa.PuNum Go.Proofs.Ytkpjipfjhniddaa.PuDig Go.Proofs.YtkpjipfjhniddaaW.PrintWords Go.Proofs.YtkpjipfjhniddaaW.PrintLast Go.Proofs.YtkpjipfjhniddaaW.PrintMore Go.Proofs.YtkpjipfjhniddaaW.Pu
theorem NumDigits : cornucopialaw1_NumDigits.Pure := by
  intro a0 a1 h0 h1
  have g0 := i64_wf h0
  have g1 := i64_wf h1
  refine Ev.rounds (Ev.congr (fun k => by rw [cornucopialaw1_NumDigits.f]) (ev_call (Digits_eq g0) (Ev.bind Number_D ?_)))
  by_cases hf : -1000000000000000000 < a0 ∧ a0 < 1000000000000000000
  · simp only [if_pos hf]
    refine ev_pos (by omega) (Ev.bind alive_ev (ev_pos rfl (ev_pos ?_ (ev_pos hf.2 (ev_pos trivial (ev_call (Digits_eq g0) (ev_call (Digits_eq g1) (ev_const ?_))))))))
    · rw [decide_eq_true hf.2]; rfl
    · rw [Digits_cmp]; simp
  · simp only [if_neg hf]
    by_cases hp : a0 > -1000000000000000000
    · have hq : ¬ a0 < 1000000000000000000 := by omega
      refine ev_pos hp (Ev.bind alive_ev (ev_pos rfl (ev_pos ?_ (ev_neg hq (ev_call (Digits_eq g0) (ev_call (Digits_eq g1) (ev_const ?_)))))))
      · rw [decide_eq_false hq]; rfl
      · rw [Digits_cmp]; simp
    · refine ev_neg hp (Ev.bind alive_ev (ev_pos rfl (ev_pos rfl (ev_call (Digits_eq g0) (ev_call (Digits_eq g1) (ev_const ?_))))))
      rw [Digits_cmp]; simp
end Go.Proofs.Ytkpjipfjhniddaa.Pure
