/- IkeyOrder, in plain numbers. -/
import Derived.Test.YtkpjipfjhniddaaPNumx32
import Derived.Test.YtkpjipfjhniddaaPuIk
namespace Go.Proofs.Ytkpjipfjhniddaa.Pure
open Go Go.RowKit Go.Proofs.Ytkpjipfjhniddaa.PNum Go.Proofs.Ytkpjipfjhniddaa.PuIk Go.Proofs.YtkpjipfjhniddaaW.PrintWords Go.Proofs.YtkpjipfjhniddaaW.PrintLast Go.Proofs.YtkpjipfjhniddaaW.PrintMore Go.Proofs.YtkpjipfjhniddaaW.Pu
theorem order_last (a b : S29) : Ev (fun k => (cornucopialaw5_alive.f k).bind fun t => (if t = true then (if a.f0.toList = b.f0.toList then (some ((decide (ce a b < 0)) == (decide (a.f1 > b.f1)))) else (some true)) else (none))) true := by
  refine Ev.bind alive_ev (ev_pos rfl ?_)
  by_cases h : a.f0 = b.f0
  · refine ev_pos (tl_ext.2 h) (ev_const ?_)
    refine congrArg some ?_
    have hz : cb a.f0 b.f0 = 0 := (cb_zero _ _).2 h
    rw [beq_iff_eq]
    refine decide_eq_decide.2 ?_
    unfold ce
    rw [if_pos hz]
    unfold cs
    split
    · omega
    · split <;> omega
  · exact ev_neg (fun k => h (tl_ext.1 k)) (ev_const rfl)
theorem order_end (a b c : S29) : Ev (fun k => cornucopialaw5_IkeyOrder.j1 k (ce a b) (ce b c) (ce a c) false a.f0 a.f1 a.f2 a.f3 b.f0 b.f1 b.f2 b.f3) true := by
  have hl := order_last a b
  refine Ev.step (fun k => by rw [cornucopialaw5_IkeyOrder.j1]) (ev_neg (by simp) ?_)
  have r1 := ce_range a b
  have r2 := ce_range b c
  have heq : ce a b = 0 → ce b c = ce a c := fun h => by
    have := (ce_zero a b).1 h
    exact (ce_same this.1 c this.2).symm
  by_cases h1 : ce a b < 0
  · refine ev_pos h1 ?_
    by_cases h2 : ce b c < 0
    · have h3 : ce a c = -1 := ce_trans (b := b) (by omega) (by omega)
      exact ev_pos h2 (ev_neg (by omega) (ev_neg (by omega) hl))
    · exact ev_neg h2 (ev_neg (by omega) hl)
  · refine ev_neg h1 ?_
    by_cases h2 : ce a b = 0
    · exact ev_pos h2 (ev_pos (heq h2) hl)
    · exact ev_neg h2 hl
theorem IkeyOrder : cornucopialaw5_IkeyOrder.Pure := by
  intro a b c ha hb hc
  refine Ev.rounds (Ev.congr (fun k => by rw [cornucopialaw5_IkeyOrder.f]) ?_)
  have hskip : Ev (fun k => cornucopialaw5_IkeyOrder.j0 k true a.f0 a.f1 a.f2 a.f3 b.f0 b.f1 b.f2 b.f3 c.f0 c.f1 c.f2 c.f3) true :=
    Ev.step (fun k => by rw [cornucopialaw5_IkeyOrder.j0]) (ev_pos rfl (Ev.bind alive_ev (ev_const rfl)))
  have hgo : Ev (fun k => cornucopialaw5_IkeyOrder.j0 k false a.f0 a.f1 a.f2 a.f3 b.f0 b.f1 b.f2 b.f3 c.f0 c.f1 c.f2 c.f3) true := by
    refine Ev.step (fun k => by rw [cornucopialaw5_IkeyOrder.j0]) (ev_neg (by simp) ?_)
    refine Ev.bind (Compare_ev a b) (Ev.bind (Compare_ev b c) (Ev.bind (Compare_ev a c) (Ev.bind (Compare_ev b a) ?_)))
    refine ev_pos ?_ (Ev.bind (Compare_ev a a) (ev_pos ((ce_zero a a).2 ⟨rfl, rfl⟩) ?_))
    · have r := ce_range b a
      rw [wrap64_id (by omega)]
      exact ce_neg a b
    · have hend := order_end a b c
      by_cases h : a.f0 = b.f0
      · refine ev_pos (tl_ext.2 h) ?_
        have : ((ce a b == 0) != (a.f1 == b.f1)) = false := by
          rw [bne_eq_false_iff_eq, Bool.eq_iff_iff, beq_iff_eq, beq_iff_eq, ce_zero]
          exact ⟨fun k => k.2, fun k => ⟨h, k⟩⟩
        rw [this]
        exact hend
      · refine ev_neg (fun k => h (tl_ext.1 k)) ?_
        have : ((ce a b == 0) != false) = false := by
          rw [bne_eq_false_iff_eq, beq_eq_false_iff_ne]
          exact fun k => h ((ce_zero a b).1 k).1
        rw [this]
        exact hend
  by_cases h1 : (a.f0.size : Int) > 300
  · exact ev_pos h1 hskip
  · refine ev_neg h1 ?_
    by_cases h2 : (b.f0.size : Int) > 300
    · exact ev_pos h2 hskip
    · refine ev_neg h2 ?_
      by_cases h3 : (c.f0.size : Int) > 300
      · rw [decide_eq_true h3]; exact hskip
      · rw [decide_eq_false h3]; exact hgo
end Go.Proofs.Ytkpjipfjhniddaa.Pure
