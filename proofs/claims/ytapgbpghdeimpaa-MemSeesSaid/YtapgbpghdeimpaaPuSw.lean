/- Lists of versions that are small: the test tells yes or no, and a list that it lets in is short. -/
import Derived.Test.YtapgbpghdeimpaaPNumx2
import Derived.Test.YtapgbpghdeimpaaPNumx3
import Derived.Test.YtapgbpghdeimpaaPuIkC
namespace Go.Proofs.Ytapgbpghdeimpaa.PuSw
open Go Go.RowKit Go.Proofs.Ytapgbpghdeimpaa.PNum Go.Proofs.Ytapgbpghdeimpaa.PuIkC Go.Proofs.YtapgbpghdeimpaaW.PrintWords Go.Proofs.YtapgbpghdeimpaaW.PrintLast Go.Proofs.YtapgbpghdeimpaaW.PrintMore Go.Proofs.YtapgbpghdeimpaaW.Pu
theorem at_nat (l : List S32) (i : Nat) (h : i < l.length) : rd_T32 l (i : Int) = l[i] := by
  simp [rd_T32, h]
theorem SmallW_l0 (l : List S32) (hs : ∀ e ∈ l, e.f0.size ≤ 140737488351232 ∧ e.f1.size ≤ 140737488351232) (d : Nat) : ∀ (i : Nat) (r : Int), i + d = 200 → -1 ≤ r → r ≤ 20000 →
    ∃ b, Ev (fun k => cornucopialaw6_SmallWrites.l0 k l r (i : Int)) b ∧ (b = true → l.length ≤ 60) := by
  have leaf : ∀ (i : Nat) (r : Int), ∃ b, Ev (fun _ : Nat => if (l.length : Int) ≤ 60 then (some (decide (r ≥ 0))) else (some false)) b ∧ (b = true → l.length ≤ 60) := by
    intro i r
    by_cases h : (l.length : Int) ≤ 60
    · exact ⟨decide (r ≥ 0), ev_pos h (ev_const rfl), fun _ => by omega⟩
    · exact ⟨false, ev_neg h (ev_const rfl), fun k => by cases k⟩
  induction d with
  | zero =>
    intro i r hi h0 h1
    obtain ⟨b, hb, hl⟩ := leaf i r
    refine ⟨b, Ev.step (fun k => by rw [cornucopialaw6_SmallWrites.l0]) ?_, hl⟩
    by_cases h : (i : Int) < (l.length : Int)
    · exact ev_pos h (ev_neg (by omega) hb)
    · exact ev_neg h hb
  | succ d ih =>
    intro i r hi h0 h1
    by_cases h : (i : Int) < (l.length : Int)
    · by_cases hr : r ≥ 0
      · have hlt : i < l.length := by omega
        have hsz := hs l[i] (List.getElem_mem hlt)
        obtain ⟨q, hq, q0, q1⟩ := Room_ev r (l[i].f0.size : Int) (l[i].f1.size : Int) ⟨h0, h1⟩ ⟨by omega, by omega⟩ ⟨by omega, by omega⟩
        obtain ⟨b, hb, hl⟩ := ih (i + 1) q (by omega) q0 q1
        refine ⟨b, Ev.step (fun k => by rw [cornucopialaw6_SmallWrites.l0, at_nat l i hlt]) (ev_pos h (ev_pos (by omega) (ev_pos hr (ev_pos (by omega) (Ev.bind hq ?_))))), hl⟩
        rw [wrap64_id (by omega), show ((i : Int) + 1) = ((i + 1 : Nat) : Int) from by omega]
        exact hb
      · obtain ⟨b, hb, hl⟩ := leaf i r
        exact ⟨b, Ev.step (fun k => by rw [cornucopialaw6_SmallWrites.l0]) (ev_pos h (ev_pos (by omega) (ev_neg hr hb))), hl⟩
    · obtain ⟨b, hb, hl⟩ := leaf i r
      exact ⟨b, Ev.step (fun k => by rw [cornucopialaw6_SmallWrites.l0]) (ev_neg h hb), hl⟩
theorem SmallW_ev (l : List S32) (hs : ∀ e ∈ l, e.f0.size ≤ 140737488351232 ∧ e.f1.size ≤ 140737488351232) : ∃ b, Ev (fun k => cornucopialaw6_SmallWrites.f k l) b ∧ (b = true → l.length ≤ 60) := by
  obtain ⟨b, hb, hl⟩ := SmallW_l0 l hs 200 0 9000 (by omega) (by omega) (by omega)
  exact ⟨b, Ev.congr (fun k => by rw [cornucopialaw6_SmallWrites.f]; rfl) hb, hl⟩
end Go.Proofs.Ytapgbpghdeimpaa.PuSw
