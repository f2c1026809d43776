/- Texts of this claim, put together and cut down to what is used (PuSm). -/
import Derived.Test.YtchgpcgolgcfdaaGreatMgPNumx7
import Derived.Test.YtchgpcgolgcfdaaGreatMgPNumx8
import Derived.Test.YtchgpcgolgcfdaaGreatMgPuIkC
section
namespace Go.Proofs.YtchgpcgolgcfdaaGreat.PuSm
open Go Go.RowKit Go.Proofs.YtchgpcgolgcfdaaGreat.PNum Go.Proofs.YtchgpcgolgcfdaaGreat.PuIkC Go.Proofs.YtchgpcgolgcfdaaGreatW.PrintWords Go.Proofs.YtchgpcgolgcfdaaGreatW.PrintLast Go.Proofs.YtchgpcgolgcfdaaGreatW.PrintMore Go.Proofs.YtchgpcgolgcfdaaGreatW.Pu
theorem at_nat (l : List S32) (i : Nat) (h : i < l.length) : rd_T32 l (i : Int) = l[i] := by
  simp [rd_T32, h]
theorem Small_l0 (l : List S32) (hs : ∀ e ∈ l, e.f0.size ≤ 140737488351232 ∧ e.f3.size ≤ 140737488351232) (d : Nat) : ∀ (i : Nat) (r : Int), i + d = 400 → -1 ≤ r → r ≤ 20000 →
    ∃ b, Ev (fun k => cornucopialaw5_Small.l0 k l r (i : Int)) b ∧ (b = true → l.length ≤ 150) := by
  have leaf : ∀ (i : Nat) (r : Int), ∃ b, Ev (fun _ : Nat => if (l.length : Int) ≤ 150 then (some (decide (r ≥ 0))) else (some false)) b ∧ (b = true → l.length ≤ 150) := by
    intro i r
    by_cases h : (l.length : Int) ≤ 150
    · exact ⟨decide (r ≥ 0), ev_pos h (ev_const rfl), fun _ => by omega⟩
    · exact ⟨false, ev_neg h (ev_const rfl), fun k => by cases k⟩
  induction d with
  | zero =>
    intro i r hi h0 h1
    obtain ⟨b, hb, hl⟩ := leaf i r
    refine ⟨b, Ev.step (fun k => by rw [cornucopialaw5_Small.l0]) ?_, hl⟩
    by_cases h : (i : Int) < (l.length : Int)
    · exact ev_pos h (ev_neg (by omega) hb)
    · exact ev_neg h hb
  | succ d ih =>
    intro i r hi h0 h1
    by_cases h : (i : Int) < (l.length : Int)
    · by_cases hr : r ≥ 0
      · have hlt : i < l.length := by omega
        have hsz := hs l[i] (List.getElem_mem hlt)
        obtain ⟨q, hq, q0, q1⟩ := Room_ev r (l[i].f0.size : Int) (l[i].f3.size : Int) ⟨h0, h1⟩ ⟨by omega, by omega⟩ ⟨by omega, by omega⟩
        obtain ⟨b, hb, hl⟩ := ih (i + 1) q (by omega) q0 q1
        refine ⟨b, Ev.step (fun k => by rw [cornucopialaw5_Small.l0, at_nat l i hlt]) (ev_pos h (ev_pos (by omega) (ev_pos hr (ev_pos (by omega) (Ev.bind hq ?_))))), hl⟩
        rw [wrap64_id (by omega), show ((i : Int) + 1) = ((i + 1 : Nat) : Int) from by omega]
        exact hb
      · obtain ⟨b, hb, hl⟩ := leaf i r
        exact ⟨b, Ev.step (fun k => by rw [cornucopialaw5_Small.l0]) (ev_pos h (ev_pos (by omega) (ev_neg hr hb))), hl⟩
    · obtain ⟨b, hb, hl⟩ := leaf i r
      exact ⟨b, Ev.step (fun k => by rw [cornucopialaw5_Small.l0]) (ev_neg h hb), hl⟩
theorem Small_ev (l : List S32) (hs : ∀ e ∈ l, e.f0.size ≤ 140737488351232 ∧ e.f3.size ≤ 140737488351232) : ∃ b, Ev (fun k => cornucopialaw5_Small.f k l) b ∧ (b = true → l.length ≤ 150) := by
  obtain ⟨b, hb, hl⟩ := Small_l0 l hs 400 0 20000 (by omega) (by omega) (by omega)
  exact ⟨b, Ev.congr (fun k => by rw [cornucopialaw5_Small.f]; rfl) hb, hl⟩
end Go.Proofs.YtchgpcgolgcfdaaGreat.PuSm
end
