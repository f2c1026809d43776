/- NumShort, in plain numbers: a number has as many bytes as it takes; one that has too many for its place has none. -/
import Derived.Test.YtkpjipfjhniddaaPNumx7
import Derived.Test.YtkpjipfjhniddaaPuNum
namespace Go.Proofs.Ytkpjipfjhniddaa.Pure
open Go Go.RowKit Go.Proofs.Ytkpjipfjhniddaa.PNum Go.Proofs.Ytkpjipfjhniddaa.PuNum Go.Proofs.YtkpjipfjhniddaaW.PrintWords Go.Proofs.YtkpjipfjhniddaaW.PrintLast Go.Proofs.YtkpjipfjhniddaaW.PrintMore Go.Proofs.YtkpjipfjhniddaaW.Pu

theorem short_shl (n : Nat) (h : n < 8) : shl .u64 1 ((8 * n : Nat) : Int) = ((256 ^ n : Nat) : Int) := by
  have : n = 0 ∨ n = 1 ∨ n = 2 ∨ n = 3 ∨ n = 4 ∨ n = 5 ∨ n = 6 ∨ n = 7 := by omega
  rcases this with rfl | rfl | rfl | rfl | rfl | rfl | rfl | rfl <;> decide +kernel
theorem short_end (v : Nat) (n : Int) (s : ByteArray) (c : Int) (u : Nat) (hu : u < 128) (hs : (s.size : Int) = c) (hn : -9223372036854775808 ≤ n ∧ n ≤ 9223372036854775807) :
    Ev (fun k => cornucopialaw1_NumShort.l0 k v n s c u) true := by
  refine Ev.step (fun k => by rw [cornucopialaw1_NumShort.l0]) ?_
  refine ev_neg (by omega) ?_
  have nil : ((⟨#[]⟩ : ByteArray).toList = ([] : List UInt8)) := by rw [toList_data]
  by_cases h8 : n ≥ 8
  · by_cases h9 : n ≤ 8
    · obtain rfl : n = 8 := by omega
      refine Ev.bind (Fix_yes (v := v) (n := 8) (by decide) (by decide) (.inl rfl)) ?_
      refine ev_pos h8 (ev_pos h9 (Ev.bind alive_ev (ev_pos rfl (ev_pos hs (ev_pos rfl (ev_pos ?_ (ev_const rfl)))))))
      rw [S_size, be_len]; rfl
    · refine Ev.bind (Fix_no (v := v) (.inr (.inl (by omega)))) ?_
      refine ev_pos h8 (ev_neg h9 (ev_pos (by omega) (ev_neg (by omega) (Ev.bind alive_ev (ev_pos rfl (ev_pos hs (ev_pos rfl (ev_pos nil (ev_const rfl)))))))))
  · by_cases h1 : n ≥ 1
    · obtain ⟨m, rfl⟩ := Int.eq_ofNat_of_zero_le (show 0 ≤ n by omega)
      have e3 : wrap64 (8 * (m : Int)) = ((8 * m : Nat) : Int) := by rw [wrap64_id (by omega)]; omega
      have e4 := short_shl m (by omega)
      by_cases hf : v < 256 ^ m
      · refine Ev.bind (Fix_yes (v := v) (n := m) (by omega) (by omega) (.inr hf)) ?_
        refine ev_neg h8 (ev_pos h1 (ev_pos (by omega) ?_))
        rw [e3, e4]
        have hd : ((v : Int) < ((256 ^ m : Nat) : Int)) := by exact_mod_cast hf
        refine ev_pos (by omega) (Ev.bind alive_ev (ev_pos rfl (ev_pos hs (ev_pos ?_ (ev_pos hd (ev_pos ?_ (ev_const rfl)))))))
        · rw [decide_eq_true hd]; rfl
        · rw [S_size, be_len]
      · refine Ev.bind (Fix_no (v := v) (n := m) (.inr (.inr ⟨by omega, by omega, by rw [Int.toNat_natCast]; omega⟩))) ?_
        refine ev_neg h8 (ev_pos h1 (ev_pos (by omega) ?_))
        rw [e3, e4]
        have hd : ¬ ((v : Int) < ((256 ^ m : Nat) : Int)) := by intro h; exact hf (by exact_mod_cast h)
        refine ev_pos (by omega) (Ev.bind alive_ev (ev_pos rfl (ev_pos hs (ev_pos ?_ (ev_neg hd (ev_pos nil (ev_const rfl)))))))
        rw [decide_eq_false hd]; rfl
    · refine Ev.bind (Fix_no (v := v) (.inl (by omega))) ?_
      refine ev_neg h8 (ev_neg h1 (Ev.bind alive_ev (ev_pos rfl (ev_pos hs (ev_pos rfl (ev_pos nil (ev_const rfl)))))))
theorem short_loop (v : Nat) (n : Int) (s : ByteArray) (hn : -9223372036854775808 ≤ n ∧ n ≤ 9223372036854775807) (j : Nat) : ∀ (u c : Nat), u < 18446744073709551616 → (vb u).length ≤ j → c + (vb u).length = s.size + 1 → s.size < 100 →
    Ev (fun k => cornucopialaw1_NumShort.l0 k v n s c u) true := by
  induction j with
  | zero => intro u c _ h; have := vb_pos u; omega
  | succ j ih =>
    intro u c hu64 h hc hs
    by_cases hu : u < 128
    · rw [vb_low hu] at hc
      exact short_end v n s c u hu (by simp at hc; omega) hn
    · refine Ev.step (fun k => by rw [cornucopialaw1_NumShort.l0]) ?_
      rw [vb_high hu, List.length_cons] at h hc
      refine ev_pos (by omega) ?_
      rw [wrap64_id (by omega), show IntKind.u64.wrap (Int.tdiv (u : Int) 128) = ((u / 128 : Nat) : Int) from ?_, show ((c : Int) + 1) = ((c + 1 : Nat) : Int) from by omega]
      · exact ih (u / 128) (c + 1) (by omega) (by omega) (by omega) hs
      · rw [Int.tdiv_eq_ediv_of_nonneg (by omega), show ((u : Int) / 128) = ((u / 128 : Nat) : Int) from by omega]
        exact wu64_id ⟨by omega, by omega⟩
theorem NumShort : cornucopialaw1_NumShort.Pure := by
  intro a0 a1 h0 h1
  have g0 := u64_wf h0
  have g1 := i64_wf h1
  obtain ⟨v, rfl⟩ := Int.eq_ofNat_of_zero_le g0.1
  refine Ev.rounds (Ev.congr (fun k => by rw [cornucopialaw1_NumShort.f]) (Ev.bind (Var_ev (l := [(v : Int)]) (by intro x hx; simp at hx; omega) (by simp)) ?_))
  have hv : vbs [(v : Int)] = vb v := by simp [vbs]
  have hl := vb_len10 (n := v) (by omega)
  rw [hv]
  exact short_loop v a1 _ g1 10 v 1 (by omega) hl (by rw [S_size]; omega) (by rw [S_size]; omega)
end Go.Proofs.Ytkpjipfjhniddaa.Pure
