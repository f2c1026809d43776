/- IkeyBack, in plain numbers: versions as bytes, and the law. -/
import Derived.Test.YtkpjipfjhniddaaPNumx33
import Derived.Test.YtkpjipfjhniddaaPNumx34
import Derived.Test.YtkpjipfjhniddaaPNumx35
import Derived.Test.YtkpjipfjhniddaaPNumx36
import Derived.Test.YtkpjipfjhniddaaPuIk
namespace Go.Proofs.Ytkpjipfjhniddaa.PuIkB
open Go Go.RowKit Go.Proofs.Ytkpjipfjhniddaa.PNum Go.Proofs.Ytkpjipfjhniddaa.PuNum Go.Proofs.Ytkpjipfjhniddaa.PuRead Go.Proofs.Ytkpjipfjhniddaa.PuNum2 Go.Proofs.Ytkpjipfjhniddaa.PuIk Go.Proofs.YtkpjipfjhniddaaW.PrintWords Go.Proofs.YtkpjipfjhniddaaW.PrintLast Go.Proofs.YtkpjipfjhniddaaW.PrintMore Go.Proofs.YtkpjipfjhniddaaW.Pu
theorem Small_l0 (l : List S29) (hs : ∀ e ∈ l, e.f0.size ≤ 140737488351232 ∧ e.f3.size ≤ 140737488351232) (d : Nat) : ∀ (i : Nat) (r : Int), i + d = 400 → -1 ≤ r → r ≤ 20000 →
    ∃ b, Ev (fun k => cornucopialaw5_Small.l0 k l r (i : Int)) b ∧ (b = true → l.length ≤ 150) := by
  have leaf : ∀ (i : Nat) (r : Int), ∃ b, Ev (fun _ : Nat => if (l.length : Int) ≤ 150 then (some (decide (r ≥ 0))) else (some false)) b ∧ (b = true → l.length ≤ 150) := by
    intro i r
    by_cases h : (l.length : Int) ≤ 150
    · exact ⟨decide (r ≥ 0), ev_pos h (ev_const rfl), fun _ => by omega⟩
    · exact ⟨false, ev_neg h (ev_const rfl), fun k => by cases k⟩
  induction d with
  | zero =>
    intro i r hi h0 h1
    obtain ⟨b, hb, hl⟩ := leaf i r
    refine ⟨b, Ev.step (fun k => by rw [cornucopialaw5_Small.l0]) ?_, hl⟩
    by_cases h : (i : Int) < (l.length : Int)
    · exact ev_pos h (ev_neg (by omega) hb)
    · exact ev_neg h hb
  | succ d ih =>
    intro i r hi h0 h1
    by_cases h : (i : Int) < (l.length : Int)
    · by_cases hr : r ≥ 0
      · have hlt : i < l.length := by omega
        have hsz := hs l[i] (List.getElem_mem hlt)
        obtain ⟨q, hq, q0, q1⟩ := Room_ev r (l[i].f0.size : Int) (l[i].f3.size : Int) ⟨h0, h1⟩ ⟨by omega, by omega⟩ ⟨by omega, by omega⟩
        obtain ⟨b, hb, hl⟩ := ih (i + 1) q (by omega) q0 q1
        refine ⟨b, Ev.step (fun k => by rw [cornucopialaw5_Small.l0, at_nat l i hlt]) (ev_pos h (ev_pos (by omega) (ev_pos hr (ev_pos (by omega) (Ev.bind hq ?_))))), hl⟩
        rw [wrap64_id (by omega), show ((i : Int) + 1) = ((i + 1 : Nat) : Int) from by omega]
        exact hb
      · obtain ⟨b, hb, hl⟩ := leaf i r
        exact ⟨b, Ev.step (fun k => by rw [cornucopialaw5_Small.l0]) (ev_pos h (ev_pos (by omega) (ev_neg hr hb))), hl⟩
    · obtain ⟨b, hb, hl⟩ := leaf i r
      exact ⟨b, Ev.step (fun k => by rw [cornucopialaw5_Small.l0]) (ev_neg h hb), hl⟩
theorem Small_ev (l : List S29) (hs : ∀ e ∈ l, e.f0.size ≤ 140737488351232 ∧ e.f3.size ≤ 140737488351232) : ∃ b, Ev (fun k => cornucopialaw5_Small.f k l) b ∧ (b = true → l.length ≤ 150) := by
  obtain ⟨b, hb, hl⟩ := Small_l0 l hs 400 0 20000 (by omega) (by omega) (by omega)
  exact ⟨b, Ev.congr (fun k => by rw [cornucopialaw5_Small.f]; rfl) hb, hl⟩
theorem valid_sizes {a0 : ByteArray} {a2 : Int} {a3 : ByteArray} (h : valid a0 a2 a3 = true) : (a0.size : Int) ≤ 300 ∧ (a3.size : Int) ≤ 60000 ∧ (a2 = 2 ∨ a2 = 1) := by
  unfold valid at h
  have h := of_decide_eq_true h
  refine ⟨h.1, h.2.1, ?_⟩
  by_cases k : a2 = 2
  · exact .inl k
  · have := h.2.2
    rw [if_neg k] at this
    exact .inr this
/-- The bytes of a right version. -/
def pb (a0 : ByteArray) (a1 a2 : Int) (a3 : ByteArray) : List Int := (vb a0.size ++ bytesOf a0) ++ (vb a1.toNat ++ (vb a2.toNat ++ ((vb a3.size ++ bytesOf a3) ++ [])))
theorem pb_ok (a0 : ByteArray) (a1 a2 : Int) (a3 : ByteArray) : ok8 (pb a0 a1 a2 a3) :=
  ok8_append (ok8_append (vb_ok _) (ok8_of _)) (ok8_append (vb_ok _) (ok8_append (vb_ok _) (ok8_append (ok8_append (vb_ok _) (ok8_of _)) ok8_nil)))
theorem pb_len {a0 : ByteArray} {a1 a2 : Int} {a3 : ByteArray} (h1 : a1 ≤ 18446744073709551615) (h : valid a0 a2 a3 = true) : (pb a0 a1 a2 a3).length ≤ 70000 := by
  have hv := valid_sizes h
  have n1 := vb_len10 (n := a0.size) (by omega)
  have n2 := vb_len10 (n := a1.toNat) (by omega)
  have n3 := vb_len10 (n := a2.toNat) (by omega)
  have n4 := vb_len10 (n := a3.size) (by omega)
  have b0 := bytesOf_length a0
  have b3 := bytesOf_length a3
  unfold pb
  simp only [List.length_append, List.length_nil]
  omega
theorem Put_ev (a0 : ByteArray) (a1 a2 : Int) (a3 : ByteArray) (h0 : 0 ≤ a1) (h1 : a1 ≤ 18446744073709551615) : Ev (fun k => ikey_Put.f k a0 a1 a2 a3) (if valid a0 a2 a3 = true then (strOfNums (pb a0 a1 a2 a3), 0) else (⟨#[]⟩, 1)) := by
  refine Ev.congr (fun k => by rw [ikey_Put.f]) (Ev.bind (Valid_ev a0 a1 a2 a3) ?_)
  by_cases h : valid a0 a2 a3 = true
  · rw [if_pos h]
    refine ev_pos h ?_
    have hv := valid_sizes h
    have hw : IntKind.u64.wrap a2 = a2 := wu64_id (by omega)
    have hl := pb_len h1 h
    have t0 := PuNum2.Text_ev [a0] (by show a0.size + 10 + 0 < _; omega)
    have t3 := PuNum2.Text_ev [a3] (by show a3.size + 10 + 0 < _; omega)
    have hvv := PuNum.Var_ev (l := [a1, a2]) (by intro x hx; simp at hx; omega) (by simp)
    rw [hw]
    have e0 : tx [a0] = vb a0.size ++ bytesOf a0 := by simp [tx]
    have e3 : tx [a3] = vb a3.size ++ bytesOf a3 := by simp [tx]
    have e1 : vbs [a1, a2] = vb a1.toNat ++ vb a2.toNat := by simp [vbs]
    rw [e0] at t0
    rw [e3] at t3
    rw [e1] at hvv
    have hpb : pb a0 a1 a2 a3 = ((vb a0.size ++ bytesOf a0) ++ (vb a1.toNat ++ vb a2.toNat)) ++ (vb a3.size ++ bytesOf a3) := by simp [pb]
    have hl2 := hl
    rw [hpb, List.length_append] at hl2
    refine Ev.bind t0 (Ev.bind hvv (ev_pos ?_ (Ev.bind t3 (ev_pos ?_ (ev_const ?_)))))
    · rw [S_size, S_size, ← List.length_append]; omega
    · rw [S_append, S_size, S_size]; omega
    · rw [S_append, S_append, hpb]
  · rw [if_neg h]
    exact ev_neg h (ev_const rfl)
theorem Clone_eq (s : ByteArray) (h : s.size ≤ 281474976710656) : strings_Clone.f s = some s := by
  simp [strings_Clone.f, stringslite_Clone.f, h]
theorem Get_ev (a0 : ByteArray) (a1 a2 : Int) (a3 : ByteArray) (h0 : 0 ≤ a1) (h1 : a1 ≤ 18446744073709551615) (h : valid a0 a2 a3 = true) : Ev (fun k => ikey_Get.f k (strOfNums (pb a0 a1 a2 a3)) 0) (a0, a1, a2, a3, strOfNums [], 0) := by
  have hv := valid_sizes h
  have k4 : ok8 ((vb a3.size ++ bytesOf a3) ++ []) := ok8_append (ok8_append (vb_ok _) (ok8_of _)) ok8_nil
  have k3 : ok8 (vb a2.toNat ++ ((vb a3.size ++ bytesOf a3) ++ [])) := ok8_append (vb_ok _) k4
  have k2 : ok8 (vb a1.toNat ++ (vb a2.toNat ++ ((vb a3.size ++ bytesOf a3) ++ []))) := ok8_append (vb_ok _) k3
  have g1 := PuRead.Text_ev (pb_ok a0 a1 a2 a3) 0 300 (by omega)
  rw [show rText (pb a0 a1 a2 a3) 0 300 = _ from rText_tx (s := a0) (most := 300) (by omega) (by omega) _, S_of] at g1
  have g2 := PuRead.Var_ev k2 0
  rw [rVar_vb (by omega)] at g2
  have g3 := PuRead.Var_ev k3 0
  rw [rVar_vb (by omega)] at g3
  have g4 := PuRead.Text_ev k4 0 60000 (by omega)
  rw [rText_tx (by omega) (by omega), S_of] at g4
  have z1 : ((a1.toNat : Nat) : Int) = a1 := by omega
  have z2 : ((a2.toNat : Nat) : Int) = a2 := by omega
  rw [z1] at g2
  rw [z2] at g3
  refine Ev.congr (fun k => by rw [ikey_Get.f]) (Ev.bind g1 (ev_call (Clone_eq a0 (by omega)) (Ev.bind g2 (Ev.bind g3 (ev_pos (by show a2 ≤ 2; omega) ?_)))))
  rw [show wrap64 a2 = a2 from wrap64_id (by omega)]
  refine Ev.step (fun k => by rw [ikey_Get.j0]) (Ev.bind g4 (ev_call (Clone_eq a3 (by omega)) (Ev.bind (Valid_ev a0 a1 a2 a3) (ev_pos h (ev_call (Err_eq _ _) (ev_pos rfl (ev_const rfl)))))))
end Go.Proofs.Ytkpjipfjhniddaa.PuIkB

namespace Go.Proofs.Ytkpjipfjhniddaa.Pure
open Go Go.RowKit Go.Proofs.Ytkpjipfjhniddaa.PNum Go.Proofs.Ytkpjipfjhniddaa.PuNum Go.Proofs.Ytkpjipfjhniddaa.PuRead Go.Proofs.Ytkpjipfjhniddaa.PuNum2 Go.Proofs.Ytkpjipfjhniddaa.PuIk Go.Proofs.Ytkpjipfjhniddaa.PuIkB Go.Proofs.YtkpjipfjhniddaaW.PrintWords Go.Proofs.YtkpjipfjhniddaaW.PrintLast Go.Proofs.YtkpjipfjhniddaaW.PrintMore Go.Proofs.YtkpjipfjhniddaaW.Pu
theorem IkeyBack : cornucopialaw5_IkeyBack.Pure := by
  intro a ha
  have w1 := u64_wf ha.2.1
  refine Ev.rounds (Ev.congr (fun k => by rw [cornucopialaw5_IkeyBack.f]) ?_)
  obtain ⟨b, hb, _⟩ := Small_ev [a] (by intro e he; rw [List.mem_singleton] at he; subst he; exact ⟨ha.1, ha.2.2.2⟩)
  refine Ev.bind hb ?_
  cases b with
  | false => exact ev_neg (by simp) (Ev.bind alive_ev (ev_const rfl))
  | true =>
    refine ev_pos rfl ?_
    have hp := Put_ev a.f0 a.f1 a.f2 a.f3 w1.1 w1.2
    have hv := Valid_ev a.f0 a.f1 a.f2 a.f3
    by_cases h : valid a.f0 a.f2 a.f3 = true
    · rw [if_pos h] at hp
      rw [h] at hv
      have hl := pb_len w1.2 h
      refine Ev.bind hp (ev_pos rfl (ev_call (New_eq _ (by rw [S_size]; omega)) (Ev.bind alive_ev (ev_pos rfl (Ev.bind (Get_ev a.f0 a.f1 a.f2 a.f3 w1.1 w1.2 h) (ev_pos (by simp) (ev_call (End_eq _ _) (ev_pos rfl (Ev.bind hv (ev_const rfl))))))))))
    · rw [if_neg h] at hp
      rw [Bool.eq_false_iff.mpr h] at hv
      refine Ev.bind hp (ev_neg (by decide) (Ev.bind alive_ev (ev_pos rfl (ev_pos rfl (ev_pos nil_toList (Ev.bind hv (ev_const rfl)))))))
end Go.Proofs.Ytkpjipfjhniddaa.Pure
