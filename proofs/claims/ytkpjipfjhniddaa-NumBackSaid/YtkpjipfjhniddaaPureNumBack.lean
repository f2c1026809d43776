/- NumBack, in plain numbers: what is laid is read as it was; a number is laid in one way alone; of one length the order of bytes is that of the numbers. -/
import Derived.Test.YtkpjipfjhniddaaPNumx19
import Derived.Test.YtkpjipfjhniddaaPuNum
import Derived.Test.YtkpjipfjhniddaaPuRead
import Derived.Test.YtkpjipfjhniddaaPuNum2
namespace Go.Proofs.Ytkpjipfjhniddaa.Pure
open Go Go.RowKit Go.Proofs.Ytkpjipfjhniddaa.PNum Go.Proofs.Ytkpjipfjhniddaa.PuNum Go.Proofs.Ytkpjipfjhniddaa.PuRead Go.Proofs.Ytkpjipfjhniddaa.PuNum2 Go.Proofs.YtkpjipfjhniddaaW.PrintWords Go.Proofs.YtkpjipfjhniddaaW.PrintLast Go.Proofs.YtkpjipfjhniddaaW.PrintMore Go.Proofs.YtkpjipfjhniddaaW.Pu
theorem back_end (a b : Nat) (ha : a < 18446744073709551616) (hb : b < 18446744073709551616) : Ev (fun k => cornucopialaw1_NumBack.j4 k (a : Int) (b : Int) false) true := by
  refine Ev.step (fun k => by rw [cornucopialaw1_NumBack.j4]) (ev_neg (by simp) ?_)
  refine Ev.bind (Fix_yes (v := a) (n := 8) (by decide) (by decide) (.inl rfl)) (Ev.bind (Fix_yes (v := b) (n := 8) (by decide) (by decide) (.inl rfl)) ?_)
  have hU := Unfix_yes (strOfNums (be 8 a)) 0 8 (by decide) (by decide) (by rw [S_size, be_len]; decide) (by rw [S_size, be_len]; decide)
  rw [of_S (be_ok 8 a), List.drop_zero, List.take_of_length_le (by rw [be_len]; decide), un_be 8 a (by simpa using ha)] at hU
  refine Ev.bind hU (Ev.bind alive_ev (ev_pos rfl (ev_pos rfl (ev_pos rfl (ev_pos rfl (ev_pos rfl (ev_pos ?_ ?_)))))))
  · simp only [S_B]
    rw [less_be 8 a b (by simpa using ha) (by simpa using hb)]
    rw [show decide (a < b) = decide ((a : Int) < (b : Int)) from decide_eq_decide.2 (by omega)]
    simp
  · have hv : ∀ n : Nat, n < 18446744073709551616 → Ev (fun k => num_Var.f k [(n : Int)]) (strOfNums (vb n)) := by
      intro n hn
      have := Var_ev (l := [(n : Int)]) (by intro x hx; simp at hx; omega) (by simp)
      simpa [vbs] using this
    refine Ev.bind (hv a ha) (Ev.bind (hv b hb) (ev_const ?_))
    simp only [S_B]
    refine congrArg some ?_
    have : (B (vb a) == B (vb b)) = ((a : Int) == (b : Int)) := by
      rw [Bool.eq_iff_iff, beq_iff_eq, beq_iff_eq]
      refine ⟨fun h => ?_, fun h => ?_⟩
      · have := vb_inj (B_inj (vb_ok a) (vb_ok b) h)
        omega
      · rw [show a = b from by omega]
    rw [this]
    simp
theorem back_texts (l : List ByteArray) (i : Int) (a b : Nat) (ha : a < 18446744073709551616) (hb : b < 18446744073709551616) (hs : ∀ s ∈ l, s.size ≤ 6000) (hl : l.length ≤ 100) (d : Nat) : ∀ j, j + d = l.length →
    Ev (fun k => cornucopialaw1_NumBack.l1 k i l (a : Int) (b : Int) (j : Int) (strOfNums (tx (l.drop j) ++ [if i > 0 then 1 else 0])) 0) true := by
  induction d with
  | zero =>
    intro j hj
    refine Ev.step (fun k => by rw [cornucopialaw1_NumBack.l1]) (ev_neg (by omega) ?_)
    rw [List.drop_of_length_le (by omega)]
    have hok : ok8 (tx [] ++ [if i > 0 then 1 else 0]) := by
      simp only [tx, List.flatMap_nil, List.nil_append]
      exact ok8_cons (by split <;> omega) ok8_nil
    have hB := Bool_eq hok 0
    have hr : rBool (tx [] ++ [if i > 0 then 1 else 0]) 0 = (decide (i > 0), [], 0) := by
      simp only [tx, List.flatMap_nil, List.nil_append, rBool, if_true]
      by_cases h : i > 0
      · rw [if_pos h, decide_eq_true h]; rfl
      · rw [if_neg h, decide_eq_false h]; rfl
    rw [hr] at hB
    refine ev_call hB (ev_neg (by simp) (ev_call (End_eq _ _) ?_))
    exact back_end a b ha hb
  | succ d ih =>
    intro j hj
    have hlt : j < l.length := by omega
    have hd : l.drop j = l[j] :: l.drop (j + 1) := List.drop_eq_getElem_cons hlt
    have hsz := hs l[j] (List.getElem_mem hlt)
    refine Ev.step (fun k => by rw [cornucopialaw1_NumBack.l1, rdOf_nat l j hlt]) (ev_pos (by omega) ?_)
    rw [hd, tx_cons]
    have hok : ok8 ((vb l[j].size ++ bytesOf l[j]) ++ (tx (l.drop (j + 1)) ++ [if i > 0 then 1 else 0])) :=
      ok8_append (ok8_append (vb_ok _) (ok8_of _)) (ok8_append (tx_ok _) (ok8_cons (by split <;> omega) ok8_nil))
    have hT := Text_ev hok 0 6000 (by omega)
    rw [rText_tx (by omega) (by omega), S_of] at hT
    rw [List.append_assoc]
    refine Ev.bind hT (ev_pos (by omega) (ev_pos rfl ?_))
    rw [wrap64_id (by omega), show ((j : Int) + 1) = ((j + 1 : Nat) : Int) from by omega]
    exact ih (j + 1) (by omega)
theorem back_nums (l : List Int) (hl : u64s l) (hlen : l.length ≤ 300) (i : Int) (hi : -9223372036854775808 ≤ i ∧ i ≤ 9223372036854775807) (t : List ByteArray) (a b : Nat) (ha : a < 18446744073709551616) (hb : b < 18446744073709551616)
    (hs : ∀ s ∈ t, s.size ≤ 6000) (ht : t.length ≤ 100) (d : Nat) : ∀ j, j + d = l.length →
    Ev (fun k => cornucopialaw1_NumBack.l0 k l i t (a : Int) (b : Int) (j : Int) (strOfNums (vbs (l.drop j) ++ (vb (zig i).toNat ++ (tx t ++ [if i > 0 then 1 else 0])))) 0) true := by
  have hz := zig_range hi
  have hlast : ok8 (tx t ++ [if i > 0 then 1 else 0]) := ok8_append (tx_ok _) (ok8_cons (by split <;> omega) ok8_nil)
  induction d with
  | zero =>
    intro j hj
    refine Ev.step (fun k => by rw [cornucopialaw1_NumBack.l0]) (ev_neg (by omega) ?_)
    rw [List.drop_of_length_le (by omega)]
    have hV := PuRead.Var_ev (b := vb (zig i).toNat ++ (tx t ++ [if i > 0 then 1 else 0])) (ok8_append (vb_ok _) hlast) 0
    rw [rVar_vb (by omega)] at hV
    rw [show vbs [] ++ (vb (zig i).toNat ++ (tx t ++ [if i > 0 then 1 else 0])) = vb (zig i).toNat ++ (tx t ++ [if i > 0 then 1 else 0]) from rfl]
    have e1 : (((zig i).toNat : Nat) : Int) = zig i := by omega
    rw [e1] at hV
    have hI : Ev (fun k => num_Reader_Int.f k (strOfNums (vb (zig i).toNat ++ (tx t ++ [if i > 0 then 1 else 0]))) 0) (i, strOfNums (tx t ++ [if i > 0 then 1 else 0]), 0) := by
      refine Ev.congr (fun k => by rw [num_Reader_Int.f]) (Ev.bind hV (ev_call (Zag_eq hz) (ev_const ?_)))
      rw [zag_zig]
    refine Ev.bind hI (ev_pos rfl (ev_call (Zig_eq hi) (ev_call (Zag_eq hz) ?_)))
    rw [zag_zig]
    have hza := zag_range (u := (a : Int)) ⟨by omega, by omega⟩
    refine ev_pos rfl (ev_call (Zag_eq ⟨by omega, by omega⟩) (ev_call (Zig_eq hza) ?_))
    rw [zig_zag (by omega), show ((a : Int) != (a : Int)) = false from by simp]
    refine Ev.step (fun k => by rw [cornucopialaw1_NumBack.j2]) (ev_neg (by simp) ?_)
    have := back_texts t i a b ha hb hs ht t.length 0 (by omega)
    simpa using this
  | succ d ih =>
    intro j hj
    have hlt : j < l.length := by omega
    have hx := hl l[j] (List.getElem_mem hlt)
    have hd : l.drop j = l[j] :: l.drop (j + 1) := List.drop_eq_getElem_cons hlt
    refine Ev.step (fun k => by rw [cornucopialaw1_NumBack.l0, rd_nat l j hlt]) (ev_pos (by omega) ?_)
    rw [hd, vbs_cons, List.append_assoc]
    have hV := PuRead.Var_ev (b := vb l[j].toNat ++ (vbs (l.drop (j + 1)) ++ (vb (zig i).toNat ++ (tx t ++ [if i > 0 then 1 else 0])))) (ok8_append (vb_ok _) (ok8_append vbs_ok (ok8_append (vb_ok _) hlast))) 0
    rw [rVar_vb (by omega)] at hV
    refine Ev.bind hV (ev_pos (by omega) (ev_pos (by simp only; omega) ?_))
    rw [wrap64_id (by omega), show ((j : Int) + 1) = ((j + 1 : Nat) : Int) from by omega]
    exact ih (j + 1) (by omega)
theorem NumBack : cornucopialaw1_NumBack.Pure := by
  intro l0 a1 l2 a3 a4 h0 h0w h1 h2 h2w h3 h4
  have g1 := i64_wf h1
  have g3 := u64_wf h3
  have g4 := u64_wf h4
  obtain ⟨a, rfl⟩ := Int.eq_ofNat_of_zero_le g3.1
  obtain ⟨b, rfl⟩ := Int.eq_ofNat_of_zero_le g4.1
  have hl : u64s l0 := fun x hx => u64_wf (h0w x hx)
  refine Ev.rounds (Ev.congr (fun k => by rw [cornucopialaw1_NumBack.f]) ?_)
  have hskip : Ev (fun k => cornucopialaw1_NumBack.j0 k l0 a1 l2 (a : Int) (b : Int) true) true :=
    Ev.step (fun k => by rw [cornucopialaw1_NumBack.j0]) (ev_pos rfl (Ev.bind alive_ev (ev_const rfl)))
  by_cases hlen : (l0.length : Int) > 300
  · exact ev_pos hlen hskip
  · refine ev_neg hlen (Ev.bind (Short_ev 100 6000 l2 (by omega) (by omega)) ?_)
    by_cases hsh : (l2.length : Int) ≤ 100 ∧ sizes l2 ≤ 6000
    · rw [decide_eq_true hsh]
      have hroom := room_eq l2
      have hs : ∀ s ∈ l2, s.size ≤ 6000 := fun s hs => by have := sizes_mem hs; omega
      refine Ev.step (fun k => by rw [cornucopialaw1_NumBack.j0]) (ev_neg (by simp) ?_)
      have hz := zig_range g1
      have hvz := PuNum.Var_ev (l := [zig a1]) (by intro x hx; simp at hx; omega) (by simp)
      have ez : vbs [zig a1] = vb (zig a1).toNat := by simp [vbs]
      rw [ez] at hvz
      have n1 := vbs_len hl
      have n2 := vb_len10 (n := (zig a1).toNat) (by omega)
      have n3 := tx_len l2 (by omega)
      refine Ev.bind (PuNum.Var_ev hl (by omega)) (ev_call (Zig_eq g1) (Ev.bind hvz (ev_pos ?_ (Ev.bind (PuNum2.Text_ev l2 (by omega)) (ev_pos ?_ ?_)))))
      · rw [S_size, S_size]; omega
      · rw [S_append, S_size, S_size, List.length_append]; omega
      have hbo : num_Bool.f (decide (a1 > 0)) = some (strOfNums [if a1 > 0 then 1 else 0]) := by
        unfold num_Bool.f
        by_cases h : a1 > 0
        · rw [decide_eq_true h, if_pos rfl, if_pos h]; rfl
        · rw [decide_eq_false h, if_neg (by simp), if_neg h]; rfl
      refine ev_call hbo (ev_pos ?_ ?_)
      · rw [S_append, S_append, S_size, S_size]; simp only [List.length_append, List.length_singleton]; omega
      rw [S_append, S_append, S_append]
      refine ev_call (New_eq _ (by rw [S_size]; simp only [List.length_append, List.length_singleton]; omega)) ?_
      have := back_nums l0 hl (by omega) a1 g1 l2 a b (by omega) (by omega) hs (by omega) l0.length 0 (by omega)
      rw [List.drop_zero] at this
      simpa [List.append_assoc] using this
    · rw [decide_eq_false hsh]
      exact hskip
end Go.Proofs.Ytkpjipfjhniddaa.Pure
