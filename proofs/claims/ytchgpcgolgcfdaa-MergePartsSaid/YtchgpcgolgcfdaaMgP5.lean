/- Texts of this claim, put together and cut down to what is used (P5). -/
import Derived.Test.YtchgpcgolgcfdaaMgP4
import Derived.Test.YtchgpcgolgcfdaaMgP3
import Derived.Test.YtchgpcgolgcfdaaMgP1
section
namespace Go.Proofs.Ytchgpcgolgcfdaa.Mw
open Go Go.RowKit Go.Proofs.Ytchgpcgolgcfdaa.PNum Go.Proofs.Ytchgpcgolgcfdaa.BkW Go.Proofs.Ytchgpcgolgcfdaa.PuIkC Go.Proofs.Ytchgpcgolgcfdaa.PuLat Go.Proofs.Ytchgpcgolgcfdaa.Lt Go.Proofs.YtchgpcgolgcfdaaW.PrintWords Go.Proofs.YtchgpcgolgcfdaaW.PrintLast Go.Proofs.YtchgpcgolgcfdaaW.PrintMore Go.Proofs.YtchgpcgolgcfdaaW.Pu Go.Proofs.YtchgpcgolgcfdaaW.PuMrg Go.Proofs.Ytchgpcgolgcfdaa.Hp
set_option linter.unusedVariables false
set_option linter.unusedSimpArgs false
def okL (l : List E) : Prop := l.length ≤ 60 ∧ Srt ce l
set_option maxHeartbeats 16000000 in
set_option maxRecDepth 100000 in
theorem parts_calls (A0 : Option Addr) (c0 : Nat) (a : List E) (A1 : Option Addr) (c1 : Nat) (b : List E) (A2 : Option Addr) (c2 : Nat) (c : List E) (w : World) (hr0 : Kd.C k29 w A0 a.length a) (hc0 : a.length ≤ c0) (hr1 : Kd.C k29 w A1 b.length b) (hc1 : b.length ≤ c1) (hr2 : Kd.C k29 w A2 c.length c) (hc2 : c.length ≤ c2)
    (ha : ∀ e ∈ a, wfE e) (hb : ∀ e ∈ b, wfE e) (hc : ∀ e ∈ c, wfE e) :
    Calls Try.prog 4 #[.slice A0 a.length c0, .slice A1 b.length c1, .slice A2 c.length c2] w fun e w' => e = .returned (.bool true) ∧ Below w.heap.size w w' := by
  have HS : Aside0 (Sls w [.slice A0 a.length c0, .slice A1 b.length c1, .slice A2 c.length c2] [a, b, c]) := ⟨⟨⟨A0, c0, rfl, hc0, hr0⟩, ⟨A1, c1, rfl, hc1, hr1⟩, ⟨A2, c2, rfl, hc2, hr2⟩, trivial⟩⟩
  have HWF : Aside0 (∀ l ∈ [a, b, c], ∀ e ∈ l, wfE e) := ⟨by
    intro l hl
    simp only [List.mem_cons, List.not_mem_nil, or_false] at hl
    rcases hl with rfl | rfl | rfl <;> assumption⟩
  clear hr0 hc0 hr1 hc1 hr2 hc2 ha hb hc
  go_enter Try.func4, Try.ntmps4
  go_wp2
  go_loopw [8] (fun v8 w' => ∃ i : Nat, v8 = .int .i64 i ∧ i ≤ 3 ∧ Aside0 (w'.heap[w.heap.size]? = some (.cells #[.slice A0 a.length c0, .slice A1 b.length c1, .slice A2 c.length c2] 22 (0, 0))) ∧ Aside0 (Below w.heap.size w w') ∧ Aside0 (∀ j l, j < i → [a, b, c][j]? = some l → okL l)) (fun v8 _ => 3 - (intOf v8).toNat)
  case atStart => exact ⟨0, rfl, by omega, ⟨blk_new w _⟩, ⟨below_alloc (Below.refl _ _) _⟩, ⟨fun j l hj => by omega⟩⟩
  case round =>
    obtain ⟨i, rfl, hi, HK, HB, HO⟩ := hrel
    by_cases hlt : i < 3
    · have t0 : decide ((i : Int) < 3) = true := decide_eq_true (by omega)
      have p0 : (0 : Int) ≤ (i : Int) := Int.natCast_nonneg _
      obtain ⟨l, hl⟩ : ∃ l, [a, b, c][i]? = some l := ⟨_, List.getElem?_eq_getElem (by simpa using hlt)⟩
      obtain ⟨v, hv, hsl⟩ := HS.out.at_ i l hl
      have HSL := Aside0.mk hsl
      obtain ⟨A, cc, rfl, _, _⟩ := hsl
      have y0 : wr.cell? ⟨w.heap.size, i, none⟩ = some (.slice A l.length cc) := (blk_cell HK.out i).trans (by simpa using hv)
      have HWL : Aside0 (∀ e ∈ l, wfE e) := ⟨HWF.out l (List.mem_of_getElem? hl)⟩
      have HL := Aside0.mk hl
      have HLT := Aside0.mk hlt
      obtain ⟨b1, hb1, hq1⟩ := PuSm.Small_ev l (fun e he => ⟨(HWL.out e he).1, (HWL.out e he).2.1⟩)
      have HB1 := Aside0.mk hb1
      have q0 : (i : Int) < 3 := by omega
      have HV := Aside0.mk hv
      clear hl hv hb1
      cases b1
      · go_wp2_with (first
          | (go_at_call 9; refine (small_calls (HSL.out.below HB.out) false HB1.out).mono ?_; rintro e w1 ⟨rfl, hb⟩; have n0_ := Aside0.mk (below_step HB.out hb); clear HB HK; have HB := n0_; clear n0_ hb)
          | (go_at_call 11; refine (alive_calls _).mono ?_; rintro e w9 ⟨rfl, hb⟩; have n0_ := Aside0.mk (below_step HB.out hb); clear HB; have HB := n0_; clear n0_ hb))
        go_ret
        exact ⟨rfl, HB.out⟩
      · by_cases h60 : 60 < l.length
        · have t1 : decide ((60 : Int) < (l.length : Int)) = true := decide_eq_true (by omega)
          have t1' : decide (60 < l.length) = true := decide_eq_true h60
          go_wp2_with (first | (go_at_call 9; refine (small_calls (HSL.out.below HB.out) true HB1.out).mono ?_; rintro e w1 ⟨rfl, hb⟩; have n0_ := Aside0.mk (below_step HB.out hb); have n1_ := Aside0.mk (blk_below HK.out hb); clear HB HK y0; have HB := n0_; have HK := n1_; clear n0_ n1_ hb; have y0 : w1.cell? ⟨w.heap.size, i, none⟩ = some (.slice A l.length cc) := (blk_cell HK.out i).trans (by simpa using HV.out)) | (go_at_call 11; refine (alive_calls _).mono ?_; rintro e w9 ⟨rfl, hb⟩; have n0_ := Aside0.mk (below_step HB.out hb); clear HB; have HB := n0_; clear n0_ hb))
          go_ret
          exact ⟨rfl, HB.out⟩
        · have t1 : decide ((60 : Int) < (l.length : Int)) = false := decide_eq_false (by omega)
          have t1' : decide (60 < l.length) = false := decide_eq_false h60
          obtain ⟨o, ho, hq⟩ := PuOrd.Ordered_ev l (fun e he => (HWL.out e he).1) (by omega)
          have HO1 := Aside0.mk ho
          clear ho
          cases o
          · go_wp2_with (first | (go_at_call 9; refine (small_calls (HSL.out.below HB.out) true HB1.out).mono ?_; rintro e w1 ⟨rfl, hb⟩; have n0_ := Aside0.mk (below_step HB.out hb); have n1_ := Aside0.mk (blk_below HK.out hb); clear HB HK y0; have HB := n0_; have HK := n1_; clear n0_ n1_ hb; have y0 : w1.cell? ⟨w.heap.size, i, none⟩ = some (.slice A l.length cc) := (blk_cell HK.out i).trans (by simpa using HV.out)) | (go_at_call 10; refine (ordered_calls (HSL.out.below HB.out) false HO1.out).mono ?_; rintro e w2 ⟨rfl, hb⟩; have n0_ := Aside0.mk (below_step HB.out hb); have n1_ := Aside0.mk (blk_below HK.out hb); clear HB HK y0; have HB := n0_; have HK := n1_; clear n0_ n1_ hb) | (go_at_call 11; refine (alive_calls _).mono ?_; rintro e w9 ⟨rfl, hb⟩; have n0_ := Aside0.mk (below_step HB.out hb); clear HB; have HB := n0_; clear n0_ hb))
            go_ret
            exact ⟨rfl, HB.out⟩
          · have HSO : Aside0 (okL l) := ⟨⟨by omega, hq rfl⟩⟩
            go_wp2_with (first | (go_at_call 9; refine (small_calls (HSL.out.below HB.out) true HB1.out).mono ?_; rintro e w1 ⟨rfl, hb⟩; have n0_ := Aside0.mk (below_step HB.out hb); have n1_ := Aside0.mk (blk_below HK.out hb); clear HB HK y0; have HB := n0_; have HK := n1_; clear n0_ n1_ hb; have y0 : w1.cell? ⟨w.heap.size, i, none⟩ = some (.slice A l.length cc) := (blk_cell HK.out i).trans (by simpa using HV.out)) | (go_at_call 10; refine (ordered_calls (HSL.out.below HB.out) true HO1.out).mono ?_; rintro e w2 ⟨rfl, hb⟩; have n0_ := Aside0.mk (below_step HB.out hb); have n1_ := Aside0.mk (blk_below HK.out hb); clear HB HK y0; have HB := n0_; have HK := n1_; clear n0_ n1_ hb))
            go_roundw
            case rel => exact ⟨i + 1, by go_num, by omega, HK, HB, ⟨fun j x hj hx => by
              by_cases e : j = i
              · subst e
                rw [HL.out] at hx
                obtain rfl := Option.some.inj hx
                exact HSO.out
              · exact HO.out j x (by omega) hx⟩⟩
            case measure => simp [intOf]; omega
    · obtain rfl : i = 3 := by omega
      have t0 : decide ((3 : Int) < 3) = false := by decide
      have t0' : decide (((3 : Nat) : Int) < 3) = false := by decide
      have hka := HO.out 0 a (by omega) rfl
      have hkb := HO.out 1 b (by omega) rfl
      have hkc := HO.out 2 c (by omega) rfl
      have hwa := HWF.out a (by simp)
      have hwb := HWF.out b (by simp)
      have hwc := HWF.out c (by simp)
      obtain ⟨X, hX⟩ : ∃ X, X = mrg ce [a, b, c] := ⟨_, rfl⟩
      obtain ⟨Y, hY⟩ : ∃ X, X = mrg ce [a, b] := ⟨_, rfl⟩
      obtain ⟨Z, hZ⟩ : ∃ X, X = mrg ce [b, c] := ⟨_, rfl⟩
      have hsY : Srt ce Y := by rw [hY]; exact mrg_srt ordE (all2 hka.2 hkb.2)
      have hsZ : Srt ce Z := by rw [hZ]; exact mrg_srt ordE (all2 hkb.2 hkc.2)
      have hsX : Srt ce X := by rw [hX]; exact mrg_srt ordE (all3 hka.2 hkb.2 hkc.2)
      have hlY : Y.length ≤ 120 := by
        have h1 := mrg_len ce [a, b]
        rw [← hY] at h1
        simp at h1
        have h2 := hka.1
        have h3 := hkb.1
        omega
      have hlZ : Z.length ≤ 120 := by
        have h1 := mrg_len ce [b, c]
        rw [← hZ] at h1
        simp at h1
        have h2 := hkb.1
        have h3 := hkc.1
        omega
      have hlX : X.length ≤ 180 := by
        have h1 := mrg_len ce [a, b, c]
        rw [← hX] at h1
        simp at h1
        have h2 := hka.1
        have h3 := hkb.1
        have h4 := hkc.1
        omega
      have hwY : ∀ e ∈ Y, wfE e := fun e he => by
        rw [hY] at he
        obtain ⟨l, hl, h1⟩ := mrg_mem ordE (all2 hka.2 hkb.2) he
        exact HWF.out l (by simp at hl ⊢; rcases hl with h | h <;> simp [h]) e h1
      have hwZ : ∀ e ∈ Z, wfE e := fun e he => by
        rw [hZ] at he
        obtain ⟨l, hl, h1⟩ := mrg_mem ordE (all2 hkb.2 hkc.2) he
        exact HWF.out l (by simp at hl ⊢; rcases hl with h | h <;> simp [h]) e h1
      have hwX : ∀ e ∈ X, wfE e := fun e he => by
        rw [hX] at he
        obtain ⟨l, hl, h1⟩ := mrg_mem ordE (all3 hka.2 hkb.2 hkc.2) he
        exact HWF.out l hl e h1
      have fit2 : ∀ (x y : List E), Srt ce x → Srt ce y → (∀ e ∈ x, wfE e) → (∀ e ∈ y, wfE e) → x.length ≤ 120 → y.length ≤ 120 → merge_All.fit [x, y] = true := fun x y h1 h2 h3 h4 h5 h6 => fit_of (by simp) (all2 h1 h2) (fun l hl => by
        simp only [List.mem_cons, List.not_mem_nil, or_false] at hl
        rcases hl with rfl | rfl <;> assumption) (by simp; omega)
      have fit3 : ∀ (x y z : List E), Srt ce x → Srt ce y → Srt ce z → (∀ e ∈ x, wfE e) → (∀ e ∈ y, wfE e) → (∀ e ∈ z, wfE e) → x.length ≤ 120 → y.length ≤ 120 → z.length ≤ 120 → merge_All.fit [x, y, z] = true := fun x y z h1 h2 h3 h4 h5 h6 h7 h8 h9 => fit_of (by simp) (all3 h1 h2 h3) (fun l hl => by
        simp only [List.mem_cons, List.not_mem_nil, or_false] at hl
        rcases hl with rfl | rfl | rfl <;> assumption) (by simp; omega)
      have la : a.length ≤ 120 := by have := hka.1; omega
      have lb : b.length ≤ 120 := by have := hkb.1; omega
      have lc : c.length ≤ 120 := by have := hkc.1; omega
      have F3 := Aside0.mk (fit3 a b c hka.2 hkb.2 hkc.2 hwa hwb hwc la lb lc)
      have FY := Aside0.mk (fit2 a b hka.2 hkb.2 hwa hwb la lb)
      have FYC := Aside0.mk (fit2 Y c hsY hkc.2 hwY hwc hlY lc)
      have FZ := Aside0.mk (fit2 b c hkb.2 hkc.2 hwb hwc lb lc)
      have FAZ := Aside0.mk (fit2 a Z hka.2 hsZ hwa hwZ la hlZ)
      have FAA := Aside0.mk (fit3 a [] a hka.2 List.Pairwise.nil hka.2 hwa (fun e he => by simp at he) hwa la (by simp) la)
      have HX := Aside0.mk hX
      have HY := Aside0.mk hY
      have HZ := Aside0.mk hZ
      have HYC : Aside0 (X = mrg ce [Y, c]) := ⟨by rw [hX, hY]; exact (mrg_left ordE hka.2 hkb.2 hkc.2).symm⟩
      have HAZ : Aside0 (X = mrg ce [a, Z]) := ⟨by rw [hX, hZ]; exact (mrg_right ordE hka.2 hkb.2 hkc.2).symm⟩
      have HAA : Aside0 (a = mrg ce [a, [], a]) := ⟨(mrg_self ordE hka.2).symm⟩
      have HOX := Aside0.mk (PuOrd.Ordered_yes X (fun e he => (hwX e he).1) (by omega) hsX)
      have HXL : Aside0 (X.length ≤ 1000000) := ⟨by omega⟩
      have HAL : Aside0 (a.length ≤ 1000000) := ⟨by omega⟩
      have TK0 := Aside0.mk True.intro
      clear hX hY hZ hka hkb hkc hwa hwb hwc hwX hwY hwZ hsX hsY hsZ hlX hlY hlZ la lb lc fit2 fit3 HK HO HWF hlt hi
      go_wp2_with (first | (go_at_call 14; have t_ := TK0; refine (all_of (vs := [.slice A0 a.length c0, .slice A1 b.length c1, .slice A2 c.length c2]) (ls := [a, b, c]) (Sls.below HB.out HS.out) F3.out 3 rfl X HX.out).mono ?_; rintro e wa ⟨Ax, Axc, rfl, hAxc, hr, hb⟩; have RAx := Aside0.mk (Sl.of_rw hr hAxc); clear hr hAxc; have n0_ := Aside0.mk (below_step HB.out hb); clear HB; have HB := n0_; clear n0_ hb t_ TK0; have TK1 := Aside0.mk True.intro) | (go_at_call 11; refine (alive_calls _).mono ?_; rintro e wb ⟨rfl, hb⟩; have m0_ := Aside0.mk (RAx.out.below hb); clear RAx; have RAx := m0_; clear m0_; have n0_ := Aside0.mk (below_step HB.out hb); clear HB; have HB := n0_; clear n0_ hb) | (go_at_call 14; have t_ := TK1; refine (all_of (vs := [.slice A0 a.length c0, .slice A1 b.length c1]) (ls := [a, b]) (⟨(HS.out.1.below HB.out), (HS.out.2.1.below HB.out), trivial⟩) FY.out 2 rfl Y HY.out).mono ?_; rintro e wc ⟨Ay, Ayc, rfl, hAyc, hr, hb⟩; have RAy := Aside0.mk (Sl.of_rw hr hAyc); clear hr hAyc; have m0_ := Aside0.mk (RAx.out.below hb); clear RAx; have RAx := m0_; clear m0_; have n0_ := Aside0.mk (below_step HB.out hb); clear HB; have HB := n0_; clear n0_ hb t_ TK1; have TK2 := Aside0.mk True.intro) | (go_at_call 14; have t_ := TK2; refine (all_of (vs := [.slice Ay Y.length Ayc, .slice A2 c.length c2]) (ls := [Y, c]) (⟨RAy.out, (HS.out.2.2.1.below HB.out), trivial⟩) FYC.out 2 rfl X HYC.out).mono ?_; rintro e wd ⟨Ap, Apc, rfl, hApc, hr, hb⟩; have RAp := Aside0.mk (Sl.of_rw hr hApc); clear hr hApc; have m0_ := Aside0.mk (RAx.out.below hb); clear RAx; have RAx := m0_; clear m0_; have n0_ := Aside0.mk (below_step HB.out hb); clear HB; have HB := n0_; clear n0_ hb t_ TK2; have TK3 := Aside0.mk True.intro) | (go_at_call 13; have t_ := TK3; refine (same_calls RAp.out RAx.out HXL.out).mono ?_; rintro e we ⟨rfl, hb⟩; have m0_ := Aside0.mk (RAx.out.below hb); clear RAx; have RAx := m0_; clear m0_; have n0_ := Aside0.mk (below_step HB.out hb); clear HB; have HB := n0_; clear n0_ hb t_ TK3; have TK4 := Aside0.mk True.intro) | (go_at_call 14; have t_ := TK4; refine (all_of (vs := [.slice A1 b.length c1, .slice A2 c.length c2]) (ls := [b, c]) (⟨(HS.out.2.1.below HB.out), (HS.out.2.2.1.below HB.out), trivial⟩) FZ.out 2 rfl Z HZ.out).mono ?_; rintro e wf ⟨Az, Azc, rfl, hAzc, hr, hb⟩; have RAz := Aside0.mk (Sl.of_rw hr hAzc); clear hr hAzc; have m0_ := Aside0.mk (RAx.out.below hb); clear RAx; have RAx := m0_; clear m0_; have n0_ := Aside0.mk (below_step HB.out hb); clear HB; have HB := n0_; clear n0_ hb t_ TK4; have TK5 := Aside0.mk True.intro) | (go_at_call 14; have t_ := TK5; refine (all_of (vs := [.slice A0 a.length c0, .slice Az Z.length Azc]) (ls := [a, Z]) (⟨(HS.out.1.below HB.out), RAz.out, trivial⟩) FAZ.out 2 rfl X HAZ.out).mono ?_; rintro e wg ⟨Aq, Aqc, rfl, hAqc, hr, hb⟩; have RAq := Aside0.mk (Sl.of_rw hr hAqc); clear hr hAqc; have m0_ := Aside0.mk (RAx.out.below hb); clear RAx; have RAx := m0_; clear m0_; have n0_ := Aside0.mk (below_step HB.out hb); clear HB; have HB := n0_; clear n0_ hb t_ TK5; have TK6 := Aside0.mk True.intro) | (go_at_call 13; have t_ := TK6; refine (same_calls RAq.out RAx.out HXL.out).mono ?_; rintro e wh ⟨rfl, hb⟩; have m0_ := Aside0.mk (RAx.out.below hb); clear RAx; have RAx := m0_; clear m0_; have n0_ := Aside0.mk (below_step HB.out hb); clear HB; have HB := n0_; clear n0_ hb t_ TK6; have TK7 := Aside0.mk True.intro) | (go_at_call 14; have t_ := TK7; refine (all_of (vs := [.slice A0 a.length c0, .slice none 0 0, .slice A0 a.length c0]) (ls := [a, [], a]) (⟨(HS.out.1.below HB.out), ⟨none, 0, rfl, Nat.le_refl _, Kd.C_nil _ _⟩, (HS.out.1.below HB.out), trivial⟩) FAA.out 3 rfl a HAA.out).mono ?_; rintro e wi ⟨Ar, Arc, rfl, hArc, hr, hb⟩; have RAr := Aside0.mk (Sl.of_rw hr hArc); clear hr hArc; have m0_ := Aside0.mk (RAx.out.below hb); clear RAx; have RAx := m0_; clear m0_; have n0_ := Aside0.mk (below_step HB.out hb); clear HB; have HB := n0_; clear n0_ hb t_ TK7; have TK8 := Aside0.mk True.intro) | (go_at_call 13; have t_ := TK8; refine (same_calls RAr.out (HS.out.1.below HB.out) HAL.out).mono ?_; rintro e wj ⟨rfl, hb⟩; have m0_ := Aside0.mk (RAx.out.below hb); clear RAx; have RAx := m0_; clear m0_; have n0_ := Aside0.mk (below_step HB.out hb); clear HB; have HB := n0_; clear n0_ hb t_ TK8; have TK9 := Aside0.mk True.intro) | (go_at_call 10; refine (ordered_calls RAx.out true HOX.out).mono ?_; rintro e wk ⟨rfl, hb⟩; have n0_ := Aside0.mk (below_step HB.out hb); clear HB; have HB := n0_; clear n0_ hb))
      go_ret
      exact ⟨rfl, HB.out⟩
end Go.Proofs.Ytchgpcgolgcfdaa.Mw
end
section
namespace Go.Proofs.Ytchgpcgolgcfdaa.PNum
open Go.RowKit Go.Proofs.YtchgpcgolgcfdaaW.PrintWords Go.Proofs.YtchgpcgolgcfdaaW.PrintLast Go.Proofs.YtchgpcgolgcfdaaW.PrintMore
attribute [local go_sem] max2_int min2_int max_two min_two max_three min_three max_four min_four   -- for this text's walks alone
set_option linter.unusedVariables false
set_option linter.unusedSimpArgs false
def cornucopialaw14_MergeParts.wf (l : List S29) : Bool := l.all fun e => decide (e.f0.size ≤ 140737488351232 ∧ e.f3.size ≤ 140737488351232) && (Lit.int .u64 e.f1).wf
theorem cornucopialaw14_MergeParts.wf_iff (l : List S29) : cornucopialaw14_MergeParts.wf l = true ↔ ∀ e ∈ l, Go.Proofs.Ytchgpcgolgcfdaa.Mw.wfE e := by
  unfold cornucopialaw14_MergeParts.wf
  rw [List.all_eq_true]
  refine forall_congr' fun e => forall_congr' fun he => ?_
  simp only [Bool.and_eq_true, decide_eq_true_eq, and_assoc]
  rfl
def cornucopialaw14_MergeParts.f (l0 l1 l2 : List S29) : Option Bool := if (cornucopialaw14_MergeParts.wf l0 && cornucopialaw14_MergeParts.wf l1 && cornucopialaw14_MergeParts.wf l2) = true then some true else none
theorem cornucopialaw14_MergeParts.calls (A0 : Option Addr) (c0 : Nat) (l0 : List S29) (A1 : Option Addr) (c1 : Nat) (l1 : List S29) (A2 : Option Addr) (c2 : Nat) (l2 : List S29) (r : Bool) (w : World)
    (hr0 : Kd.C k29 w A0 l0.length l0) (hc0 : l0.length ≤ c0) (hr1 : Kd.C k29 w A1 l1.length l1) (hc1 : l1.length ≤ c1) (hr2 : Kd.C k29 w A2 l2.length l2) (hc2 : l2.length ≤ c2) (h : cornucopialaw14_MergeParts.f l0 l1 l2 = some r) :
    Calls Try.prog 4 #[.slice A0 l0.length c0, .slice A1 l1.length c1, .slice A2 l2.length c2] w fun e w' => e = .returned (.bool r) ∧ Below w.heap.size w w' := by
  unfold cornucopialaw14_MergeParts.f at h
  split at h
  case isFalse => cases h
  case isTrue hg =>
  obtain rfl : true = r := Option.some.inj h
  rw [Bool.and_eq_true, Bool.and_eq_true, cornucopialaw14_MergeParts.wf_iff, cornucopialaw14_MergeParts.wf_iff, cornucopialaw14_MergeParts.wf_iff] at hg
  exact Go.Proofs.Ytchgpcgolgcfdaa.Mw.parts_calls A0 c0 l0 A1 c1 l1 A2 c2 l2 w hr0 hc0 hr1 hc1 hr2 hc2 hg.1.1 hg.1.2 hg.2
def cornucopialaw14_MergeParts.Pure : Prop := ∀ (l0 : List (S29)) (l1 : List (S29)) (l2 : List (S29)), l0.length * 48 ≤ 140737488351232 → (∀ x_ ∈ l0, wfS29 x_) → l1.length * 48 ≤ 140737488351232 → (∀ x_ ∈ l1, wfS29 x_) → l2.length * 48 ≤ 140737488351232 → (∀ x_ ∈ l2, wfS29 x_) → cornucopialaw14_MergeParts.f l0 l1 l2 = some true
theorem cornucopialaw14_MergeParts.walk (P : cornucopialaw14_MergeParts.Pure) (A0 : Option Addr) (c0 : Nat) (l0 : List (S29)) (A1 : Option Addr) (c1 : Nat) (l1 : List (S29)) (A2 : Option Addr) (c2 : Nat) (l2 : List (S29)) (w : World) (hr0 : Kd.C k29 w A0 l0.length l0) (hc0 : l0.length ≤ c0) (w0_0 : l0.length * 48 ≤ 140737488351232) (w0_1 : (∀ x_ ∈ l0, wfS29 x_)) (hr1 : Kd.C k29 w A1 l1.length l1) (hc1 : l1.length ≤ c1) (w1_0 : l1.length * 48 ≤ 140737488351232) (w1_1 : (∀ x_ ∈ l1, wfS29 x_)) (hr2 : Kd.C k29 w A2 l2.length l2) (hc2 : l2.length ≤ c2) (w2_0 : l2.length * 48 ≤ 140737488351232) (w2_1 : (∀ x_ ∈ l2, wfS29 x_)) :
    Calls Try.prog 4 #[.slice A0 l0.length c0, .slice A1 l1.length c1, .slice A2 l2.length c2] w fun e w' => e = .returned (.bool true) ∧ Below w.heap.size w w' := by
  have h := P l0 l1 l2 w0_0 w0_1 w1_0 w1_1 w2_0 w2_1
  refine (cornucopialaw14_MergeParts.calls _ _ l0 _ _ l1 _ _ l2 true w hr0 hc0 hr1 hc1 hr2 hc2 h).mono ?_
  rintro e w' ⟨rfl, hd⟩
  exact ⟨rfl, hd⟩
end Go.Proofs.Ytchgpcgolgcfdaa.PNum
end
section
namespace Go.Proofs.Ytchgpcgolgcfdaa.Pure
open Go Go.RowKit Go.Proofs.Ytchgpcgolgcfdaa.PNum
theorem MergeParts : cornucopialaw14_MergeParts.Pure := by
  intro l0 l1 l2 _ h0 _ h1 _ h2
  have hw : ∀ l : List S29, (∀ e ∈ l, wfS29 e) → cornucopialaw14_MergeParts.wf l = true := fun l h => (cornucopialaw14_MergeParts.wf_iff l).2 fun e he => ⟨(h e he).1, (h e he).2.2.2, (h e he).2.1⟩
  unfold cornucopialaw14_MergeParts.f
  exact if_pos (by rw [hw l0 h0, hw l1 h1, hw l2 h2]; rfl)
end Go.Proofs.Ytchgpcgolgcfdaa.Pure
end
